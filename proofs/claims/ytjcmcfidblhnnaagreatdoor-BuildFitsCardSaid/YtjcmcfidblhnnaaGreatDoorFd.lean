/- Each function's body, opened into a plain condition by program (vcgen. -/
import Derived.Test.YtjcmcfidblhnnaaGreatDoorFb
import Derived.Test.YtjcmcfidblhnnaaGreatDoorFc
import Derived.Test.YtjcmcfidblhnnaaGreatDoorProg
import Derived.KernelRfl
namespace Go.Proofs.YtjcmcfidblhnnaaGreatDoor
open Go.Vc Tryz Instr
open Dn
open Tryz Instr
variable {t0 t1 t2 t3 t4 t5 t6 t7 t8 t9:Y} {w:O} {R:Y->O->Prop}
open Go.Vc
def aLs:bT:=(q (s (q (cn (q l) l)) (s (q (bk (.loop ([4,5]++rg 13 25) [13] (q (s (cn l l) (s (bk (q (s (.draw [0,0,3,4,0,0,48,64,136] [0,0,3,4,0,0,48,64,136] 0 9 511 (tk (rg 0 8) .done)) (cn (q l) l)))) l)))))) (q l))))
def PM (t0 t1:Y) (w:O) (R:Y->O->Prop):Prop:=
 v (ln 23 3 t0) w λt7 w=>v (ln 23 3 t1) w λt9 w=>v (e .neq 3 (.tmp 7) (.tmp 9) t7 t9) w λt10 w=>aI t10 (R (.bool false) w) (v (ln 23 3 t0) w λt12 w=>∃ (I1:NP 1) (μ1:NF 1),I1 (i64 0) w /\
 ∀ t13 w5,I1 t13 w5->∀ _f:bM,v (b .lss t13 t12) w5 λt14 w6=>aI t14 (aK w6 λS6 w=>yi S6 23 t0 t13 3 λt19=>yi S6 23 t1 t13 3 λt23=>y S6 (e .neq 3 (.tmp 19) (.tmp 23) t19 t23) λt24=>aI t24 (R (.bool false) w) (v (b .add t13 (i64 1)) w λt25 w=>I1 t25 w/\μ1 t25 w < μ1 t13 w5)) (R (.bool true) w6))
theorem aWp (h:PM t0 t1 w R):aC prog 169 #[t0,t1] w R:=dw aLs func169 h
def aLr:bT:=(q (s (q (bk (q (cn (s (.draw [0,1,2,4,0,16,40,64,128,256,1023] [0,1,2,4,0,16,40,64,128,256,512] 0 11 2047 (tk (rg 0 7) (.only 8 (.only 9 (.take 10 .done))))) l) (q (cn (s (.draw [0,1,2,4,8,0,32,80,128,256,512,2047] [0,1,2,4,8,0,32,80,128,256,512,1024] 0 12 4095 (tk (rg 0 8) (.only 9 (.only 10 (.take 11 .done))))) l) (.join [32,33,34] [32] (q (cn l l)) (cn (q l) (.join [37,38,39] [37] (q (cn l l)) (cn (q l) (.join (rg 42 54) [42] (q (cn l (q (cn l (q (cn l (q (cn l (q (cn l (q (cn l (q (cn l (q (cn l (q (cn l (q (cn l (q (cn l l)))))))))))))))))))))) (cn (q l) (.join [57,58,59] [57] (q (cn l l)) (cn (q l) (q (cn (q l) (.join [66,67,68] [66] (q (cn l l)) (cn (q l) (.join [71,72,73] [71] (q (cn l l)) (cn (q l) (q (cn (q l) (q (cn (q l) (.join [84,85,86] [84] (q (cn l l)) (cn (q l) (q (cn (q l) (q (cn (s (.draw [0,1,2,4,8,0,32,80,128,256,1023] [0,1,2,4,8,0,32,80,128,256,512] 0 11 2047 (tk (rg 0 10) .done)) l) (q (cn (s (.draw [0,1,2,4,8,0,32,80,128,256,1023] [0,1,2,4,8,0,32,80,128,256,512] 0 11 2047 (tk (rg 0 10) .done)) l) (q (cn (q l) l)))))))))))))))))))))))))))))))))) (q l)))
def PL (t0 t1:Y) (w:O) (R:Y->O->Prop):Prop:=
 v (box 88 t1) w λt3 w=>fl 88 t3 0 3 w λt6 w=>v (et .eql 3 6 t6 (i64 3)) w λt8 w4=>aI t8 (aK w4 λS3 w=>Go.Vc.bL (t0) /\
 yf S3 166 t0 2 23 λt12=>yf S3 88 t3 1 3 λt14=>yi S3 23 t12 t14 3 λt16=>v (buildSlice 23 1 #[(0,t16)]) w λt17 w=>S3 w /\
 c 202 #[t17] w λt18 w=>S3 w /\
 R t18 w) (v (et .eql 3 6 t6 (i64 34)) w4 λt20 w8=>aI t20 (aK w8 λS5 w=>Go.Vc.bL (t0) /\
 y S5 (fieldAt 166 t0 0) λt23=>yf S5 27 t23 1 23 λt25=>yf S5 88 t3 1 3 λt27=>yi S5 23 t25 t27 3 λt29=>v (buildSlice 23 1 #[(0,t29)]) w λt30 w=>S5 w /\
 c 202 #[t30] w λt31 w=>S5 w /\
 R t31 w) (∃ J1:NP 1,(v (et .eql 3 6 t6 (i64 4)) w8 λt33 w=>aI t33 (J1 t33 w) (v (et .eql 3 6 t6 (i64 5)) w λt34 w=>J1 t34 w)) /\
 ∀ t32 w14,J1 t32 w14->∀ _f:bM,aI t32 (v (buildSlice 23 1 #[(0,(i64 (-1)))]) w14 λt35 w=>c 202 #[t35] w λt36 w=>R t36 w) (∃ J2:NP 1,(v (et .eql 3 6 t6 (i64 15)) w14 λt38 w=>aI t38 (J2 t38 w) (v (et .eql 3 6 t6 (i64 16)) w λt39 w=>J2 t39 w)) /\
 ∀ t37 w19,J2 t37 w19->∀ _f:bM,aI t37 (v (buildSlice 23 1 #[(0,(i64 (-2)))]) w19 λt40 w=>c 202 #[t40] w λt41 w=>R t41 w) (∃ J3:NP 1,(v (et .eql 3 6 t6 (i64 6)) w19 λt43 w=>aI t43 (J3 t43 w) (v (et .eql 3 6 t6 (i64 7)) w λt44 w=>aI t44 (J3 t44 w) (v (et .eql 3 6 t6 (i64 8)) w λt45 w=>aI t45 (J3 t45 w) (v (et .eql 3 6 t6 (i64 9)) w λt46 w=>aI t46 (J3 t46 w) (v (et .eql 3 6 t6 (i64 10)) w λt47 w=>aI t47 (J3 t47 w) (v (et .eql 3 6 t6 (i64 11)) w λt48 w=>aI t48 (J3 t48 w) (v (et .eql 3 6 t6 (i64 12)) w λt49 w=>aI t49 (J3 t49 w) (v (et .eql 3 6 t6 (i64 13)) w λt50 w=>aI t50 (J3 t50 w) (v (et .eql 3 6 t6 (i64 14)) w λt51 w=>aI t51 (J3 t51 w) (v (et .eql 3 6 t6 (i64 19)) w λt52 w=>aI t52 (J3 t52 w) (v (et .eql 3 6 t6 (i64 20)) w λt53 w=>aI t53 (J3 t53 w) (v (et .eql 3 6 t6 (i64 21)) w λt54 w=>J3 t54 w)))))))))))) /\
 ∀ t42 w34,J3 t42 w34->∀ _f:bM,aI t42 (v (buildSlice 23 2 #[(0,(i64 (-2))),(1,(i64 (-2)))]) w34 λt55 w=>c 202 #[t55] w λt56 w=>R t56 w) (∃ J4:NP 1,(v (et .eql 3 6 t6 (i64 17)) w34 λt58 w=>aI t58 (J4 t58 w) (v (et .eql 3 6 t6 (i64 18)) w λt59 w=>J4 t59 w)) /\
 ∀ t57 w39,J4 t57 w39->∀ _f:bM,aI t57 (v (buildSlice 23 2 #[(0,(i64 (-3))),(1,(i64 (-3)))]) w39 λt60 w=>c 202 #[t60] w λt61 w=>R t61 w) (v (et .eql 3 6 t6 (i64 22)) w39 λt63 w42=>aI t63 (v (buildSlice 23 3 #[(0,(i64 (-2))),(1,(i64 (-1))),(2,(i64 (-1)))]) w42 λt64 w=>c 202 #[t64] w λt65 w=>R t65 w) (∃ J5:NP 1,(v (et .eql 3 6 t6 (i64 24)) w42 λt67 w=>aI t67 (J5 t67 w) (v (et .eql 3 6 t6 (i64 27)) w λt68 w=>J5 t68 w)) /\
 ∀ t66 w47,J5 t66 w47->∀ _f:bM,aI t66 (v (buildSlice 23 1 #[(0,(i64 (-3)))]) w47 λt69 w=>c 202 #[t69] w λt70 w=>R t70 w) (∃ J6:NP 1,(v (et .eql 3 6 t6 (i64 26)) w47 λt72 w=>aI t72 (J6 t72 w) (v (et .eql 3 6 t6 (i64 28)) w λt73 w=>J6 t73 w)) /\
 ∀ t71 w52,J6 t71 w52->∀ _f:bM,aI t71 (v (buildSlice 23 1 #[(0,(i64 (-4)))]) w52 λt74 w=>c 202 #[t74] w λt75 w=>R t75 w) (v (et .eql 3 6 t6 (i64 29)) w52 λt77 w55=>aI t77 (v (buildSlice 23 2 #[(0,(i64 (-4))),(1,(i64 (-3)))]) w55 λt78 w=>c 202 #[t78] w λt79 w=>R t79 w) (v (et .eql 3 6 t6 (i64 30)) w55 λt81 w58=>aI t81 (v (buildSlice 23 3 #[(0,(i64 (-4))),(1,(i64 (-3))),(2,(i64 (-2)))]) w58 λt82 w=>c 202 #[t82] w λt83 w=>R t83 w) (∃ J7:NP 1,(v (et .eql 3 6 t6 (i64 31)) w58 λt85 w=>aI t85 (J7 t85 w) (v (et .eql 3 6 t6 (i64 32)) w λt86 w=>J7 t86 w)) /\
 ∀ t84 w63,J7 t84 w63->∀ _f:bM,aI t84 (v (buildSlice 23 5 #[(0,(i64 (-4))),(1,(i64 (-3))),(2,(i64 (-4))),(3,(i64 (-3))),(4,(i64 (-3)))]) w63 λt87 w=>c 202 #[t87] w λt88 w=>R t88 w) (v (et .eql 3 6 t6 (i64 36)) w63 λt90 w66=>aI t90 (v (buildSlice 23 3 #[(0,(i64 (-4))),(1,(i64 (-3))),(2,(i64 (-3)))]) w66 λt91 w=>c 202 #[t91] w λt92 w=>R t92 w) (v (et .eql 3 6 t6 (i64 37)) w66 λt94 w69=>aI t94 (aK w69 λS46 w=>Go.Vc.bL (t0) /\
 y S46 (fieldAt 166 t0 0) λt97=>yf S46 27 t97 3 25 λt99=>yf S46 88 t3 1 3 λt101=>y S46 (indexAt 25 t99 t101) λt102=>yf S46 38 t102 0 23 λt104=>R t104 w) (v (et .eql 3 6 t6 (i64 38)) w69 λt106 w71=>aI t106 (aK w71 λS48 w=>Go.Vc.bL (t0) /\
 y S48 (fieldAt 166 t0 0) λt109=>yf S48 27 t109 2 24 λt111=>yf S48 88 t3 1 3 λt113=>y S48 (indexAt 24 t111 t113) λt114=>yf S48 146 t114 2 23 λt116=>R t116 w) (v (et .eql 3 6 t6 (i64 39)) w71 λt118 w73=>aI t118 (Go.Vc.bL (t0) /\
 v (fieldAt 166 t0 1) w73 λt121 w=>fl 38 t121 1 3 w λt123 w=>c 203 #[t123] w λt124 w=>R t124 w) (R aX w73))))))))))))))))
theorem aWn (h:PL t0 t1 w R):aC prog 170 #[t0,t1] w R:=dw aLr func170 h
def aLq:bT:=(q (q (q l)))
def PK (t0 t1:Y) (w:O) (R:Y->O->Prop):Prop:=
 v (box 88 t1) w λt3 w=>v (makeSlice 23 (i64 8) (i64 8)) w λt6 w=>v (loadAt 88 t3) w λt8 w=>c 174 #[t0,t8,t6] w λt10 w=>v (ln 23 3 t10) w λt11 w=>R t11 w
theorem aWm (h:PK t0 t1 w R):aC prog 171 #[t0,t1] w R:=dw aLq func171 h
def aLp:bT:=(q (s (q (bk (.loop ([6,7,8]++rg 13 25) [13] (q (s (cn l l) (s (bk (q (q (cn (q l) l)))) l)))))) (s (s (.draw [0,1,2,4,8,24,40,72,136,256,768,1280,2304,4360,8200,16392,36864,65536,196608,327680,589824,1114112,2097152,6291456,10485760,2097152,35651584,69206016,153092096,270598144,536936448,1073807360] [0,1,2,4,8,24,40,72,136,256,768,1280,2304,4360,8200,16392,32768,65536,196608,327680,589824,1114112,2097152,6291456,10485760,2097152,35651584,69206016,153092096,270598144,536936448,1073807360] 0 32 4294967295 (tk (rg 0 6) (.only 7 (tk (rg 8 11) (.only 12 (tk (rg 13 19) (.only 20 (tk (rg 21 31) .done)))))))) (cn (q l) l)) (q l))))
def PJ (t0 t1 t2:Y) (w:O) (R:Y->O->Prop):Prop:=
 v (box 88 t1) w λt4 w=>v (loadAt 88 t4) w λt10 w=>c 170 #[t0,t10] w λt11 w=>v (ln 23 3 t11) w λt12 w=>∃ (I1:NP 1) (μ1:NF 1),I1 (i64 0) w /\
 ∀ t13 w5,I1 t13 w5->∀ _f:bM,v (b .lss t13 t12) w5 λt14 w6=>aI t14 (il 23 t11 t13 3 w6 λt17 w=>il 23 t2 t13 3 w λt21 w=>c 204 #[t21,t17] w λt23 w=>v (Op.unary UnOp.not t23) w λt24 w=>aI t24 (R (i64 11) w) (v (b .add t13 (i64 1)) w λt25 w=>I1 t25 w/\μ1 t25 w < μ1 t13 w5)) (aK w6 λS7 w=>yf S7 88 t4 0 3 λt27=>y S7 (et .eql 3 27 t27 (i64 22)) λt28=>gx t28 true t2 λt30=>gy t28 true S7 (indexAt 23 t30 (i64 1)) λt31=>gy t28 true S7 (loadAt 3 t31) λt32=>gd t28 true (λK=> c 205 #[t32] w K) w λt33 w=>S7 w /\
 gx t28 true t33 λt34=>gx t34 true t2 λt35=>gy t34 true S7 (indexAt 23 t35 (i64 2)) λt36=>gy t34 true S7 (loadAt 3 t36) λt37=>gd t34 true (λK=> c 205 #[t37] w K) w λt38 w=>S7 w /\
 FV t28 true (λK=> aF t34 t38 (.bool false) K) λt39=>gy t28 true S7 (Op.unary UnOp.not t39) λt40=>aF t28 t40 (.bool false) λt41=>gx t41 true t2 λt43=>gy t41 true S7 (indexAt 23 t43 (i64 1)) λt44=>gy t41 true S7 (loadAt 3 t44) λt45=>gd t41 true (λK=> c 206 #[t45] w K) w λt46 w=>S7 w /\
 gx t41 true t46 λt47=>gx t47 true t2 λt48=>gy t47 true S7 (indexAt 23 t48 (i64 1)) λt49=>gy t47 true S7 (loadAt 3 t49) λt50=>gx t47 true t2 λt51=>gy t47 true S7 (indexAt 23 t51 (i64 2)) λt52=>gy t47 true S7 (loadAt 3 t52) λt53=>gy t47 true S7 (e .eql 3 (.tmp 50) (.tmp 53) t50 t53) λt54=>FV t41 true (λK=> aF t47 t54 (.bool false) K) λt55=>gy t41 true S7 (Op.unary UnOp.not t55) λt56=>aF t41 t56 (.bool false) λt57=>aI t57 (R (i64 11) w) (R (i64 0) w))
theorem aWl (h:PJ t0 t1 t2 w R):aC prog 172 #[t0,t1,t2] w R:=dw aLp func172 h
def aLo:bT:=(q (q (s (q (bk (.loop ([7,8,9]++rg 14 28) [7,14] (q (s (cn l l) (s (bk (q l)) l)))))) (s (q (bk (q (cn l (q (cn l (q (cn l (q (cn l l)))))))))) (s (q (cn (q l) l)) (q l))))))
def PI (t0 t1 t2:Y) (w:O) (R:Y->O->Prop):Prop:=
 v (box 88 t1) w λt4 w=>v (loadAt 88 t4) w λt11 w=>c 170 #[t0,t11] w λt12 w=>v (ln 23 3 t12) w λt13 w=>∃ (I1:NP 2) (μ1:NF 2),I1 (.bool false) (i64 0) w /\
 ∀ t7 t14 w5,I1 t7 t14 w5->∀ _f:bM,v (b .lss t14 t13) w5 λt15 w6=>aI t15 (il 23 t12 t14 3 w6 λt18 w=>gk t7 false t2 w λt21 w=>gk t7 false t14 w λt22 w=>g t7 false (indexAt 23 t21 t22) w λt23 w=>g t7 false (loadAt 3 t23) w λt24 w=>gk t7 false t18 w λt25 w=>gd t7 false (λK=> c 207 #[t24,t25] w K) w λt26 w=>aF t7 (.bool true) t26 λt27=>v (b .add t14 (i64 1)) w λt28 w=>I1 t27 t28 w/\μ1 t27 t28 w < μ1 t7 t14 w5) (fl 88 t4 0 3 w6 λt30 w=>v (et .eql 3 30 t30 (i64 22)) w λt32 w19=>aI t32 (il 23 t2 (i64 1) 3 w19 λt35 w=>c 206 #[t35] w λt36 w=>gk t36 true t2 w λt38 w=>g t36 true (indexAt 23 t38 (i64 0)) w λt39 w=>g t36 true (loadAt 3 t39) w λt40 w=>g t36 true (et .eql 3 40 t40 (i64 2)) w λt41 w=>aF t36 t41 (.bool false) λt42=>aI t42 (R (i64 12) w) (R (i64 0) w)) (v (et .eql 3 30 t30 (i64 30)) w19 λt44 w28=>aI t44 (gk t7 false t2 w28 λt47 w=>g t7 false (indexAt 23 t47 (i64 0)) w λt48 w=>g t7 false (loadAt 3 t48) w λt49 w=>g t7 false (et .eql 3 49 t49 (i64 3)) w λt50 w=>gk t7 false t50 w λt51 w=>gk t51 true t2 w λt52 w=>g t51 true (indexAt 23 t52 (i64 2)) w λt53 w=>g t51 true (loadAt 3 t53) w λt54 w=>g t51 true (et .eql 3 54 t54 (i64 2)) w λt55 w=>gd t7 false (λK=> aF t51 t55 (.bool false) λv=> K v w) w λt56 w=>aF t7 (.bool true) t56 λt57=>aI t57 (R (i64 12) w) (R (i64 0) w)) (v (et .eql 3 30 t30 (i64 31)) w28 λt59 w40=>aI t59 (gk t7 false t2 w40 λt62 w=>g t7 false (indexAt 23 t62 (i64 0)) w λt63 w=>g t7 false (loadAt 3 t63) w λt64 w=>g t7 false (et .eql 3 64 t64 (i64 3)) w λt65 w=>gk t7 false t65 w λt66 w=>gk t66 true t2 w λt67 w=>g t66 true (indexAt 23 t67 (i64 2)) w λt68 w=>g t66 true (loadAt 3 t68) w λt69 w=>g t66 true (et .eql 3 69 t69 (i64 4)) w λt70 w=>gd t7 false (λK=> aF t66 t70 (.bool false) λv=> K v w) w λt71 w=>aF t7 (.bool true) t71 λt72=>aI t72 (R (i64 12) w) (R (i64 0) w)) (v (et .eql 3 30 t30 (i64 36)) w40 λt74 w52=>aI t74 (g t7 false (fieldAt 88 t4 1) w52 λt77 w=>g t7 false (loadAt 3 t77) w λt78 w=>g t7 false (et .eql 3 78 t78 (i64 1)) w λt79 w=>gk t7 false t79 w λt80 w=>gk t80 true t2 w λt81 w=>g t80 true (indexAt 23 t81 (i64 0)) w λt82 w=>g t80 true (loadAt 3 t82) w λt83 w=>g t80 true (et .eql 3 83 t83 (i64 4)) w λt84 w=>gd t7 false (λK=> aF t80 t84 (.bool false) λv=> K v w) w λt85 w=>aF t7 (.bool true) t85 λt86=>aI t86 (R (i64 12) w) (R (i64 0) w)) (aI t7 (R (i64 12) w52) (R (i64 0) w52))))))
theorem aWk (h:PI t0 t1 t2 w R):aC prog 173 #[t0,t1,t2] w R:=dw aLo func173 h
def aLn:bT:=(q (s (q (bk (.join (rg 9 14) [9] (q (cn l (q (cn l (q (cn l (q (cn l l)))))))) (cn (q l) (q (cn (s (.draw [0,1,2,4,0,16,40,64,128,256,1023] [0,1,2,4,0,16,40,64,128,256,512] 0 11 2047 (tk (rg 0 7) (.only 8 (.only 9 (.take 10 .done))))) l) (q (cn (s (.draw [0,1,2,4,8,0,32,80,128,256,512,2047] [0,1,2,4,8,0,32,80,128,256,512,1024] 0 12 4095 (tk (rg 0 8) (.only 9 (.only 10 (.take 11 .done))))) l) (q (cn (s (.draw [0,1,2,0,8,16,36,64,255] [0,1,2,0,8,16,36,64,128] 0 9 511 (tk (rg 0 5) (.only 6 (.only 7 (.take 8 .done))))) l) (.join (rg 52 64) [52] (q (cn l (q (cn l (q (cn l (q (cn l (q (cn l (q (cn l (q (cn l (q (cn l (q (cn l (q (cn l (q (cn l l)))))))))))))))))))))) (cn (s (.draw [0,1,2,0,8,16,36,64,192,511] [0,1,2,0,8,16,36,64,128,256] 0 10 1023 (tk (rg 0 5) (.only 6 (.only 7 (.only 8 (.take 9 .done)))))) l) (.join [74,75,76] [74] (q (cn l l)) (cn (q l) (q (cn (q l) (.join [88,89,90] [88] (q (cn l l)) (cn (q l) (q (cn (q l) (q (cn (s (q (cn (q l) l)) (q l)) (q (cn (q l) (q (cn (s (.draw [0,1,2,4,8,0,32,80,128,256,512,2047] [0,1,2,4,8,0,32,80,128,256,512,1024] 0 12 4095 (tk (rg 0 9) (.only 10 (.take 11 .done)))) l) (q (cn (s (.draw [0,1,2,4,8,0,32,80,128,256,512,2047] [0,1,2,4,8,0,32,80,128,256,512,1024] 0 12 4095 (tk (rg 0 9) (.only 10 (.take 11 .done)))) l) l)))))))))))))))))))))))))))) (q l)))
def PH (t0 t1 t2:Y) (w:O) (R:Y->O->Prop):Prop:=
 v (box 88 t1) w λt4 w=>fl 88 t4 0 3 w λt8 w=>∃ J1:NP 1,(v (et .eql 3 8 t8 (i64 1)) w λt10 w=>aI t10 (J1 t10 w) (v (et .eql 3 8 t8 (i64 17)) w λt11 w=>aI t11 (J1 t11 w) (v (et .eql 3 8 t8 (i64 18)) w λt12 w=>aI t12 (J1 t12 w) (v (et .eql 3 8 t8 (i64 26)) w λt13 w=>aI t13 (J1 t13 w) (v (et .eql 3 8 t8 (i64 28)) w λt14 w=>J1 t14 w))))) /\
 ∀ t9 w9,J1 t9 w9->∀ _f:bM,aI t9 (v (buildSlice 23 1 #[(0,(i64 1))]) w9 λt15 w=>c 202 #[t15] w λt16 w=>R t16 w) (v (et .eql 3 8 t8 (i64 2)) w9 λt18 w12=>aI t18 (aK w12 λS9 w=>Go.Vc.bL (t0) /\
 yf S9 166 t0 2 23 λt22=>yf S9 88 t4 1 3 λt24=>yi S9 23 t22 t24 3 λt26=>v (buildSlice 23 1 #[(0,t26)]) w λt27 w=>S9 w /\
 c 202 #[t27] w λt28 w=>S9 w /\
 R t28 w) (v (et .eql 3 8 t8 (i64 33)) w12 λt30 w16=>aI t30 (aK w16 λS11 w=>Go.Vc.bL (t0) /\
 y S11 (fieldAt 166 t0 0) λt33=>yf S11 27 t33 1 23 λt35=>yf S11 88 t4 1 3 λt37=>yi S11 23 t35 t37 3 λt39=>v (buildSlice 23 1 #[(0,t39)]) w λt40 w=>S11 w /\
 c 202 #[t40] w λt41 w=>S11 w /\
 R t41 w) (v (et .eql 3 8 t8 (i64 5)) w16 λt43 w20=>aI t43 (aK w20 λS13 w=>yi S13 23 t2 (i64 0) 3 λt46=>yi S13 23 t2 (i64 0) 3 λt49=>v (buildSlice 23 2 #[(0,t46),(1,t49)]) w λt50 w=>S13 w /\
 c 202 #[t50] w λt51 w=>S13 w /\
 R t51 w) (∃ J2:NP 1,(v (et .eql 3 8 t8 (i64 6)) w20 λt53 w=>aI t53 (J2 t53 w) (v (et .eql 3 8 t8 (i64 7)) w λt54 w=>aI t54 (J2 t54 w) (v (et .eql 3 8 t8 (i64 8)) w λt55 w=>aI t55 (J2 t55 w) (v (et .eql 3 8 t8 (i64 9)) w λt56 w=>aI t56 (J2 t56 w) (v (et .eql 3 8 t8 (i64 10)) w λt57 w=>aI t57 (J2 t57 w) (v (et .eql 3 8 t8 (i64 11)) w λt58 w=>aI t58 (J2 t58 w) (v (et .eql 3 8 t8 (i64 12)) w λt59 w=>aI t59 (J2 t59 w) (v (et .eql 3 8 t8 (i64 13)) w λt60 w=>aI t60 (J2 t60 w) (v (et .eql 3 8 t8 (i64 14)) w λt61 w=>aI t61 (J2 t61 w) (v (et .eql 3 8 t8 (i64 19)) w λt62 w=>aI t62 (J2 t62 w) (v (et .eql 3 8 t8 (i64 20)) w λt63 w=>aI t63 (J2 t63 w) (v (et .eql 3 8 t8 (i64 21)) w λt64 w=>J2 t64 w)))))))))))) /\
 ∀ t52 w36,J2 t52 w36->∀ _f:bM,aI t52 (aK w36 λS26 w=>yi S26 23 t2 (i64 0) 3 λt67=>yi S26 23 t2 (i64 1) 3 λt70=>c 208 #[t67,t70] w λt71 w=>S26 w /\
 v (buildSlice 23 1 #[(0,t71)]) w λt72 w=>S26 w /\
 c 202 #[t72] w λt73 w=>S26 w /\
 R t73 w) (∃ J3:NP 1,(v (et .eql 3 8 t8 (i64 15)) w36 λt75 w=>aI t75 (J3 t75 w) (v (et .eql 3 8 t8 (i64 16)) w λt76 w=>J3 t76 w)) /\
 ∀ t74 w43,J3 t74 w43->∀ _f:bM,aI t74 (il 23 t2 (i64 0) 3 w43 λt79 w=>v (buildSlice 23 1 #[(0,t79)]) w λt80 w=>c 202 #[t80] w λt81 w=>R t81 w) (v (et .eql 3 8 t8 (i64 22)) w43 λt83 w48=>aI t83 (c 209 #[t2] w48 λt85 w=>v (buildSlice 23 1 #[(0,t85)]) w λt86 w=>c 202 #[t86] w λt87 w=>R t87 w) (∃ J4:NP 1,(v (et .eql 3 8 t8 (i64 25)) w48 λt89 w=>aI t89 (J4 t89 w) (v (et .eql 3 8 t8 (i64 27)) w λt90 w=>J4 t90 w)) /\
 ∀ t88 w54,J4 t88 w54->∀ _f:bM,aI t88 (fl 88 t4 1 3 w54 λt92 w=>v (buildSlice 23 1 #[(0,t92)]) w λt93 w=>c 202 #[t93] w λt94 w=>R t94 w) (v (et .eql 3 8 t8 (i64 29)) w54 λt96 w59=>aI t96 (il 23 t2 (i64 0) 3 w59 λt99 w=>c 210 #[t99] w λt100 w=>v (buildSlice 23 1 #[(0,t100)]) w λt101 w=>c 202 #[t101] w λt102 w=>R t102 w) (v (et .eql 3 8 t8 (i64 32)) w59 λt104 w65=>aI t104 (il 23 t2 (i64 0) 3 w65 λt107 w=>v (et .eql 3 107 t107 (i64 4)) w λt108 w=>gk t108 false t2 w λt110 w=>g t108 false (indexAt 23 t110 (i64 2)) w λt111 w=>g t108 false (loadAt 3 t111) w λt112 w=>g t108 false (et .eql 3 112 t112 (i64 4)) w λt113 w72=>aF t108 (.bool true) t113 λt114=>aI t114 (v (buildSlice 23 1 #[(0,(i64 2))]) w72 λt115 w=>c 202 #[t115] w λt116 w=>R t116 w) (v (buildSlice 23 1 #[(0,(i64 1))]) w72 λt117 w=>c 202 #[t117] w λt118 w=>R t118 w)) (v (et .eql 3 8 t8 (i64 35)) w65 λt120 w78=>aI t120 (fl 88 t4 1 3 w78 λt122 w=>v (b .add (i64 3) t122) w λt123 w=>v (b .sub t123 (i64 1)) w λt124 w=>v (buildSlice 23 1 #[(0,t124)]) w λt125 w=>c 202 #[t125] w λt126 w=>R t126 w) (v (et .eql 3 8 t8 (i64 37)) w78 λt128 w85=>aI t128 (aK w85 λS44 w=>Go.Vc.bL (t0) /\
 y S44 (fieldAt 166 t0 0) λt131=>yf S44 27 t131 3 25 λt133=>yf S44 88 t4 1 3 λt135=>y S44 (indexAt 25 t133 t135) λt136=>yf S44 38 t136 1 3 λt138=>c 203 #[t138] w λt139 w=>S44 w /\
 R t139 w) (v (et .eql 3 8 t8 (i64 38)) w85 λt141 w88=>aI t141 (aK w88 λS46 w=>Go.Vc.bL (t0) /\
 y S46 (fieldAt 166 t0 0) λt144=>yf S46 27 t144 2 24 λt146=>yf S46 88 t4 1 3 λt148=>y S46 (indexAt 24 t146 t148) λt149=>yf S46 146 t149 3 3 λt151=>c 203 #[t151] w λt152 w=>S46 w /\
 R t152 w) (R aX w88)))))))))))))
theorem aWj (h:PH t0 t1 t2 w R):aC prog 174 #[t0,t1,t2] w R:=dw aLn func174 h
def aLm:bT:=(q (q l))
def PG (t0 t1:Y) (w:O) (R:Y->O->Prop):Prop:=
 c 211 #[t0,t1] w λt7 w=>v (b .geq t7 (i64 0)) w λt8 w=>R t8 w
theorem aWi (h:PG t0 t1 w R):aC prog 175 #[t0,t1] w R:=dw aLm func175 h
def aLl:bT:=(q (q l))
def PF (t0:Y) (w:O) (R:Y->O->Prop):Prop:=
 v (box 180 t0) w λt1 w=>v (loadAt 180 t1) w λt3 w=>c 177 #[t3] w λt4 w=>v (Op.unary UnOp.not t4) w λt5 w=>R t5 w
theorem aWh (h:PF t0 w R):aC prog 176 #[t0] w R:=dw aLl func176 h
def aLk:bT:=(q (s (q (bk (q (cn (q l) (q (cn (q l) (q (cn (q l) (q (cn (q l) l)))))))))) (q l)))
def PE (t0:Y) (w:O) (R:Y->O->Prop):Prop:=
 v (box 180 t0) w λt1 w=>fl 180 t1 0 3 w λt4 w=>v (et .eql 3 4 t4 (i64 1)) w λt6 w4=>aI t6 (v (loadAt 180 t1) w4 λt7 w=>fl 180 t1 1 83 w λt9 w=>v (build 180 #[(0,(i64 1)),(1,t9)]) w λt10 w=>v (e .eql 180 (.tmp 7) (.tmp 10) t7 t10) w λt11 w=>g t11 true (fieldAt 180 t1 1) w λt13 w=>g t11 true (loadAt 83 t13) w λt14 w=>gd t11 true (λK=> c 47 #[t14] w K) w λt15 w=>aF t11 t15 (.bool false) λt16=>g t16 true (fieldAt 180 t1 1) w λt18 w=>g t16 true (loadAt 83 t18) w λt19 w=>gd t16 true (λK=> c 212 #[t19] w K) w λt20 w=>aF t16 t20 (.bool false) λt21=>R t21 w) (v (et .eql 3 4 t4 (i64 2)) w4 λt23 w18=>aI t23 (v (loadAt 180 t1) w18 λt24 w=>fl 180 t1 2 3 w λt26 w=>v (build 180 #[(0,(i64 2)),(2,t26)]) w λt27 w=>v (e .eql 180 (.tmp 24) (.tmp 27) t24 t27) w λt28 w=>g t28 true (fieldAt 180 t1 2) w λt30 w=>g t28 true (loadAt 3 t30) w λt31 w=>g t28 true (b .geq t31 (i64 0)) w λt32 w=>aF t28 t32 (.bool false) λt33=>g t33 true (fieldAt 180 t1 2) w λt35 w=>g t33 true (loadAt 3 t35) w λt36 w=>g t33 true (b .leq t36 (i64 2000)) w λt37 w=>aF t33 t37 (.bool false) λt38=>R t38 w) (v (et .eql 3 4 t4 (i64 3)) w18 λt40 w32=>aI t40 (v (loadAt 180 t1) w32 λt41 w=>fl 180 t1 2 3 w λt43 w=>fl 180 t1 3 3 w λt45 w=>v (build 180 #[(0,(i64 3)),(2,t43),(3,t45)]) w λt46 w=>v (e .eql 180 (.tmp 41) (.tmp 46) t41 t46) w λt47 w=>g t47 true (fieldAt 180 t1 2) w λt49 w=>g t47 true (loadAt 3 t49) w λt50 w=>g t47 true (b .geq t50 (i64 0)) w λt51 w=>aF t47 t51 (.bool false) λt52=>g t52 true (fieldAt 180 t1 2) w λt54 w=>g t52 true (loadAt 3 t54) w λt55 w=>g t52 true (b .leq t55 (i64 2000)) w λt56 w=>aF t52 t56 (.bool false) λt57=>g t57 true (fieldAt 180 t1 3) w λt59 w=>g t57 true (loadAt 3 t59) w λt60 w=>g t57 true (b .geq t60 (i64 0)) w λt61 w=>aF t57 t61 (.bool false) λt62=>g t62 true (fieldAt 180 t1 3) w λt64 w=>g t62 true (loadAt 3 t64) w λt65 w=>g t62 true (b .leq t65 (i64 14)) w λt66 w=>aF t62 t66 (.bool false) λt67=>R t67 w) (v (et .eql 3 4 t4 (i64 4)) w32 λt69 w56=>aI t69 (v (loadAt 180 t1) w56 λt70 w=>fl 180 t1 4 3 w λt72 w=>fl 180 t1 5 21 w λt74 w=>v (build 180 #[(0,(i64 4)),(4,t72),(5,t74)]) w λt75 w=>v (e .eql 180 (.tmp 70) (.tmp 75) t70 t75) w λt76 w=>g t76 true (fieldAt 180 t1 4) w λt78 w=>g t76 true (loadAt 3 t78) w λt79 w=>g t76 true (b .geq t79 (i64 0)) w λt80 w=>aF t76 t80 (.bool false) λt81=>g t81 true (fieldAt 180 t1 4) w λt83 w=>g t81 true (loadAt 3 t83) w λt84 w=>g t81 true (b .lss t84 (i64 8)) w λt85 w=>aF t81 t85 (.bool false) λt86=>R t86 w) (R (.bool false) w56))))
theorem aWg (h:PE t0 w R):aC prog 177 #[t0] w R:=dw aLk func177 h
def aLj:bT:=(q (s (q (cn (q (.join [9,13,14] [9] (q (cn l l)) (q l))) l)) (s (q (cn (q l) l)) (q (q l)))))
def FF (t0 t1 t2 t3:Y) (w:O) (R:Y->O->Prop):Prop:=
 v (et .eql 3 11 t0 (i64 14)) w λt12 w1=>aI t12 (∃ J1:NP 1,(v (b .gtr t1 (i64 0)) w1 λt14 w=>aI t14 (J1 (i64 43) w) (J1 (i64 42) w)) /\
 ∀ t9 w,J1 t9 w->∀ _f:bM,v (b .sub t3 t2) w λt18 w=>v (b .sub t18 (i64 4)) w λt19 w=>v (build 83 #[(0,t9),(4,t19)]) w λt20 w=>v (buildSlice 230 1 #[(0,t20)]) w λt21 w=>R t21 w) (v (et .eql 3 22 t1 (i64 0)) w1 λt23 w8=>aI t23 (v (b .sub t3 t2) w8 λt27 w=>v (b .sub t27 (i64 4)) w λt28 w=>v (build 83 #[(0,(i64 41)),(5,t0),(4,t28)]) w λt29 w=>v (buildSlice 230 1 #[(0,t29)]) w λt30 w=>R t30 w) (v (b .sub t1 (i64 1)) w8 λt32 w=>v (b .add t2 (i64 2)) w λt34 w=>c 178 #[(i64 14),t32,t34,t3] w λt36 w=>v (b .xor t0 (i64 1)) w λt38 w=>il 230 t36 (i64 0) 83 w λt41 w=>c 213 #[t41] w λt42 w=>v (b .sub t42 (i64 2)) w λt43 w=>v (build 83 #[(0,(i64 41)),(5,t38),(4,t43)]) w λt44 w=>v (buildSlice 230 1 #[(0,t44)]) w λt45 w=>v (Builtin.append_ #[230,230] 230 #[t45,t36]) w λt47 w=>R t47 w))
theorem aAv (h:FF t0 t1 t2 t3 w R):aC prog 178 #[t0,t1,t2,t3] w R:=dw aLj func178 h
def aLi:bT:=(q (q l))
def PD (t0:Y) (w:O) (R:Y->O->Prop):Prop:=
 c 214 #[t0,(Value.func (.func 215) #[] #[])] w λt4 w=>v (Op.unary UnOp.not t4) w λt5 w=>R t5 w
theorem aWf (h:PD t0 w R):aC prog 179 #[t0] w R:=dw aLi func179 h
def aLh:bT:=(q (s (q (cn (s (.draw [0,1,2,4,0,16,40,64,255] [0,1,2,4,0,16,40,64,128] 0 9 511 (tk [0,1,2,4,5] (.only 3 (.re (tk [6,7,8] .done))))) l) l)) (q (s (q (bk (.loop ([3,5]++rg 21 29) [3,21] (q (s (cn l l) (s (bk (q l)) l)))))) (q l)))))
def PC (t0:Y) (w:O) (R:Y->O->Prop):Prop:=
 v (box 232 t0) w λt1 w=>v (fieldAt 232 t1 0) w λt6 w=>fl 180 t6 0 3 w λt8 w=>v (et .eql 3 8 t8 (i64 3)) w λt9 w5=>aI t9 (aK w5 λS2 w=>y S2 (fieldAt 232 t1 0) λt10=>yf S2 180 t10 3 3 λt12=>yf S2 232 t1 2 3 λt15=>c 216 #[t12] w λt13 w=>S2 w /\
 reS S2 w λS2_8=>y S2_8 (indexAt 23 t13 t15) λt16=>y S2_8 (loadAt 3 t16) λt17=>R t17 w) (fl 232 t1 1 230 w5 λt19 w=>v (ln 230 3 t19) w λt20 w=>∃ (I1:NP 2) (μ1:NF 2),I1 (i64 0) (i64 0) w /\
 ∀ t3 t21 w12,I1 t3 t21 w12->∀ _f:bM,v (b .lss t21 t20) w12 λt22 w13=>aI t22 (il 230 t19 t21 83 w13 λt24 w=>st 83 t24 w λt5 w=>v (loadAt 83 t5) w λt26 w=>c 213 #[t26] w λt27 w=>v (b .add t3 t27) w λt28 w=>v (b .add t21 (i64 1)) w λt29 w=>I1 t28 t29 w/\μ1 t28 t29 w < μ1 t3 t21 w12) (R t3 w13))
theorem aWd (h:PC t0 w R):aC prog 180 #[t0] w R:=dw aLh func180 h
def aLg:bT:=(q (q (q (q l))))
def PB (t0:Y) (w:O) (R:Y->O->Prop):Prop:=
 v (b .lss t0 (i64 0)) w λt7 w=>c 217 #[t7] w λt8 w=>v (b .shr t0 (Value.int IntKind.u64 23)) w λt10 w=>v (b .and t10 (i64 1)) w λt11 w=>v (b .xor t11 t8) w λt13 w=>v (b .sub (i64 1) t13) w λt14 w=>v (b .shr t0 (Value.int IntKind.u64 22)) w λt16 w=>v (b .and t16 (i64 1)) w λt17 w=>v (b .xor t17 t8) w λt19 w=>v (b .sub (i64 1) t19) w λt20 w=>v (b .shl t8 (Value.int IntKind.u64 10)) w λt22 w=>v (b .or (i64 61440) t22) w λt23 w=>v (b .shr t0 (Value.int IntKind.u64 12)) w λt25 w=>v (b .and t25 (i64 1023)) w λt26 w=>v (b .or t23 t26) w λt27 w=>v (convert 3 151 t27) w λt28 w=>v (b .shl t14 (Value.int IntKind.u64 13)) w λt30 w=>v (b .or (i64 53248) t30) w λt31 w=>v (b .shl t20 (Value.int IntKind.u64 11)) w λt33 w=>v (b .or t31 t33) w λt34 w=>v (b .shr t0 (Value.int IntKind.u64 1)) w λt36 w=>v (b .and t36 (i64 2047)) w λt37 w=>v (b .or t34 t37) w λt38 w=>v (convert 3 151 t38) w λt39 w=>v (buildSlice 59 2 #[(0,t28),(1,t39)]) w λt40 w=>R t40 w
theorem aWc (h:PB t0 w R):aC prog 181 #[t0] w R:=dw aLg func181 h
def aLf:bT:=(q (.join [9,10,11] [] (q (cn l l)) (q (.join (rg 21 27) [] (q (cn l l)) (q (q (s (bk (.loop ([8]++rg 34 46) [8] (s (q (cn l l)) (bk (.draw [0,0,0,6,0,0,48,72,129,511] [0,0,0,6,0,0,48,72,129,293] 0 10 1023 (tk (rg 0 6) (.only 7 (.take 8 (.take 9 .done))))))))) (q l))))))))
def PA (t0 t1:Y) (w:O) (R:Y->O->Prop):Prop:=
 ∃ J1:NP 0,(v (b .lss t1 (i64 0)) w λt10 w1=>aI t10 (v (makeInterface 9 (Value.string { data:=#[99,97,110,110,111,116,32,98,101,32,110,101,103,97,116,105,118,101] })) w1 λ_ _=>False) (J1 w1)) /\
 ∀ w:O,J1 w->∀ _f:bM,v (ln 23 3 t0) w λt14 w=>v (convert 3 152 t14) w λt15 w=>v (convert 3 152 t1) w λt17 w=>c 218 #[t15,t17] w λt18 w=>x2 t18 w λt19 t20 w=>∃ J2:NP 0,(v (binOp .gtr 152 t19 (Value.int IntKind.u64 0)) w λt22 w=>gk t22 false t20 w λt24 w=>g t22 false (binOp .gtr 152 t24 (Value.int IntKind.u64 9223372036854775807)) w λt25 w12=>aF t22 (.bool true) t25 λt26=>aI t26 (v (makeInterface 9 (Value.string { data:=#[116,104,101,32,114,101,115,117,108,116,32,111,102,32,40,108,101,110,40,120,41,32,42,32,99,111,117,110,116,41,32,111,118,101,114,102,108,111,119,115] })) w12 λ_ _=>False) (J2 w12)) /\
 ∀ w:O,J2 w->∀ _f:bM,v (convert 152 3 t20) w λt29 w=>v (makeSlice 23 t29 t29) w λt30 w=>v (Builtin.copy_ #[23,23] 3 #[t30,t0]) w λt33 w=>∃ (I3:NP 1) (μ3:NF 1),I3 t33 w /\
 ∀ t8 w19,I3 t8 w19->∀ _f:bM,v (ln 23 3 t30) w19 λt36 w=>v (b .lss t8 t36) w λt37 w21=>aI t37 (aK w21 λS9 w=>y S9 (sliceAt 23 t30 (some t8) none none) λt41=>y S9 (sliceAt 23 t30 none (some t8) none) λt44=>v (Builtin.copy_ #[23,23] 3 #[t41,t44]) w λt45 w=>S9 w /\
 y S9 (b .add t8 t45) λt46=>I3 t46 w/\μ3 t46 w < μ3 t8 w19) (R t30 w21)
theorem aWb (h:PA t0 t1 w R):aC prog 182 #[t0,t1] w R:=dw aLf func182 h
def aLe:bT:=(q (q l))
def FE (t0:Y) (w:O) (R:Y->O->Prop):Prop:=
 v (b .geq t0 (i64 6)) w λt4 w=>gk t4 true t0 w λt6 w=>g t4 true (b .leq t6 (i64 14)) w λt7 w=>aF t4 t7 (.bool false) λt8=>gk t8 false t0 w λt10 w=>g t8 false (b .geq t10 (i64 19)) w λt11 w=>gk t8 false t11 w λt12 w=>gk t12 true t0 w λt13 w=>g t12 true (b .leq t13 (i64 21)) w λt14 w=>gd t8 false (λK=> aF t12 t14 (.bool false) λv=> K v w) w λt15 w=>aF t8 (.bool true) t15 λt16=>R t16 w
theorem aWa (h:FE t0 w R):aC prog 183 #[t0] w R:=dw aLe func183 h
def aLd:bT:=(q (q l))
def FD (t0:Y) (w:O) (R:Y->O->Prop):Prop:=
 v (et .eql 3 3 t0 (i64 15)) w λt4 w=>gk t4 false t0 w λt6 w=>g t4 false (et .eql 3 6 t6 (i64 16)) w λt7 w=>aF t4 (.bool true) t7 λt8=>gk t8 false t0 w λt10 w=>g t8 false (et .eql 3 10 t10 (i64 26)) w λt11 w=>aF t8 (.bool true) t11 λt12=>R t12 w
theorem aVz (h:FD t0 w R):aC prog 184 #[t0] w R:=dw aLd func184 h
def aLc:bT:=(q (s (q (bk (.join [4,5,6] [4] (q (cn l l)) (cn (q l) (.join (rg 7 10) [7] (q (cn l (q (cn l l)))) (cn (q l) (.join [11,12,13] [11] (q (cn l l)) (cn (q l) (s (q (cn l l)) (cn (q l) l)))))))))) (q l)))
def OZ (t0:Y) (w:O) (R:Y->O->Prop):Prop:=
 ∃ J1:NP 1,(v (et .eql 3 3 t0 (i64 27)) w λt5 w=>aI t5 (J1 t5 w) (v (et .eql 3 3 t0 (i64 28)) w λt6 w=>J1 t6 w)) /\
 ∀ t4 w,J1 t4 w->∀ _f:bM,aI t4 (R (i64 1) w) (∃ J2:NP 1,(v (et .eql 3 3 t0 (i64 17)) w λt8 w=>aI t8 (J2 t8 w) (v (et .eql 3 3 t0 (i64 18)) w λt9 w=>aI t9 (J2 t9 w) (v (et .eql 3 3 t0 (i64 29)) w λt10 w=>J2 t10 w))) /\
 ∀ t7 w,J2 t7 w->∀ _f:bM,aI t7 (R (i64 2) w) (∃ J3:NP 1,(v (et .eql 3 3 t0 (i64 30)) w λt12 w=>aI t12 (J3 t12 w) (v (et .eql 3 3 t0 (i64 36)) w λt13 w=>J3 t13 w)) /\
 ∀ t11 w,J3 t11 w->∀ _f:bM,aI t11 (R (i64 3) w) (v (et .eql 3 3 t0 (i64 31)) w λt15 w=>aI t15 (aI t15 (R (i64 5) w) (R (i64 (-1)) w)) (v (et .eql 3 3 t0 (i64 32)) w λt16 w=>aI t16 (R (i64 5) w) (R (i64 (-1)) w)))))
theorem aVy (h:OZ t0 w R):aC prog 185 #[t0] w R:=dw aLc func185 h
def aLb:bT:=(q l)
def OY (t0:Y) (w:O) (R:Y->O->Prop):Prop:=
 c 68 #[t0,(i64 8),(i64 0),(i64 0)] w λ_ w=>c 67 #[t0,(i64 17),(i64 0),(i64 0)] w λ_ w=>R (.tuple #[]) w
theorem aVx (h:OY t0 w R):aC prog 186 #[t0] w R:=dw aLb func186 h
def aLa:bT:=(q (s (q (cn (q l) l)) (q l)))
def OX (t0:Y) (w:O) (R:Y->O->Prop):Prop:=
 v (et .eql 95 3 t0 aX) w λt4 w=>aI t4 (R aX w) (v (buildSlice 95 0 #[]) w λt5 w=>v (Builtin.append_ #[95,95] 95 #[t5,t0]) w λt7 w=>R t7 w)
theorem aVw (h:OX t0 w R):aC prog 187 #[t0] w R:=dw aLa func187 h
def aKz:bT:=(q (s (q (cn (q l) l)) (q (s (.draw [0,1,2,4,0,16,32,64,0,256,512,1024,2048,4224,8200,16384,0,65536,131072,262144,0,1048576,2097152,4194304,8388608,17301504,33587200,134217727] [0,1,2,4,0,16,32,64,0,256,512,1024,2048,4224,8200,16384,0,65536,131072,262144,0,1048576,2097152,4194304,8388608,17301504,33587200,67108864] 0 28 268435455 (tk (rg 0 27) .done)) l))))
def OW (t0:Y) (w:O) (R:Y->O->Prop):Prop:=
 Go.Vc.bL (t0) /\
 fl 195 t0 1 23 w λt6 w=>v (ln 23 3 t6) w λt7 w=>v (et .eql 3 7 t7 (i64 0)) w λt8 w=>aI t8 (R (i64 0) w) (Go.Vc.bL (t0) /\
 fl 195 t0 2 3 w λt12 w=>v (b .add t12 (i64 1)) w λt13 w=>Go.Vc.bL (t0) /\
 v (fieldAt 195 t0 2) w λt15 w=>u (storeAt 3 t15 t13) w λ_ w=>aK w λS4 w=>Go.Vc.bL (t0) /\
 yf S4 195 t0 1 23 λt19=>Go.Vc.bL (t0) /\
 yf S4 195 t0 2 3 λt23=>Go.Vc.bL (t0) /\
 yf S4 195 t0 1 23 λt27=>y S4 (ln 23 3 t27) λt28=>y S4 (b .rem t23 t28) λt29=>yi S4 23 t19 t29 3 λt31=>Go.Vc.bL (t0) /\
 yf S4 195 t0 2 3 λt35=>Go.Vc.bL (t0) /\
 yf S4 195 t0 1 23 λt39=>y S4 (ln 23 3 t39) λt40=>y S4 (b .quo t35 t40) λt41=>y S4 (b .add t31 t41) λt42=>R t42 w)
theorem aVv (h:OW t0 w R):aC prog 188 #[t0] w R:=dw aKz func188 h
def aKy:bT:=(q (q (s (q (bk (.loop (rg 6 29) [6,7] (s (q (cn l l)) (s (bk (q (cn l l))) l))))) (s (q (cn (q l) l)) (q l)))))
def OV (t0 t1:Y) (w:O) (R:Y->O->Prop):Prop:=
 ∃ (I1:NP 2) (μ1:NF 2),I1 aX (i64 0) w /\
 ∀ t6 t7 w1,I1 t6 t7 w1->∀ _f:bM,Go.Vc.bL (t0) /\
 fl 195 t0 3 23 w1 λt12 w=>v (ln 23 3 t12) w λt13 w=>v (b .lss t7 t13) w λt14 w6=>aI t14 (Go.Vc.bL (t0) /\
 fl 195 t0 3 23 w6 λt20 w=>il 23 t20 t7 3 w λt23 w=>v (e .eql 3 (.tmp 23) (.tmp 24) t23 t1) w λt25 w12=>aI t25 (v (buildSlice 23 1 #[(0,t7)]) w12 λt28 w=>v (Builtin.append_ #[23,23] 23 #[t6,t28]) w λt29 w=>v (b .add t7 (i64 1)) w λt16 w=>I1 t29 t16 w/\μ1 t29 t16 w < μ1 t6 t7 w1) (v (b .add t7 (i64 1)) w12 λt16_1 w=>I1 t6 t16_1 w/\μ1 t6 t16_1 w < μ1 t6 t7 w1)) (v (ln 23 3 t6) w6 λt31 w=>v (et .eql 3 31 t31 (i64 0)) w λt32 w=>aI t32 (R (.tuple #[(i64 0),(.bool false)]) w) (c 188 #[t0] w λt35 w=>v (ln 23 3 t6) w λt37 w=>c 16 #[t35,t37] w λt38 w=>il 23 t6 t38 3 w λt40 w=>R (.tuple #[t40,(.bool true)]) w))
theorem aVu (h:OV t0 t1 w R):aC prog 189 #[t0,t1] w R:=dw aKy func189 h
def aKx:bT:=(q (q l))
def OU (w:O) (R:Y->O->Prop):Prop:=
 v (buildSlice 280 40 #[(0,(Value.string { data:=#[] })),(1,(Value.string { data:=#[112,117,115,104] })),(2,(Value.string { data:=#[108,111,97,100] })),(3,(Value.string { data:=#[115,116,111,114,101] })),(4,(Value.string { data:=#[112,111,112] })),(5,(Value.string { data:=#[100,117,112] })),(6,(Value.string { data:=#[97,100,100] })),(7,(Value.string { data:=#[115,117,98] })),(8,(Value.string { data:=#[109,117,108] })),(9,(Value.string { data:=#[97,110,100] })),(10,(Value.string { data:=#[111,114] })),(11,(Value.string { data:=#[120,111,114] })),(12,(Value.string { data:=#[115,104,108] })),(13,(Value.string { data:=#[115,104,114] })),(14,(Value.string { data:=#[115,97,114] })),(15,(Value.string { data:=#[110,101,103] })),(16,(Value.string { data:=#[110,111,116] })),(17,(Value.string { data:=#[100,105,118] })),(18,(Value.string { data:=#[114,101,109] })),(19,(Value.string { data:=#[101,113] })),(20,(Value.string { data:=#[108,116] })),(21,(Value.string { data:=#[98,101,108,111,119] })),(22,(Value.string { data:=#[112,105,99,107] })),(23,(Value.string { data:=#[106,117,109,112] })),(24,(Value.string { data:=#[106,117,109,112,105,102] })),(25,(Value.string { data:=#[110,117,108,108] })),(26,(Value.string { data:=#[105,115,110,117,108,108] })),(27,(Value.string { data:=#[110,101,119] })),(28,(Value.string { data:=#[108,101,110] })),(29,(Value.string { data:=#[103,101,116] })),(30,(Value.string { data:=#[112,117,116] })),(31,(Value.string { data:=#[99,111,112,121] })),(32,(Value.string { data:=#[115,97,109,101] })),(33,(Value.string { data:=#[103,101,116,102] })),(34,(Value.string { data:=#[112,117,116,102] })),(35,(Value.string { data:=#[98,117,102] })),(36,(Value.string { data:=#[115,101,110,100] })),(37,(Value.string { data:=#[99,97,108,108] })),(38,(Value.string { data:=#[99,97,108,108,120] })),(39,(Value.string { data:=#[114,101,116] }))]) w λt1 w=>R t1 w
theorem aVs (h:OU w R):aC prog 191 #[] w R:=dw aKx func191 h
def aKw:bT:=(q (q l))
def OT (t0 t1:Y) (w:O) (R:Y->O->Prop):Prop:=
 v (e .eql 3 (.tmp 5) (.tmp 6) t0 t1) w λt7 w=>gk t7 true t0 w λt9 w=>gd t7 true (λK=> c 149 #[t9] w K) w λt10 w=>gk t7 true t10 w λt11 w=>gk t11 false t0 w λt12 w=>gd t11 false (λK=> c 148 #[t12] w K) w λt13 w=>gd t7 true (λK=> aF t11 (.bool true) t13 λv=> K v w) w λt14 w=>aF t7 t14 (.bool false) λt15=>gk t15 false t0 w λt17 w=>g t15 false (et .eql 3 17 t17 (i64 1)) w λt18 w=>gk t15 false t18 w λt19 w=>gk t19 true t1 w λt20 w=>g t19 true (et .eql 3 20 t20 (i64 2)) w λt21 w=>gd t15 false (λK=> aF t19 t21 (.bool false) λv=> K v w) w λt22 w=>aF t15 (.bool true) t22 λt23=>R t23 w
theorem aVr (h:OT t0 t1 w R):aC prog 192 #[t0,t1] w R:=dw aKw func192 h
def aKv:bT:=(q (s (q (cn (q l) l)) (q l)))
def OS (t0 t1:Y) (w:O) (R:Y->O->Prop):Prop:=
 v (et .eql 3 5 t0 (i64 2)) w λt6 w=>gk t6 false t1 w λt8 w=>g t6 false (et .eql 3 8 t8 (i64 2)) w λt9 w=>aF t6 (.bool true) t9 λt10=>aI t10 (R (i64 2) w) (R (i64 1) w)
theorem aVq (h:OS t0 t1 w R):aC prog 193 #[t0,t1] w R:=dw aKv func193 h
def aKu:bT:=(q (s (q (bk (q (cn (q l) (q (cn (q l) l)))))) (q l)))
def OR (t0:Y) (w:O) (R:Y->O->Prop):Prop:=
 v (et .eql 3 3 t0 (i64 3)) w λt5 w=>aI t5 (R (i64 1) w) (v (et .eql 3 3 t0 (i64 4)) w λt7 w=>aI t7 (R (i64 2) w) (R (i64 0) w))
theorem aVp (h:OR t0 w R):aC prog 194 #[t0] w R:=dw aKu func194 h
def aKt:bT:=(q (s (q (bk (.loop ([4,5]++rg 8 18) [8] (q (s (cn l l) (s (bk (q (q (cn (q l) l)))) l)))))) (q l)))
def OQ (t0 t1:Y) (w:O) (R:Y->O->Prop):Prop:=
 v (ln 23 3 t0) w λt7 w=>∃ (I1:NP 1) (μ1:NF 1),I1 (i64 0) w /\
 ∀ t8 w2,I1 t8 w2->∀ _f:bM,v (b .lss t8 t7) w2 λt9 w3=>aI t9 (il 23 t0 t8 3 w3 λt15 w=>rD prog t1 #[t15] w λt16 w=>aI t16 (R t8 w) (v (b .add t8 (i64 1)) w λt18 w=>I1 t18 w/\μ1 t18 w < μ1 t8 w2)) (R (i64 (-1)) w3)
theorem aVo (h:OQ t0 t1 w R):aC prog 195 #[t0,t1] w R:=dw aKt func195 h
def aKs:bT:=(q (s (q (bk (.loop ([4,5]++rg 8 18) [8] (q (s (cn l l) (s (bk (q (q (cn (q l) l)))) l)))))) (q l)))
def OP (t0 t1:Y) (w:O) (R:Y->O->Prop):Prop:=
 v (ln 24 3 t0) w λt7 w=>∃ (I1:NP 1) (μ1:NF 1),I1 (i64 0) w /\
 ∀ t8 w2,I1 t8 w2->∀ _f:bM,v (b .lss t8 t7) w2 λt9 w3=>aI t9 (il 24 t0 t8 146 w3 λt15 w=>rD prog t1 #[t15] w λt16 w=>aI t16 (R t8 w) (v (b .add t8 (i64 1)) w λt18 w=>I1 t18 w/\μ1 t18 w < μ1 t8 w2)) (R (i64 (-1)) w3)
theorem aVn (h:OP t0 t1 w R):aC prog 196 #[t0,t1] w R:=dw aKs func196 h
def aKr:bT:=(q (s (q (bk (.loop ([4,5]++rg 8 18) [8] (q (s (cn l l) (s (bk (q (q (cn (q l) l)))) l)))))) (q l)))
def OO (t0 t1:Y) (w:O) (R:Y->O->Prop):Prop:=
 v (ln 25 3 t0) w λt7 w=>∃ (I1:NP 1) (μ1:NF 1),I1 (i64 0) w /\
 ∀ t8 w2,I1 t8 w2->∀ _f:bM,v (b .lss t8 t7) w2 λt9 w3=>aI t9 (il 25 t0 t8 38 w3 λt15 w=>rD prog t1 #[t15] w λt16 w=>aI t16 (R t8 w) (v (b .add t8 (i64 1)) w λt18 w=>I1 t18 w/\μ1 t18 w < μ1 t8 w2)) (R (i64 (-1)) w3)
theorem aVm (h:OO t0 t1 w R):aC prog 197 #[t0,t1] w R:=dw aKr func197 h
def aKq:bT:=(q (q l))
def ON (t0 t1:Y) (w:O) (R:Y->O->Prop):Prop:=
 c 219 #[t0,t1] w λt7 w=>v (b .geq t7 (i64 0)) w λt8 w=>R t8 w
theorem aVl (h:ON t0 t1 w R):aC prog 198 #[t0,t1] w R:=dw aKq func198 h
def aKp:bT:=(q (q l))
def OM (t0 t1:Y) (w:O) (R:Y->O->Prop):Prop:=
 v (box 88 t0) w λt2 w=>v (loadAt 201 t1) w λt4 w=>v (loadAt 88 t2) w λt5 w=>rD prog t4 #[t5] w λt6 w=>v (Op.unary UnOp.not t6) w λt7 w=>R t7 w
theorem aVk (h:OM t0 t1 w R):aC prog 199 #[t0,t1] w R:=dw aKp func199 h
def aKo:bT:=(q (s (q (bk (q (cn (q l) (.join [7,8,9] [7] (q (cn l l)) (cn (q l) (.join [10,11,12] [10] (q (cn l l)) (cn (q l) (.join [13,14,15] [13] (q (cn l l)) (cn (q l) (.join [16,17,18] [16] (q (cn l l)) (cn (q l) (.join [19,20,21] [19] (q (cn l l)) (cn (q l) (q (cn (q l) (q (cn (q l) l)))))))))))))))))) (q l)))
def OL (t0:Y) (w:O) (R:Y->O->Prop):Prop:=
 v (et .eql 3 4 t0 (i64 1)) w λt6 w=>aI t6 (R (.tuple #[(i64 (-2147483648)),(i64 2147483647)]) w) (∃ J1:NP 1,(v (et .eql 3 4 t0 (i64 2)) w λt8 w=>aI t8 (J1 t8 w) (v (et .eql 3 4 t0 (i64 3)) w λt9 w=>J1 t9 w)) /\
 ∀ t7 w,J1 t7 w->∀ _f:bM,aI t7 (R (.tuple #[(i64 0),(i64 9)]) w) (∃ J2:NP 1,(v (et .eql 3 4 t0 (i64 23)) w λt11 w=>aI t11 (J2 t11 w) (v (et .eql 3 4 t0 (i64 24)) w λt12 w=>J2 t12 w)) /\
 ∀ t10 w,J2 t10 w->∀ _f:bM,aI t10 (R (.tuple #[(i64 0),(i64 119)]) w) (∃ J3:NP 1,(v (et .eql 3 4 t0 (i64 25)) w λt14 w=>aI t14 (J3 t14 w) (v (et .eql 3 4 t0 (i64 27)) w λt15 w=>J3 t15 w)) /\
 ∀ t13 w,J3 t13 w->∀ _f:bM,aI t13 (R (.tuple #[(i64 3),(i64 4)]) w) (∃ J4:NP 1,(v (et .eql 3 4 t0 (i64 33)) w λt17 w=>aI t17 (J4 t17 w) (v (et .eql 3 4 t0 (i64 34)) w λt18 w=>J4 t18 w)) /\
 ∀ t16 w,J4 t16 w->∀ _f:bM,aI t16 (R (.tuple #[(i64 0),(i64 7)]) w) (∃ J5:NP 1,(v (et .eql 3 4 t0 (i64 35)) w λt20 w=>aI t20 (J5 t20 w) (v (et .eql 3 4 t0 (i64 36)) w λt21 w=>J5 t21 w)) /\
 ∀ t19 w,J5 t19 w->∀ _f:bM,aI t19 (R (.tuple #[(i64 1),(i64 2)]) w) (v (et .eql 3 4 t0 (i64 37)) w λt23 w=>aI t23 (R (.tuple #[(i64 0),(i64 7)]) w) (v (et .eql 3 4 t0 (i64 38)) w λt25 w=>aI t25 (R (.tuple #[(i64 0),(i64 3)]) w) (R (.tuple #[(i64 0),(i64 0)]) w))))))))
theorem aVi (h:OL t0 w R):aC prog 200 #[t0] w R:=dw aKo func200 h
def aKn:bT:=(q (s (bk (q (cn (q l) (q (cn (q l) l))))) (q l)))
def OK (t0 t1:Y) (w:O) (R:Y->O->Prop):Prop:=
 c 205 #[t0] w λt8 w=>gk t8 true t1 w λt10 w=>gd t8 true (λK=> c 205 #[t10] w K) w λt11 w3=>aF t8 t11 (.bool false) λt12=>aI t12 (c 208 #[t0,t1] w3 λt15 w=>R (.tuple #[t15,(.bool true)]) w) (c 206 #[t0] w3 λt18 w=>gk t18 true t0 w λt20 w=>gk t18 true t1 w λt21 w=>g t18 true (e .eql 3 (.tmp 20) (.tmp 21) t20 t21) w λt22 w=>aF t18 t22 (.bool false) λt23=>aI t23 (R (.tuple #[t0,(.bool true)]) w) (R (.tuple #[(i64 0),(.bool false)]) w))
theorem aVh (h:OK t0 t1 w R):aC prog 201 #[t0,t1] w R:=dw aKn func201 h
def aKm:bT:=(q (q l))
def OJ (t0:Y) (w:O) (R:Y->O->Prop):Prop:=
 R t0 w
theorem aVg (h:OJ t0 w R):aC prog 202 #[t0] w R:=dw aKm func202 h
def aKl:bT:=(q (s (q (cn (q l) l)) (q l)))
def OI (t0:Y) (w:O) (R:Y->O->Prop):Prop:=
 v (et .eql 3 3 t0 (i64 0)) w λt4 w=>aI t4 (R aX w) (v (buildSlice 23 1 #[(0,t0)]) w λt6 w=>c 202 #[t6] w λt7 w=>R t7 w)
theorem aVf (h:OI t0 w R):aC prog 203 #[t0] w R:=dw aKl func203 h
def aKk:bT:=(q (s (q (bk (q (cn (q l) (.join [8,9,10] [8] (q (cn l l)) (cn (q l) (q (cn (q l) l)))))))) (q l)))
def OH (t0 t1:Y) (w:O) (R:Y->O->Prop):Prop:=
 v (et .eql 3 5 t1 (i64 (-1))) w λt7 w=>aI t7 (R (.bool true) w) (∃ J1:NP 1,(v (et .eql 3 5 t1 (i64 (-2))) w λt9 w=>aI t9 (J1 t9 w) (v (et .eql 3 5 t1 (i64 (-3))) w λt10 w=>J1 t10 w)) /\
 ∀ t8 w4,J1 t8 w4->∀ _f:bM,aI t8 (c 205 #[t0] w4 λt12 w=>R t12 w) (v (et .eql 3 5 t1 (i64 (-4))) w4 λt14 w6=>aI t14 (c 206 #[t0] w6 λt16 w=>R t16 w) (c 205 #[t0] w6 λt18 w=>gk t18 true t1 w λt20 w=>gd t18 true (λK=> c 205 #[t20] w K) w λt21 w=>aF t18 t21 (.bool false) λt22=>gk t22 false t0 w λt24 w=>gk t22 false t1 w λt25 w=>g t22 false (e .eql 3 (.tmp 24) (.tmp 25) t24 t25) w λt26 w=>aF t22 (.bool true) t26 λt27=>R t27 w)))
theorem aVe (h:OH t0 t1 w R):aC prog 204 #[t0,t1] w R:=dw aKk func204 h
def aKj:bT:=(q (q l))
def OG (t0:Y) (w:O) (R:Y->O->Prop):Prop:=
 v (et .eql 3 3 t0 (i64 1)) w λt4 w=>gk t4 false t0 w λt6 w=>g t4 false (et .eql 3 6 t6 (i64 2)) w λt7 w=>aF t4 (.bool true) t7 λt8=>R t8 w
theorem aVd (h:OG t0 w R):aC prog 205 #[t0] w R:=dw aKj func205 h
def aKi:bT:=(q (q l))
def OE (t0:Y) (w:O) (R:Y->O->Prop):Prop:=
 v (et .eql 3 3 t0 (i64 3)) w λt4 w=>gk t4 false t0 w λt6 w=>g t4 false (et .eql 3 6 t6 (i64 4)) w λt7 w=>aF t4 (.bool true) t7 λt8=>R t8 w
theorem aVc (h:OE t0 w R):aC prog 206 #[t0] w R:=dw aKi func206 h
def aKh:bT:=(q (q l))
def OD (t0 t1:Y) (w:O) (R:Y->O->Prop):Prop:=
 v (et .eql 3 5 t1 (i64 (-3))) w λt6 w=>gk t6 false t1 w λt8 w=>g t6 false (et .eql 3 8 t8 (i64 1)) w λt9 w=>aF t6 (.bool true) t9 λt10=>gk t10 true t0 w λt12 w=>g t10 true (et .eql 3 12 t12 (i64 2)) w λt13 w=>aF t10 t13 (.bool false) λt14=>R t14 w
theorem aVb (h:OD t0 t1 w R):aC prog 207 #[t0,t1] w R:=dw aKh func207 h
def aKg:bT:=(q (s (q (cn (q l) l)) (q l)))
def OC (t0 t1:Y) (w:O) (R:Y->O->Prop):Prop:=
 v (et .eql 3 5 t0 (i64 2)) w λt6 w=>gk t6 false t1 w λt8 w=>g t6 false (et .eql 3 8 t8 (i64 2)) w λt9 w=>aF t6 (.bool true) t9 λt10=>aI t10 (R (i64 2) w) (R (i64 1) w)
theorem aVa (h:OC t0 t1 w R):aC prog 208 #[t0,t1] w R:=dw aKg func208 h
def aKf:bT:=(q (s (q (cn (q l) l)) (s (.draw [0,1,2,0,8,16,0,64,128,288,516,2047] [0,1,2,0,8,16,0,64,128,288,516,1024] 0 12 4095 (tk (rg 0 8) (.only 9 (.only 10 (.take 11 .done))))) l)))
def OB (t0:Y) (w:O) (R:Y->O->Prop):Prop:=
 il 23 t0 (i64 1) 3 w λt5 w=>c 206 #[t5] w λt6 w3=>aI t6 (il 23 t0 (i64 1) 3 w3 λt9 w=>R t9 w) (aK w3 λS3 w=>yi S3 23 t0 (i64 0) 3 λt12=>yi S3 23 t0 (i64 1) 3 λt15=>yi S3 23 t0 (i64 2) 3 λt18=>c 208 #[t15,t18] w λt19 w=>S3 w /\
 c 208 #[t12,t19] w λt20 w=>S3 w /\
 R t20 w)
theorem aUz (h:OB t0 w R):aC prog 209 #[t0] w R:=dw aKf func209 h
def aKe:bT:=(q (s (q (bk (q (cn (q l) (q (cn (q l) l)))))) (q l)))
def OA (t0:Y) (w:O) (R:Y->O->Prop):Prop:=
 v (et .eql 3 3 t0 (i64 3)) w λt5 w=>aI t5 (R (i64 1) w) (v (et .eql 3 3 t0 (i64 4)) w λt7 w=>aI t7 (R (i64 2) w) (R (i64 0) w))
theorem aUx (h:OA t0 w R):aC prog 210 #[t0] w R:=dw aKe func210 h
def aKd:bT:=(q (s (q (bk (.loop ([4,5]++rg 8 18) [8] (q (s (cn l l) (s (bk (q (q (cn (q l) l)))) l)))))) (q l)))
def NZ (t0 t1:Y) (w:O) (R:Y->O->Prop):Prop:=
 v (ln 66 3 t0) w λt7 w=>∃ (I1:NP 1) (μ1:NF 1),I1 (i64 0) w /\
 ∀ t8 w2,I1 t8 w2->∀ _f:bM,v (b .lss t8 t7) w2 λt9 w3=>aI t9 (il 66 t0 t8 180 w3 λt15 w=>rD prog t1 #[t15] w λt16 w=>aI t16 (R t8 w) (v (b .add t8 (i64 1)) w λt18 w=>I1 t18 w/\μ1 t18 w < μ1 t8 w2)) (R (i64 (-1)) w3)
theorem aUw (h:NZ t0 t1 w R):aC prog 211 #[t0,t1] w R:=dw aKd func211 h
def aKc:bT:=(q (s (q (bk (.join (rg 5 8) [5] (q (cn l (q (cn l l)))) (cn (q l) (q (cn (q l) l)))))) (q l)))
def NY (t0:Y) (w:O) (R:Y->O->Prop):Prop:=
 v (box 83 t0) w λt1 w=>fl 83 t1 0 3 w λt4 w=>∃ J1:NP 1,(v (et .eql 3 4 t4 (i64 41)) w λt6 w=>aI t6 (J1 t6 w) (v (et .eql 3 4 t4 (i64 42)) w λt7 w=>aI t7 (J1 t7 w) (v (et .eql 3 4 t4 (i64 43)) w λt8 w=>J1 t8 w))) /\
 ∀ t5 w,J1 t5 w->∀ _f:bM,aI t5 (R (.bool false) w) (v (et .eql 3 4 t4 (i64 40)) w λt10 w8=>aI t10 (fl 83 t1 4 3 w8 λt12 w=>v (b .and t12 (i64 256)) w λt13 w=>v (et .eql 3 13 t13 (i64 0)) w λt14 w=>R t14 w) (R (.bool true) w8))
theorem aUv (h:NY t0 w R):aC prog 212 #[t0] w R:=dw aKc func212 h
def aKb:bT:=(q (s (q (cn (q l) l)) (q l)))
def NX (t0:Y) (w:O) (R:Y->O->Prop):Prop:=
 v (box 83 t0) w λt1 w=>fl 83 t1 0 3 w λt4 w=>v (et .eql 3 4 t4 (i64 43)) w λt5 w=>aI t5 (R (i64 4) w) (R (i64 2) w)
theorem aUu (h:NX t0 w R):aC prog 213 #[t0] w R:=dw aKb func213 h
def aKa:bT:=(q (q l))
def NW (t0 t1:Y) (w:O) (R:Y->O->Prop):Prop:=
 c 220 #[t0,t1] w λt7 w=>v (b .geq t7 (i64 0)) w λt8 w=>R t8 w
theorem aUt (h:NW t0 t1 w R):aC prog 214 #[t0,t1] w R:=dw aKa func214 h
def aJz:bT:=(q (q l))
def NV (t0:Y) (w:O) (R:Y->O->Prop):Prop:=
 v (box 83 t0) w λt1 w=>v (loadAt 83 t1) w λt3 w=>c 47 #[t3] w λt4 w=>v (Op.unary UnOp.not t4) w λt5 w=>R t5 w
theorem aUs (h:NV t0 w R):aC prog 215 #[t0] w R:=dw aJz func215 h
def aJy:bT:=(q (s (q (cn (q l) l)) (q l)))
def NU (t0:Y) (w:O) (R:Y->O->Prop):Prop:=
 v (et .eql 3 3 t0 (i64 14)) w λt4 w1=>aI t4 (v (buildSlice 23 2 #[(0,(i64 2)),(1,(i64 4))]) w1 λt5 w=>R t5 w) (v (buildSlice 23 3 #[(0,(i64 2)),(1,(i64 4)),(2,(i64 6))]) w1 λt6 w=>R t6 w)
theorem aUr (h:NU t0 w R):aC prog 216 #[t0] w R:=dw aJy func216 h
def aJx:bT:=(q (s (q (cn (q l) l)) (q l)))
def NT (t0:Y) (w:O) (R:Y->O->Prop):Prop:=
 aI t0 (R (i64 1) w) (R (i64 0) w)
theorem aUq (h:NT t0 w R):aC prog 217 #[t0] w R:=dw aJx func217 h
def aJw:bT:=(q (s (cn (q (q l)) l) (q (q l))))
def NS (t0 t1:Y) (w:O) (R:Y->O->Prop):Prop:=
 aI (.bool false) (v (convert 152 264 t0) w λt12 w=>v (convert 152 264 t1) w λt14 w=>c 221 #[t12,t14] w λt15 w=>x2 t15 w λt16 t17 w=>v (convert 264 152 t16) w λt19 w=>v (convert 264 152 t17) w λt21 w=>R (.tuple #[t19,t21]) w) (c 222 #[t0,t1] w λt25 w=>x2 t25 w λt26 t27 w=>R (.tuple #[t26,t27]) w)
theorem aUp (h:NS t0 t1 w R):aC prog 218 #[t0,t1] w R:=dw aJw func218 h
def aJv:bT:=(q (s (q (bk (.loop ([4,5]++rg 8 18) [8] (q (s (cn l l) (s (bk (q (q (cn (q l) l)))) l)))))) (q l)))
def NR (t0 t1:Y) (w:O) (R:Y->O->Prop):Prop:=
 v (ln 36 3 t0) w λt7 w=>∃ (I1:NP 1) (μ1:NF 1),I1 (i64 0) w /\
 ∀ t8 w2,I1 t8 w2->∀ _f:bM,v (b .lss t8 t7) w2 λt9 w3=>aI t9 (il 36 t0 t8 88 w3 λt15 w=>rD prog t1 #[t15] w λt16 w=>aI t16 (R t8 w) (v (b .add t8 (i64 1)) w λt18 w=>I1 t18 w/\μ1 t18 w < μ1 t8 w2)) (R (i64 (-1)) w3)
theorem aUo (h:NR t0 t1 w R):aC prog 219 #[t0,t1] w R:=dw aJv func219 h
def aJu:bT:=(q (s (q (bk (.loop ([4,5]++rg 8 18) [8] (q (s (cn l l) (s (bk (q (q (cn (q l) l)))) l)))))) (q l)))
def NQ (t0 t1:Y) (w:O) (R:Y->O->Prop):Prop:=
 v (ln 230 3 t0) w λt7 w=>∃ (I1:NP 1) (μ1:NF 1),I1 (i64 0) w /\
 ∀ t8 w2,I1 t8 w2->∀ _f:bM,v (b .lss t8 t7) w2 λt9 w3=>aI t9 (il 230 t0 t8 83 w3 λt15 w=>rD prog t1 #[t15] w λt16 w=>aI t16 (R t8 w) (v (b .add t8 (i64 1)) w λt18 w=>I1 t18 w/\μ1 t18 w < μ1 t8 w2)) (R (i64 (-1)) w3)
theorem aUm (h:NQ t0 t1 w R):aC prog 220 #[t0,t1] w R:=dw aJu func220 h
def aJt:bT:=(q (q (q (q (q (q (q (q (q (q (q (q l))))))))))))
def NO (t0 t1:Y) (w:O) (R:Y->O->Prop):Prop:=
 v (binOp .and 296 t0 (Value.int IntKind.u64 4294967295)) w λt15 w=>v (binOp .shr 296 t0 (Value.int IntKind.u64 32)) w λt17 w=>v (binOp .and 296 t1 (Value.int IntKind.u64 4294967295)) w λt19 w=>v (binOp .shr 296 t1 (Value.int IntKind.u64 32)) w λt21 w=>v (binOp .mul 296 t15 t19) w λt24 w=>v (binOp .mul 296 t17 t19) w λt27 w=>v (binOp .shr 296 t24 (Value.int IntKind.u64 32)) w λt29 w=>v (binOp .add 296 t27 t29) w λt30 w=>v (binOp .and 296 t30 (Value.int IntKind.u64 4294967295)) w λt32 w=>v (binOp .shr 296 t30 (Value.int IntKind.u64 32)) w λt34 w=>v (binOp .mul 296 t15 t21) w λt38 w=>v (binOp .add 296 t32 t38) w λt39 w=>v (binOp .mul 296 t17 t21) w λt42 w=>v (binOp .add 296 t42 t34) w λt44 w=>v (binOp .shr 296 t39 (Value.int IntKind.u64 32)) w λt46 w=>v (binOp .add 296 t44 t46) w λt47 w=>v (binOp .mul 296 t0 t1) w λt50 w=>R (.tuple #[t47,t50]) w
theorem aUl (h:NO t0 t1 w R):aC prog 222 #[t0,t1] w R:=dw aJt func222 h
end Go.Proofs.YtjcmcfidblhnnaaGreatDoor
