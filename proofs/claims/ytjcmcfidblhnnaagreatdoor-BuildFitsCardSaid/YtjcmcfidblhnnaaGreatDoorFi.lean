/- Package asm: the code of a load, of a jump; whether all is right. -/
import Derived.Test.YtjcmcfidblhnnaaGreatDoorFh
import Derived.Test.YtjcmcfidblhnnaaGreatDoorFb
import Derived.WalkKit
import Derived.ProofKit
import Derived.OpenShut
import Derived.WideKeyArgs
import Derived.ChangeArms
import Derived.FnData
set_option maxHeartbeats 8000000
namespace Go.Proofs.YtjcmcfidblhnnaaGreatDoor
open Tryz
open Go.Vc
variable {w:O} {K:Y->O->Prop}
variable {B f k:Nat} {a:Int}
def IQ (l:List gN):List Y:=l.flatMap gN.cells
theorem gN.len (i:gN):i.cells.length=6:=rfl
theorem aOy (i:gN):i.cells.all bY=true:=rfl
def gM (w:O) (B:Nat) (v:Y) (l:List gN):Prop:=w.ownsRow B 83 6 v l.length (IQ l)
theorem BI {l:List gN} {j:Nat} {x:gN} (h:l[j]?=some x):((IQ l).drop (((j:Int)).toNat*6)).take 6=x.cells:=by
 rw [Int.toNat_natCast];exact yE gN.len h
theorem aEi (l:List gN):(IQ l).all bY=true:=by
 induction l with
 | nil=>rfl
 | cons x l ih=>
  have e:IQ (x::l)=x.cells++IQ l:=rfl;rw [e,List.all_append,ih,aOy];rfl
theorem TD {i:gN} {v:Y} (hv:v=.agg i.cells.toArray) (hk:∀ u w1,gM w1 w.heap.size u [i]->aE w w1->K u w1):V prog (Instr.buildSlice 230 1 #[(0,v)]) w K:=by
 subst hv;refine zX underlying230 rM rfl (by decide) [.agg i.cells.toArray] rfl rfl (by intro v hv;rw [List.mem_singleton] at hv;subst hv;rfl) (by decide) (by decide) λuv w1 ho1 x1=>?_;exact hk uv w1 ho1 x1
theorem bEh {l m:List gN} {v u:Y} {B':Nat} (h:gM w B v l) (hu:gM w B' u m) (hl:l.length+m.length<=1000) (hB:B<=w.heap.size) (hk:∀ v' w',gM w' B v' (l++m)->(∀ w0,aE w0 w->w0.heap.size<=B->aE w0 w')->K v' w'):V prog (Builtin.append_ #[230,230] 230 #[v,u]) w K:=by
 refine apG underlying230 rM rfl (by decide) h (aA.of_own hu) (aEi m) (by omega) (by unfold maxLen;omega) hB λv' w' ho hg _=>hk v' w' ?_ λw0 hx h0=>hx.grown hg λk hk=>by have:=(h.lt k hk).1;omega
 have e:IQ l++IQ m=IQ (l++m):=by simp [IQ]
 rw [e] at ho;unfold gM;rw [List.length_append];exact ho
theorem gM.ext {w':O} {v:Y} {l:List gN} (h:gM w B v l) (hx:aE w w'):gM w' B v l:=hx.own h
theorem VL {i:gN} (hk:∀ w',aE w w'->K (i64 ((i.size:Nat):Int)) w'):aC prog 213 #[.agg i.cells.toArray] w K:=by
 apply aUu;unfold NX;refine bx λb w1 hb x1=>?_;have hb:aY w1 b i.cells:=hb;have:=hk w1 x1;unfold gN.size at this;refine bC hb mG aG rfl (aH.2 (aB (λe=>?_) λe=>?_))
 ·rw [if_pos e] at this;exact this
 ·rw [if_neg e] at this;exact this
def JZ (c:Int):List Int:=if c=14 then [2,4] else [2,4,6]
theorem aHx {c:Int} (hk:∀ v w',aN w' v (JZ c)->aE w w'->K v w'):aC prog 216 #[i64 c] w K:=by
 apply aUr;unfold NU;unfold JZ at hk;refine aH.2 (aB (λe=>?_) λe=>?_)
 ·rw [if_pos e] at hk;exact jX bB [i64 2,i64 4] rfl rfl (by simp) rfl λv w1 ho x1=>hk v w1 (aA.of_own ho) x1
 ·rw [if_neg e] at hk;exact jX bB [i64 2,i64 4,i64 6] rfl rfl (by simp) rfl λv w1 ho x1=>hk v w1 (aA.of_own ho) x1
theorem KU (n:Int):IntKind.u32.wrap n=n % 4294967296:=by
 unfold IntKind.wrap;simp only [show IntKind.u32.bits=32 from rfl,show IntKind.u32.signed=false from rfl,Bool.false_and,Bool.false_eq_true,if_false];rfl
theorem bBf {u:Int} (k:Nat) (hk:k<=3):u.fdiv (2 ^ (min (((8*k:Nat):Int)).toNat IntKind.u32.bits))=u / 256 ^ k:=by
 have:k=0\/k=1\/k=2\/k=3:=by omega
 rcases this with rfl|rfl|rfl|rfl<;>exact Int.fdiv_eq_ediv_of_nonneg _ (by decide)
theorem bEk (h0:0<=a) (h1:a < 4294967296):IntKind.u32.wrap (((BitVec.ofInt IntKind.u32.bits a &&& BitVec.ofInt IntKind.u32.bits 255).toNat:Nat):Int)=a % 256:=by
 obtain ⟨n,rfl⟩:=jW h0;have e1:(BitVec.ofInt 32 (n:Int)).toNat=n:=by rw [BitVec.toNat_ofInt];omega
 have e2:(BitVec.ofInt 32 255).toNat=2 ^ 8 - 1:=by decide
 rw [show IntKind.u32.bits=32 from rfl,BitVec.toNat_and,e1,e2,Nat.and_two_pow_sub_one_eq_mod,KU];omega
theorem aHs {u:Int} (hk:k<=3) (hz:∀ j,k < j->j<=3->u / 256 ^ j=0) (hn:k=0\/u / 256 ^ k≠0):sO u=k:=by
 unfold sO;have z3:=hz 3;have z2:=hz 2;have z1:=hz 1;have:k=0\/k=1\/k=2\/k=3:=by omega
 rcases this with rfl|rfl|rfl|rfl
 ·rw [if_neg (by have:=z3 (by decide) (by decide);simpa using this),if_neg (by have:=z2 (by decide) (by decide);simpa using this),if_neg (by have:=z1 (by decide) (by decide);simpa using this)]
 ·rw [if_neg (by have:=z3 (by decide) (by decide);simpa using this),if_neg (by have:=z2 (by decide) (by decide);simpa using this),if_pos (by simpa using hn)]
 ·rw [if_neg (by have:=z3 (by decide) (by decide);simpa using this),if_pos (by simpa using hn)]
 ·rw [if_pos (by simpa using hn)]
theorem aRe {u:Int} (h0:0<=u) (h1:u < 4294967296) (k:Nat):0<=u / 256 ^ k/\u / 256 ^ k < 4294967296:=by
 have hp:(0:Int) < 256 ^ k:=Int.pow_pos (by decide);exact ⟨Int.ediv_nonneg h0 (Int.le_of_lt hp),Int.lt_of_le_of_lt (Int.ediv_le_self _ h0) h1⟩
theorem bBg {u:Int} {A B:O->Prop} (hk:k<=3) (h1:k≠0/\u / 256 ^ k=0->A w) (h2:k=0\/u / 256 ^ k≠0->B w) {x y:Operand} :
  V prog (binOp .gtr 3 (i64 ((8*k:Nat):Int)) (i64 0)) w λt12 w3=>gd t12 true (λK=>K (.int .u32 u) w3) w3 λt14 w4=>gd t12 true (λK=>K (i64 ((8*k:Nat):Int)) w4) w4 λt15 w5=>gd t12 true (λK=>V prog (binOp .shr 264 t14 t15) w5 K) w5 λt16 w6=>
   gd t12 true (λK=>V prog (do eqGuard .eql 264 x y t16 (.int .u32 0);binOp .eql 264 t16 (.int .u32 0)) w6 K) w6 λt17 w7=>aF t12 t17 (.bool false) λt18=>aI t18 (A w7) (B w7):=by
 refine iH.2 ?_;by_cases h0:k=0
 ·rw [decide_eq_false (by omega)];simp only [lG,aV,Bool.false_eq_true,reduceIte,aP];exact h2 (.inl h0)
 ·rw [decide_eq_true (by omega)];refine lO.2 (lO.2 (lO.2 (V.ok (qV (by omega)) (lO.2 (aH.2 (jC ?_))))));rw [if_pos rfl,bBf k hk];exact aB (λh=>h1 ⟨h0,h⟩) λh=>h2 (.inr h)
theorem aQf {reg n:Int} (hk:∀ v w',gM w' w.heap.size v (sJ reg n)->aE w w'->K v w'):aC prog 121 #[i64 reg,i32 n] w K:=by
 apply aYl;unfold RI;refine V.ok (kM underlying21 underlying264) ?_;rw [KU];have hu0:0<=n % 4294967296:=Int.emod_nonneg _ (by decide);have hu1:n % 4294967296 < 4294967296:=Int.emod_lt_of_pos _ (by decide);have hK:sJ reg n=⟨8,reg,0,0,n % 4294967296 / 256 ^ sO (n % 4294967296),0⟩::qF reg (n % 4294967296) (sO (n % 4294967296)):=rfl;rw [hK] at hk;generalize n % 4294967296=u at *;refine ⟨λv w'=>∃ k:Nat,v=i64 ((8*k:Nat):Int)/\k<=3/\w'=w/\∀ j,k < j->j<=3->u / 256 ^ j=0,λv _=>(RowKit.intOf v).toNat,⟨3,rfl,by decide,rfl,λj h1 h2=>by omega⟩,?_⟩;rintro _ w1 ⟨k,rfl,hk3,rfl,hz⟩ _;refine bBg hk3 (λh=>?_) λh=>?_
 ·obtain ⟨k,rfl⟩:∃ j,k=j+1:=⟨k - 1,by omega⟩;refine eY.2 ?_;rw [aM (by omega),show ((8*(k+1):Nat):Int) - 8=((8*k:Nat):Int) from by omega];refine ⟨⟨k,rfl,by omega,rfl,λj h1 h2=>?_⟩,by simp only [aL];omega⟩;by_cases hj:j=k+1
  ·subst hj;exact h.2
  ·exact hz j (by omega) h2
 have hh:=aHs hk3 hz h;rw [hh] at hk;clear hh h hz hK;have hr:=aRe hu0 hu1;refine V.ok (qV (by omega)) ?_;rw [bBf k hk3];refine V.ok (kM underlying264 underlying3) ?_;have hrk:=hr k;rw [aM (by omega)];refine oD nZ [(0,i64 8),(1,i64 reg),(4,i64 (u / 256 ^ k))] rfl rfl ?_;refine TD (i:=⟨8,reg,0,0,u / 256 ^ k,0⟩) rfl λv1 w2 ho x1=>?_;refine ⟨λs v w'=>∃ (j:Nat) (acc:List gN),s=i64 ((8*j:Nat):Int)/\j<=3/\gM w' w1.heap.size v acc/\acc++qF reg u j=⟨8,reg,0,0,u / 256 ^ k,0⟩::qF reg u k/\acc.length+2*j<=7/\aE w1 w',λs _ _=>(RowKit.intOf s).toNat,⟨k,_,rfl,hk3,ho,rfl,by simp;omega,x1⟩,?_⟩;rintro _ v w3 ⟨j,acc,rfl,hj3,hv,hacc,hal,x3⟩ _;refine iH.2 (aB (λhpos=>?_) λhz=>?_)
 ·obtain ⟨j,rfl⟩:∃ q,j=q+1:=⟨j - 1,by omega⟩;have hrj:=hr j;refine eY.2 ?_;rw [aM (by omega),show ((8*(j+1):Nat):Int) - 8=((8*j:Nat):Int) from by omega];refine oD nZ [(0,i64 1),(1,i64 reg),(3,i64 reg),(4,i64 8)] rfl rfl ?_;refine TD (i:=⟨1,reg,0,reg,8,0⟩) rfl λv4 w4 ho4 x4=>?_;have s3:=x3.size;have s4:=x4.size;refine bEh (hv.ext x4) ho4 (by simp;omega) (by omega) λv5 w5 ho5 e5=>?_;have x5:aE w1 w5:=e5 w1 (x3.trans x4) (Nat.le_refl _);refine V.ok (qV (by omega)) ?_;rw [bBf j (by omega)];refine V.ok rK ?_;rw [bEk hrj.1 hrj.2];refine V.ok (kM underlying264 underlying3) ?_;have hm0:0<=u / 256 ^ j % 256:=Int.emod_nonneg _ (by decide);have hm1:u / 256 ^ j % 256 < 256:=Int.emod_lt_of_pos _ (by decide);rw [aM (by omega)];have s5:=x5.size;refine iH.2 (aB (λhb=>?_) λhb=>?_)
  ·refine oD nZ [(0,i64 10),(1,i64 reg),(4,i64 (u / 256 ^ j % 256))] rfl rfl ?_;refine TD (i:=⟨10,reg,0,0,u / 256 ^ j % 256,0⟩) rfl λv6 w6 ho6 x6=>?_;have s6:=x6.size;refine bEh (ho5.ext x6) ho6 (by simp;omega) (by omega) λv7 w7 ho7 e7=>?_;refine ⟨⟨j,_,rfl,by omega,ho7,?_,by simp;omega,e7 w1 (x5.trans x6) (Nat.le_refl _)⟩,by simp only [aL];omega⟩;rw [<- hacc];simp [qF,hb]
  ·refine ⟨⟨j,_,rfl,by omega,ho5,?_,by simp;omega,x5⟩,by simp only [aL];omega⟩;rw [<- hacc];simp [qF,hb]
 ·obtain rfl:j=0:=by omega
  rw [show qF reg u 0=[] from rfl,List.append_nil] at hacc;rw [hacc] at hv;exact hk v w3 hv x3
theorem bJq {c:Int} (h0:0<=c) (h1:c < 14):IntKind.i64.wrap (((BitVec.ofInt IntKind.i64.bits c ^^^ BitVec.ofInt IntKind.i64.bits 1).toNat:Nat):Int)=HQ c:=by
 have:c=0\/c=1\/c=2\/c=3\/c=4\/c=5\/c=6\/c=7\/c=8\/c=9\/c=10\/c=11\/c=12\/c=13:=by omega
 rcases this with rfl|rfl|rfl|rfl|rfl|rfl|rfl|rfl|rfl|rfl|rfl|rfl|rfl|rfl<;>decide
def Adr (a:Int):Prop:=-1000000<=a/\a<=1000000
theorem XT {b:Int} (ha:-1000010<=a/\a<=1000010) (hb:Adr b) (hk:∀ v w',gM w' w.heap.size v (oR f a b)->aE w w'->K v w'):aC prog 178 #[i64 14,i64 (f:Int),i64 a,i64 b] w K:=by
 apply aAv;unfold FF;obtain ⟨a1,a2⟩:=ha;obtain ⟨b1,b2⟩:=hb;refine aH.2 (aB (λ_=>?_) λe=>absurd rfl e);refine ⟨λv w'=>v=i64 (if f > 0 then 43 else 42)/\w'=w,?_,?_⟩
 ·refine iH.2 (aB (λh=>⟨?_,rfl⟩) λh=>⟨?_,rfl⟩)
  ·rw [if_pos (by omega)]
  ·rw [if_neg (by omega)]
 ·rintro _ w1 ⟨rfl,rfl⟩ _;refine eY.2 ?_;rw [aM (by omega)];refine eY.2 ?_;rw [aM (by omega)];refine oD nZ [(0,i64 (if f > 0 then 43 else 42)),(4,i64 (b - a - 4))] rfl rfl ?_;exact TD (i:=⟨if f > 0 then 43 else 42,0,0,0,b - a - 4,0⟩) rfl hk
theorem aQn {c b:Int} (hc:0<=c/\c<=14) (hf:f<=2) (ha:Adr a) (hb:Adr b) (hk:∀ v w',gM w' w.heap.size v (mN c f a b)->aE w w'->K v w'):aC prog 178 #[i64 c,i64 (f:Int),i64 a,i64 b] w K:=by
 by_cases h14:c=14
 ·subst h14;have e:mN 14 f a b=oR f a b:=if_pos rfl;rw [e] at hk;exact XT (by unfold Adr at ha;omega) hb hk
 apply aAv;unfold FF;have hb0:=hb;obtain ⟨a1,a2⟩:=ha;obtain ⟨b1,b2⟩:=hb;refine aH.2 (aB (λe=>absurd e h14) λ_=>?_);refine aH.2 (aB (λe=>?_) λe=>?_)
 ·obtain rfl:f=0:=by omega
  have e:mN c 0 a b=[⟨41,0,0,0,b - a - 4,c⟩]:=if_neg h14;rw [e] at hk;refine eY.2 ?_;rw [aM (by omega)];refine eY.2 ?_;rw [aM (by omega)];refine oD nZ [(0,i64 41),(5,i64 c),(4,i64 (b - a - 4))] rfl rfl ?_;exact TD (i:=⟨41,0,0,0,b - a - 4,c⟩) rfl hk
 ·obtain ⟨g,rfl⟩:∃ g,f=g+1:=⟨f - 1,by omega⟩;have e:mN c (g+1) a b=⟨41,0,0,0,(if g > 0 then 4 else 2) - 2,HQ c⟩::oR g (a+2) b:=if_neg h14;rw [e] at hk;refine eY.2 ?_;rw [aM (by omega),show ((g+1:Nat):Int) - 1=(g:Int) from by omega];refine bA.2 ?_;rw [aM (by omega)];refine XT (a:=a+2) (by omega) hb0 λv1 w1 ho1 x1=>?_;refine V.ok VN ?_;rw [bJq hc.1 (by omega)];have hl:(oR g (a+2) b)[0]?=some ⟨if g > 0 then 43 else 42,0,0,0,b - (a+2) - 4,0⟩:=rfl;refine uI vT nI (aA.of_own ho1) (by decide) (show (0:Int) < ((1:Nat):Int) from by decide) (BI (j:=0) hl) rfl ?_;refine VL λw2 x2=>eY.2 ?_
  have hs:(((gN.size ⟨if g > 0 then 43 else 42,0,0,0,b - (a+2) - 4,0⟩:Nat):Int))=if g > 0 then 4 else 2:=by
   unfold gN.size;dsimp only;by_cases hg:g > 0
   ·rw [if_pos hg,if_pos hg,if_pos rfl];rfl
   ·rw [if_neg hg,if_neg hg,if_neg (by decide)];rfl
  rw [hs,lI (by split<;>omega) (by split<;>omega)];refine oD nZ [(0,i64 41),(5,i64 (HQ c)),(4,i64 ((if g > 0 then 4 else 2) - 2))] rfl rfl ?_;refine TD (i:=⟨41,0,0,0,(if g > 0 then 4 else 2) - 2,HQ c⟩) rfl λv3 w3 ho3 x3=>?_;have s1:=x1.size;have s2:=x2.size;have s3:=x3.size;refine bEh (aU ho3 (by omega)) (ho1.ext (x2.trans x3)) (by simp [oR]) (by omega) λv4 w4 ho4 e4=>hk v4 w4 ho4 (e4 w ((x1.trans x2).trans x3) (Nat.le_refl _))
def FO (i:gN):Prop:=(i.op=28->i.n=0/\i.imm=0/\i.cond=0)/\(i.op=43->i.d=0/\i.n=0/\i.m=0/\i.cond=0)
theorem bEn {i:gN} (h:FO i) (hk:∀ w',aE w w'->K (.bool (!bS i)) w'):aC prog 215 #[.agg i.cells.toArray] w K:=by
 apply aUs;unfold NV;refine bx λb w1 hb x1=>?_;have hb:aY w1 b i.cells:=hb;refine iF hb nI rfl ?_;exact uD h.1 h.2 λw2 x2=>dC.2 (hk w2 (x1.trans x2))
theorem aHq {v:Y} {l:List gN} (hv:gM w B v l) (hl:l.length<=1000000) (h:∀ x∈l,FO x) (hk:∀ (r:Int) w',(l.all bS=true->r=-1)->(l.all bS=false->0<=r)->aE w w'->K (i64 r) w'):aC prog 220 #[v,.func (.func 215) #[] #[]] w K:=by
 apply aUm;unfold NQ;refine fQ vT (aA.of_own hv) ?_;refine ⟨λv w'=>∃ j:Nat,v=i64 j/\j<=l.length/\(l.take j).all bS=true/\aE w w',λv _=>l.length - (RowKit.intOf v).toNat,⟨0,rfl,Nat.zero_le _,rfl,aE.refl _⟩,?_⟩;rintro _ w1 ⟨j,rfl,hj,ha,x1⟩ _;refine aW.2 (aB (λhlt=>?_) λhge=>?_)
 ·obtain ⟨x,hx⟩:=bE (l:=l) (j:=j) (by omega);refine uI vT nI (aA.of_own (hv.ext x1)) (by omega) (by omega) (BI hx) rfl ?_;refine ⟨_,#[],rfl,bEn (h x (List.mem_of_getElem? hx)) λw2 x2=>?_⟩;cases hr:bS x with
  | false=>
   refine bJ.2 (hk j w2 (λhall=>?_) (λ_=>by omega) (x1.trans x2));have:=List.all_eq_true.1 hall x (List.mem_of_getElem? hx);rw [hr] at this;cases this
  | true=>
   refine aP.2 (bA.2 ?_);rw [aM (by omega),bK];refine ⟨⟨j+1,rfl,by omega,?_,x1.trans x2⟩,by simp only [aL];omega⟩;rw [List.take_add_one,hx,List.all_append,ha];simp [hr]
 ·have e:l.take j=l:=List.take_of_length_le (by omega);rw [e] at ha;exact hk (-1) w1 (λ_=>rfl) (λh=>by rw [ha] at h;cases h) x1
theorem bEo {v:Y} {l:List gN} (hv:gM w B v l) (hl:l.length<=1000000) (h:∀ x∈l,FO x) (hk:∀ w',aE w w'->K (.bool (l.all bS)) w'):aC prog 179 #[v] w K:=by
 apply aWf;unfold PD
 have c:aC prog 214 #[v,.func (.func 215) #[] #[]] w λr w'=>r=.bool (!(l.all bS))/\aE w w':=by
  apply aUt;unfold NW;refine aHq hv hl h λr w1 h1 h2 x1=>kO.2 ⟨?_,x1⟩;cases hr:l.all bS with
  | true=>rw [h1 hr];rfl
  | false=>rw [decide_eq_true (by have:=h2 hr;omega)];rfl
 refine c.mono λr w1 ⟨hr,x1⟩=>?_;subst hr;refine dC.2 ?_;rw [Bool.not_not];exact hk w1 x1
end Go.Proofs.YtjcmcfidblhnnaaGreatDoor
namespace Go.Vc
section
variable {P:Program} {w:O} {K:Y->O->Prop}
theorem cpR {t e by_ ty:Nat} (h:XE P t e by_) {g o R c:Nat} {xs cs:List Y} {te:TypeId} {b off n c':Nat} (hb:bO w g xs te) (hfit:o+R<=xs.length) (hs:aA w (.slice (some ⟨b,off,none⟩) n c') 1 n cs) (h1:cs.all bY=true)
  (hk:∀ w',bO w' g (xs.take o++cs.take (min n R)++xs.drop (o+min n R)) te->Fr (λi=>i=g) w w'->K (i64 ((min n R:Nat):Int)) w') :
  V P (Builtin.copy_ #[t,t] ty #[.slice (some ⟨g,o,none⟩) R c,.slice (some ⟨b,off,none⟩) n c']) w K:=by
 obtain ⟨z,ht,hi,hz⟩:=h;obtain ⟨i,hi',hz',hn,hby⟩:=info_parts hi;have hsz:(P.info? e).map (·.size)=some 1:=by rw [hi'];simp [hn]
 have hcl:cs.length=n:=by have:=hs.1;omega
 rcases hs.2 with ⟨h2,_⟩|⟨b',off',cap',h2,_,_,hc⟩
 ·cases h2
 cases h2;have hlen:(cs.take (min n R)).length=min n R:=by rw [List.length_take];omega
 have hr:=run_copy_row (P:=P) w t t ty e g o R c ⟨b,off,none⟩ n c' xs.toArray te (cs.take (min n R)) ht hsz hb hlen (λj u hj=>by
   rw [List.getElem?_take] at hj;split at hj
   ·rw [lE];exact hc j u hj
   ·cases hj) (by rw [hlen];simp;omega) (λu hu=>by rw [BP];exact List.all_eq_true.1 h1 u (List.mem_of_mem_take hu))
 rw [hlen] at hr;refine V.ok hr (hk _ ?_ ⟨rfl,rfl,rfl,by simp,λi _ hi=>setRow_other _ _ _ _ hi⟩);unfold bO;rw [setRow_heap w g _ _ te (0,0) hb]
theorem nK {n:Int} (h0:0<=n) (h1:n < 18446744073709551616):IntKind.u64.wrap n=n:=by
 have e:n % (2 ^ 64:Int)=n:=by omega
 unfold IntKind.wrap;simp only [show IntKind.u64.bits=64 from rfl,show IntKind.u64.signed=false from rfl,e,Bool.false_and,Bool.false_eq_true,if_false]
theorem aIz {a:Int} (h0:0<=a) (h1:a < 4294967296):IntKind.u64.wrap (((BitVec.ofInt IntKind.u64.bits a &&& BitVec.ofInt IntKind.u64.bits 4294967295).toNat:Nat):Int)=a:=by
 obtain ⟨n,rfl⟩:∃ n:Nat,a=n:=⟨a.toNat,by omega⟩;have e1:(BitVec.ofInt 64 (n:Int)).toNat=n:=by rw [BitVec.toNat_ofInt];omega
 have e2:(BitVec.ofInt 64 4294967295).toNat=2 ^ 32 - 1:=by decide
 rw [show IntKind.u64.bits=64 from rfl,BitVec.toNat_and,e1,e2,Nat.and_two_pow_sub_one_eq_mod,nK (by omega) (by omega)];omega
theorem LC {a:Int} (h0:0<=a) (h1:a < 4294967296):a.fdiv (2 ^ (min (32:Int).toNat IntKind.u64.bits))=0:=by
 rw [show (2:Int) ^ (min (32:Int).toNat IntKind.u64.bits)=4294967296 from rfl,Int.fdiv_eq_ediv_of_nonneg _ (by decide)];omega
end
end Go.Vc
namespace Go.Proofs.YtjcmcfidblhnnaaGreatDoor
open Tryz
open Go.Vc
variable {w:O} {K:Y->O->Prop}
abbrev KV (n:Int):Y:=.int .u64 n
theorem bBz {c:Int} (h0:0<=c) (h1:c < 4294967296) (hk:K (.tuple #[KV 0,KV c]) w):aC prog 222 #[KV 1,KV c] w K:=by
 apply aUl;unfold NO;refine V.ok rK ?_;rw [aIz (by decide) (by decide)];refine V.ok (qV (by decide)) ?_;rw [LC (by decide) (by decide)];refine V.ok rK ?_;rw [aIz h0 h1];refine V.ok (qV (by decide)) ?_;rw [LC h0 h1];refine oS.2 ?_;rw [nK (by omega) (by omega)];refine oS.2 ?_;rw [nK (by omega) (by omega)];refine V.ok (qV (by decide)) ?_;rw [LC (by omega) (by omega)];refine bA.2 ?_;rw [nK (by omega) (by omega)];refine V.ok rK ?_;rw [aIz (by omega) (by omega)];refine V.ok (qV (by decide)) ?_;rw [LC (by omega) (by omega)];refine oS.2 ?_;rw [nK (by omega) (by omega)];refine bA.2 ?_;rw [nK (by omega) (by omega)];refine oS.2 ?_;rw [nK (by omega) (by omega)];refine bA.2 ?_;rw [nK (by omega) (by omega)];refine V.ok (qV (by decide)) ?_;rw [LC (by omega) (by omega)];refine bA.2 ?_;rw [nK (by omega) (by omega)];refine oS.2 ?_;rw [nK (by omega) (by omega)];rw [show (1:Int)*c=c from by omega];simp only [Int.mul_zero,Int.add_zero];exact hk
theorem bCa {c:Int} (h0:0<=c) (h1:c < 4294967296) (hk:K (.tuple #[KV 0,KV c]) w):aC prog 218 #[KV 1,KV c] w K:=by
 apply aUp;unfold NS;exact aP.2 (bBz h0 h1 (hU.2 (hO.2 hk)))
theorem aFd {x:Y} {n k m:Nat} (hk:k<=n) (hm:m<=n - k) (hmk:m<=k):(List.replicate k x++List.replicate (n - k) (i64 0)).take k++(List.replicate k x).take m++(List.replicate k x++List.replicate (n - k) (i64 0)).drop (k+m)=List.replicate (k+m) x++List.replicate (n - (k+m)) (i64 0):=by
 rw [List.take_append_of_le_length (by simp),List.take_of_length_le (by simp),List.take_replicate,Nat.min_eq_left hmk,List.drop_append,List.drop_eq_nil_of_le (by simp),List.nil_append,List.length_replicate,Nat.add_sub_cancel_left,List.drop_replicate,List.replicate_append_replicate,Nat.sub_sub]
theorem aBt {v:Y} {x:Int} {n:Nat} (hv:w.ownsRow w.heap.size 3 1 v 1 [i64 x]\/∃ B,w.ownsRow B 3 1 v 1 [i64 x]) (hn:n<=100000) (hk:∀ g w',bO w' g (List.replicate n (i64 x)) 3->w.heap.size<=g->aE w w'->K (.slice (some ⟨g,0,none⟩) n n) w'):aC prog 182 #[v,i64 (n:Int)] w K:=by
 have hv1:aA w v 1 1 [i64 x]:=by rcases hv with h|⟨B,h⟩<;>exact aA.of_own h
 obtain ⟨b,off,cap,rfl,_⟩:=hv1.there (by decide);apply aWb;unfold PA;refine ⟨λw'=>w=w',aW.2 (aB (λh=>by omega) λ_=>rfl),?_⟩;rintro _ rfl _;refine fQ aQ hv1 ?_;refine V.ok (kM underlying3 underlying152) ?_;rw [nK (by decide) (by decide)];refine V.ok (kM underlying3 underlying152) ?_;rw [nK (by omega) (by omega)];refine bCa (by omega) (by omega) (hU.2 (hO.2 ?_));refine ⟨λw'=>w=w',?_,?_⟩
 ·refine iH.2 ?_;rw [show decide ((0:Int) > 0)=false from rfl];refine pK.2 (pK.2 (iH.2 (jC ?_)));rw [if_neg (by decide),decide_eq_false (by omega)];exact aP.2 rfl
 rintro _ rfl _;refine V.ok (kM underlying152 underlying3) ?_;rw [aM (by omega)];refine mkB underlying23 bW rfl (by omega) (by omega) λw1 hB x1 _=>?_;have hlt:=hB.lt;generalize hg:w.heap.size=g at hB hlt;have hg0:w.heap.size<=g:=by omega
 refine cpR bB hB (by simp) (hv1.ext x1) rfl λw2 hB2 f2=>?_;have hxx:aE w w2:=f2.ext x1 λi hi=>by omega
 refine ⟨λv w'=>∃ k:Nat,v=i64 (k:Int)/\k<=n/\(0 < n->0 < k)/\bO w' g (List.replicate k (i64 x)++List.replicate (n - k) (i64 0)) 3/\aE w w',λv _=>n - (RowKit.intOf v).toNat,⟨min 1 n,rfl,by omega,by omega,?_,hxx⟩,?_⟩
 ·have e:(List.replicate n (i64 0)).take 0++[i64 x].take (min 1 n)++(List.replicate n (i64 0)).drop (0+min 1 n)=List.replicate (min 1 n) (i64 x)++List.replicate (n - min 1 n) (i64 0):=by
   rw [List.take_zero,List.nil_append,Nat.zero_add,List.drop_replicate]
   congr 1
   by_cases h:n=0
   ·subst h;rfl
   ·rw [show min 1 n=1 by omega];rfl
  rw [e] at hB2;exact hB2
 rintro _ w3 ⟨k,rfl,hkn,hk0,hB3,x3⟩ _;have hlen:(List.replicate k (i64 x)++List.replicate (n - k) (i64 0)).length=n:=by simp;omega
 have hsl:=hB3.slice (n:=n) hlen (by unfold maxLen;omega);refine fQ aQ hsl (aW.2 (aB (λhlt2=>?_) λhge=>?_))
 ·have D:aE w3 w3.drew:=(aE.refl _).drew;refine aK.mk' (λ_=>True) trivial ?_
  have lo:∀ w',(Instr.sliceAt 23 (.slice (some ⟨g,0,none⟩) n n) (some (i64 (k:Int))) none none).run prog w'=.ok (.slice (some ⟨g,k,none⟩) (n - k) (n - k)) w':=λw'=>by
   have h1:k<=n:=hkn;have h2:¬ n=k:=by omega
   simp [Instr.sliceAt,Instr.slice,run_underlying underlying23,fX bW,Instr.sliceBounds,Instr.sliceBound,asIntOf,h1,h2,lE]
  have hi:∀ w',(Instr.sliceAt 23 (.slice (some ⟨g,0,none⟩) n n) none (some (i64 (k:Int))) none).run prog w'=.ok (.slice (some ⟨g,0,none⟩) k n) w':=λw'=>by
   have:=bKw (P:=prog) (w:=w') underlying23 bW (a:=some ⟨g,0,none⟩) (n:=n) (c:=n) (k:=k) hkn;rw [if_neg (by omega)] at this;simpa [lE] using this
  refine aD.ok (λw' _=>lo w') (aD.ok (λw' _=>hi w') ?_);have hB4:=hB3.ext D
  have hsrc:aA w3.drew (.slice (some ⟨g,0,none⟩) k n) 1 k (List.replicate k (i64 x)):=⟨by simp,.inr ⟨g,0,n,rfl,hkn,by unfold maxLen;omega,λj u hj=>by
   have hjk:j < k:=by have:=(List.getElem?_eq_some_iff.1 hj).1;simpa using this
   rw [Nat.zero_add,hB4.cell,List.getElem?_append_left (by simpa using hjk)];exact hj⟩⟩
  refine cpR bB hB4 (by rw [hlen];omega) hsrc (by simp [bY]) λw5 hB5 f5=>⟨trivial,?_⟩;rw [aFd hkn (by omega) (by omega)] at hB5;refine aD.ok (λ_ _=>DD) ?_;rw [aM (by omega)];exact ⟨⟨k+min k (n - k),by simp,by omega,λ_=>by omega,hB5,f5.ext (x3.trans D) λi hi=>by omega⟩,by simp only [RowKit.intOf];omega⟩
 ·obtain rfl:k=n:=by omega
  rw [Nat.sub_self,List.replicate_zero,List.append_nil] at hB3;exact hk g w3 hB3 hg0 x3
end Go.Proofs.YtjcmcfidblhnnaaGreatDoor
namespace Go.Vc
theorem aHy {α:Type} {f:α->List Y} {sz:Nat} (hf:∀ x,(f x).length=sz) {l:List α} {j o:Nat} {x:α} (h:l[j]?=some x) (ho:o < sz):(l.flatMap f)[j*sz+o]?=(f x)[o]?:=by
 rw [<- yE hf h,List.getElem?_take,if_pos ho,List.getElem?_drop]
theorem MV {α:Type} {f:α->List Y} {sz:Nat} (hf:∀ x,(f x).length=sz) {o:Nat} {z:Y} (ho:o < sz):∀ {l:List α} {j:Nat} {x y:α},l[j]?=some x->f y=(f x).set o z->(l.flatMap f).set (j*sz+o) z=(l.set j y).flatMap f
 | [],_,_,_,h,_=>by simp at h
 | a::l,0,x,y,h,he=>by
  simp at h;subst h;rw [Nat.zero_mul,Nat.zero_add,List.flatMap_cons,List.set_cons_zero,List.flatMap_cons,he,List.set_append_left _ _ (by rw [hf];exact ho)]
 | a::l,j+1,x,y,h,he=>by
  rw [List.flatMap_cons,List.set_cons_succ,List.flatMap_cons,<- MV hf ho (l:=l) (j:=j) (by simpa using h) he,List.set_append_right _ _ (by rw [hf,Nat.add_mul];omega),hf]
  congr 2
  rw [Nat.add_mul];omega
end Go.Vc
namespace Go.Proofs.YtjcmcfidblhnnaaGreatDoor
open Tryz
open Go.Vc
variable {w:O} {K:Y->O->Prop}
structure lU where
 x:cJ
 f:Nat
 c:List gN
 v:Y
def lU.cells (e:lU):List Y:=e.x.cells++[e.v,i64 (e.f:Int)]
theorem lU.len (e:lU):e.cells.length=13:=by simp [lU.cells,e.x.len]
def UB (l:List lU):List Y:=l.flatMap lU.cells
def kV (l:List lU):List cJ:=l.map lU.x
def lB (l:List lU):List Nat:=l.map lU.f
def cJ.fix:cJ->List gN
 | .one i=>[i]
 | .place _=>[]
 | .jump _ _=>[]
 | .load r n=>sJ r n
def cJ.isJ:cJ->Bool
 | .jump _ _=>true
 | _=>false
structure wT (w:O) (B:Nat) (u:Y) (l:List lU):Prop where
 row:w.ownsRow B 232 13 u l.length (UB l)
 code:∀ e∈l,gM w B e.v e.c
 fix:∀ e∈l,e.x.isJ=false->e.c=e.x.fix
 few:∀ e∈l,e.c.length<=100
theorem wT.ext {w':O} {B:Nat} {u:Y} {l:List lU} (h:wT w B u l) (hx:aE w w'):wT w' B u l:=⟨hx.own h.row,λe he=>(h.code e he).ext hx,h.fix,h.few⟩
theorem BT {l:List lU} {j:Nat} {e:lU} (h:l[j]?=some e):((UB l).drop (((j:Int)).toNat*13)).take 13=e.cells:=by
 rw [Int.toNat_natCast];exact yE lU.len h
theorem wT.one {B:Nat} {u:Y} {l:List lU} (h:wT w B u l) {e:lU} (he:e∈l):e.cells.all bY=true:=by
 unfold lU.cells;rw [List.all_append,tB,Bool.true_and];show (bY e.v&&(bY (i64 (e.f:Int))&&true))=true;rw [nU (h.code e he)];rfl
theorem aIa {x:cJ} {f:Nat} (hj:x.isJ=false):jP x.fix=x.size f:=by
 cases x with
 | one i=>simp [cJ.fix,jP,cJ.size]
 | place l=>rfl
 | jump c q=>cases hj
 | load r n=>rfl
theorem SE (l:List gN) (i:gN):jP (l++[i])=jP l+i.size:=by simp [jP]
theorem LB:∀ l:List gN,jP l<=4*l.length
 | []=>by simp [jP]
 | i::l=>by
  have h1:=LB l;have h2:i.size<=4:=by unfold gN.size;split<;>omega
  have e:jP (i::l)=i.size+jP l:=by simp [jP]
  rw [e,List.length_cons];omega
theorem aPd {e:lU} {B:Nat} (hc:gM w B e.v e.c) (hf:e.x.isJ=false->e.c=e.x.fix) (hl:e.c.length<=100) (hm:∀ c q,e.x=.jump c q->e.f<=tN c) (hk:∀ w',aE w w'->K (i64 ((e.x.size e.f:Nat):Int)) w'):aC prog 180 #[.agg e.cells.toArray] w K:=by
 apply aWd;unfold PC;refine bx λb w1 hb x1=>?_;have hb:aY w1 b e.cells:=hb
 have go:∀ {k:Int},e.cells[0]?=some (i64 k)->k≠3->e.x.isJ=false->V prog (Instr.fieldAt 232 (.pointer (some ⟨b,0,none⟩)) 1) w1 λt18 w8=>V prog (Instr.loadAt 230 t18) w8 λt19 w9=>V prog (Builtin.len_ #[230] 3 #[t19]) w9 λt20 w10=>
   ∃ (I1:NP 2) (μ1:NF 2),I1 (i64 0) (i64 0) w10/\∀ (t3:Y) (t21:Y),∀ w11:O,I1 t3 t21 w11->∀ _f:bM,V prog (binOp .lss 3 t21 t20) w11 λt22 w12=>aI t22 (
    V prog (Instr.indexAt 230 t19 t21) w12 λt23 w13=>V prog (Instr.loadAt 83 t23) w13 λt24 w14=>V prog (Instr.alloc 83 true (.tuple #[])) w14 λt5 w15=>U prog (Instr.storeAt 83 t5 t24) w15 λ_ w16=>V prog (Instr.loadAt 83 t5) w16 λt26 w17=>
    aC prog 213 #[t26] w17 λt27 w18=>V prog (binOp .add 3 t3 t27) w18 λt28 w19=>V prog (binOp .add 3 t21 (i64 1)) w19 λt29 w20=>I1 t28 t29 w20/\μ1 t28 t29 w20 < μ1 t3 t21 w11) (K t3 w12):=λ{k} hk0 hk3 hj=>by
  have hv:e.cells[11]?=some e.v:=by unfold lU.cells;rw [List.getElem?_append_right (by rw [e.x.len];decide),e.x.len];rfl
  refine bC hb fT jF hv (fQ vT (aA.of_own (hc.ext x1)) ?_);refine ⟨λs v w'=>∃ j:Nat,v=i64 j/\j<=e.c.length/\s=i64 ((jP (e.c.take j):Nat):Int)/\aE w w',λ_ v _=>e.c.length - (RowKit.intOf v).toNat,⟨0,rfl,Nat.zero_le _,rfl,x1⟩,?_⟩;rintro _ _ w2 ⟨j,rfl,hj2,rfl,x2⟩ _;refine aW.2 (aB (λhlt=>?_) λhge=>?_)
  ·obtain ⟨i,hi⟩:=bE (l:=e.c) (j:=j) (by omega);refine uI vT nI (aA.of_own (hc.ext x2)) (by omega) (by omega) (BI hi) rfl ?_;refine rX GJ rfl rfl λw3 h5 x3=>?_;have h5:aY w3 w2.heap.size i.cells:=bO.boxed h5;refine iF h5 nI rfl (VL λw4 x4=>bA.2 ?_);have hs:=LB (e.c.take j);have hs2:i.size<=4:=by unfold gN.size;split<;>omega
   have hle:(e.c.take j).length<=100:=by rw [List.length_take];omega
   rw [aM (by omega)];refine kQ (by omega) ?_;refine ⟨⟨j+1,rfl,by omega,?_,(x2.trans x3).trans x4⟩,by simp only [aL];omega⟩;rw [List.take_add_one,hi,show (some i).toList=[i] from rfl,SE];simp
  ·have ee:e.c.take j=e.c:=List.take_of_length_le (by omega);rw [ee,hf hj,aIa (f:=e.f) hj];exact hk w2 x2
 cases hx:e.x with
 | jump c q=>
  have hcs:e.cells=[i64 3,i64 0,i64 0,i64 0,i64 0,i64 0,i64 0,i64 q,i64 c,i64 0,i32 0,e.v,i64 (e.f:Int)]:=by unfold lU.cells;rw [hx];rfl
  rw [hcs] at hb;refine rU hb bQ aZ aG rfl (aH.2 (aB (λ_=>?_) λh=>absurd rfl h));have D:aE w1 w1.drew:=(aE.refl _).drew;refine aK.mk' (λw'=>aE w1.drew w') (aE.refl _) ?_;refine yB2 (λw' hx=>(hb.ext D).ext hx) bQ eA aG rfl ?_;refine jG (λw' hx=>(hb.ext D).ext hx) fZ aG rfl ?_;refine aHx λv w2 hv x2=>⟨x2,?_⟩;have hfm:=hm c q hx
  have hget:∃ z,(JZ c)[e.f]?=some z/\z=2+2*(e.f:Int):=by
   unfold tN at hfm;unfold JZ;by_cases h14:c=14
   ·rw [if_pos h14] at hfm ⊢;have:e.f=0\/e.f=1:=by omega
    rcases this with h|h<;>rw [h]<;>exact ⟨_,rfl,by decide⟩
   ·rw [if_neg h14] at hfm ⊢;have:e.f=0\/e.f=1\/e.f=2:=by omega
    rcases this with h|h|h<;>rw [h]<;>exact ⟨_,rfl,by decide⟩
  obtain ⟨z,hz,hze⟩:=hget;have hlt:=(List.getElem?_eq_some_iff.1 hz).1;refine ⟨λw'=>aE w2 w',λ_ h=>x2.trans h,aE.refl _,?_⟩;refine oE aQ aG hv (λw' h=>h) (by omega) (by omega) (cK hz) ?_;have:=hk w2 ((x1.trans D).trans x2);rw [hx] at this;rw [hze];have e2:((cJ.size (.jump c q) e.f:Nat):Int)=2+2*(e.f:Int):=by show ((2+2*e.f:Nat):Int)=_;omega
  rw [e2] at this;exact this
 | one i=>
  have h0:e.cells[0]?=some (i64 1):=by unfold lU.cells;rw [hx];rfl
  refine rU hb bQ aZ aG h0 (aH.2 (aB (λh=>absurd h (by decide)) λ_=>?_));exact go h0 (by decide) (by rw [hx];rfl)
 | place q=>
  have h0:e.cells[0]?=some (i64 2):=by unfold lU.cells;rw [hx];rfl
  refine rU hb bQ aZ aG h0 (aH.2 (aB (λh=>absurd h (by decide)) λ_=>?_));exact go h0 (by decide) (by rw [hx];rfl)
 | load r n=>
  have h0:e.cells[0]?=some (i64 4):=by unfold lU.cells;rw [hx];rfl
  refine rU hb bQ aZ aG h0 (aH.2 (aB (λh=>absurd h (by decide)) λ_=>?_));exact go h0 (by decide) (by rw [hx];rfl)
def kW (l:List lU) (n:Nat):List Int:=(List.range n).map λ(k:Nat)=>((sQ (kV l) (lB l) k:Nat):Int)
theorem vV {l:List lU} {n k:Nat} (h:k < n):(kW l n)[k]?=some ((sQ (kV l) (lB l) k:Nat):Int):=by
 unfold kW;rw [List.getElem?_map,List.getElem?_range h];rfl
theorem pY (l:List lU) (n:Nat):(kW l n).length=n:=by simp [kW]
theorem AB {l:List lU} {j:Nat} {e:lU} (h:l[j]?=some e):(kV l)[j]?=some e.x/\(lB l).getD j 0=e.f:=by
 unfold kV lB;rw [List.getElem?_map,h,List.getD_eq_getElem?_getD,List.getElem?_map,h];exact ⟨rfl,rfl⟩
theorem AA.most {l:List lU} (h:AA (kV l) (lB l)) {j:Nat} {e:lU} (he:l[j]?=some e):∀ c q,e.x=.jump c q->e.f<=tN c:=λc q hx=>by
 obtain ⟨h1,h2⟩:=AB he;rw [<- h2];exact h.jump j c q (by rw [h1,hx])
theorem GG {B:Nat} {u:Y} {l:List lU} (h:wT w B u l) (hf:AA (kV l) (lB l)) (hl:l.length<=6000) (hk:∀ v w',w'.ownsRow w.heap.size 3 1 v (l.length+1) ((kW l (l.length+1)).map i64)->aE w w'->K v w'):aC prog 123 #[u] w K:=by
 apply aYj;unfold RG;have hxl:(kV l).length=l.length:=by simp [kV]
 have hfl:(lB l).length=(kV l).length:=by simp [kV,lB]
 refine jX bB [i64 0] rfl rfl (by simp) rfl λv0 w1 ho x1=>?_;refine fQ rR (aA.of_own (h.ext x1).row) ?_;refine ⟨λv a k w'=>∃ j:Nat,k=i64 j/\j<=l.length/\a=i64 ((sQ (kV l) (lB l) j:Nat):Int)/\w'.ownsRow w.heap.size 3 1 v (j+1) ((kW l (j+1)).map i64)/\aE w w',λ_ _ k _=>l.length - (RowKit.intOf k).toNat,⟨0,rfl,Nat.zero_le _,rfl,ho,x1⟩,?_⟩;rintro v _ _ w2 ⟨j,rfl,hj,rfl,hv,x2⟩ _;refine aW.2 (aB (λhlt=>?_) λhge=>?_)
 ·obtain ⟨e,he⟩:=bE (l:=l) (j:=j) (by omega);have hem:=List.mem_of_getElem? he;have h2:=h.ext x2;refine uI rR zR (aA.of_own h2.row) (by omega) (by omega) (BT he) e.len ?_;refine rX CP (by simpa [Value.cells] using e.len) (by simpa [Value.cells] using h.one hem) λw3 h6 x3=>?_;have h6:aY w3 w2.heap.size e.cells:=bO.boxed h6;refine iF h6 zR e.len ?_;refine aPd ((h2.code e hem).ext x3) (h.fix e hem) (h.few e hem) (hf.most he) λw4 x4=>bA.2 ?_;obtain ⟨q1,q2⟩:=AB he;have ha:=yO hfl q1;rw [q2] at ha;have hb:=hf.at_le (j+1);rw [aM (by omega)];have ea:((sQ (kV l) (lB l) j:Nat):Int)+((e.x.size e.f:Nat):Int)=((sQ (kV l) (lB l) (j+1):Nat):Int):=by rw [ha];omega
  rw [ea];refine jX bB [i64 ((sQ (kV l) (lB l) (j+1):Nat):Int)] rfl rfl (by simp) rfl λv5 w5 ho5 x5=>?_;have x25:=(x3.trans x4).trans x5;have s2:=x2.size;have s25:=x25.size;refine apG underlying23 bW rfl (by decide) (x25.own hv) (aA.of_own ho5) rfl (by omega) (by unfold maxLen;omega) (by omega) λv6 w6 ho6 hg6 _=>bA.2 ?_;rw [aM (by omega),bK];refine ⟨⟨j+1,rfl,by omega,rfl,?_,(x2.trans x25).grown hg6 λk hk=>(hv.lt k hk).1⟩,by simp only [aL];omega⟩
  have es:(kW l (j+1)).map i64++[i64 ((sQ (kV l) (lB l) (j+1):Nat):Int)]=(kW l (j+1+1)).map i64:=by
   unfold kW;rw [List.range_succ (n:=j+1),List.map_append,List.map_append];rfl
  rw [es] at ho6;exact ho6
 ·obtain rfl:j=l.length:=by omega
  exact hk v w2 hv x2
def oJ (l:List cJ) (f:List Nat) (n j:Nat):List Y:=(List.range n).map λ(q:Nat)=>i64 (xX l f (q:Int) j)
theorem pH (l:List cJ) (f:List Nat) (n j:Nat):(oJ l f n j).length=n:=by simp [oJ]
theorem vE {l:List cJ} {f:List Nat} {n j q:Nat} (h:q < n):(oJ l f n j)[q]?=some (i64 (xX l f (q:Int) j)):=by
 unfold oJ;rw [List.getElem?_map,List.getElem?_range h];rfl
theorem JO {l:List cJ} {f:List Nat} {n j q:Nat} (hx:l[j]?=some (.place q)) (hq:q < n):(oJ l f n j).set q (i64 (sQ l f j:Int))=oJ l f n (j+1):=by
 apply List.ext_getElem?;intro k;by_cases hk:k < n
 ·rw [List.getElem?_set,vE hk,vE hk];have e:xX l f (k:Int) (j+1)=if (q:Int)=(k:Int) then (sQ l f j:Int) else xX l f (k:Int) j:=by rw [xX,hx]
  rw [e];by_cases hqk:q=k
  ·subst hqk;rw [if_pos rfl,if_pos (by rw [pH];exact hq),if_pos rfl]
  ·rw [if_neg hqk,if_neg (by omega)]
 ·rw [List.getElem?_eq_none (by rw [List.length_set,pH];omega),List.getElem?_eq_none (by rw [pH];omega)]
theorem sY {l:List cJ} {f:List Nat} {n j:Nat} {x:cJ} (hx:l[j]?=some x) (hp:x.pl=[]):oJ l f n (j+1)=oJ l f n j:=by
 unfold oJ;refine List.map_congr_left λq _=>?_;rw [xX,hx];cases x with
 | place q'=>simp [cJ.pl] at hp
 | _=>rfl
theorem MF (l:List cJ) (f:List Nat) (n:Nat):oJ l f n 0=List.replicate n (i64 (-1)):=by
 apply List.ext_getElem?;intro k;by_cases hk:k < n
 ·rw [vE hk,List.getElem?_replicate_of_lt hk];rfl
 ·rw [List.getElem?_eq_none (by rw [pH];omega),List.getElem?_eq_none (by rw [List.length_replicate];omega)]
theorem HC {B:Nat} {u atv:Y} {l:List lU} (h:wT w B u l) (hl:l.length<=6000) (hok:∀ x∈kV l,x.okI) (ha:aN w atv (kW l (l.length+1)))
  (hk:∀ g (n:Nat) w',w.heap.size<=g->(∀ q:Nat,(q:Int)∈jV (kV l)->q < n)->n<=2001->bO w' g (oJ (kV l) (lB l) n l.length) 3->aE w w'->K (.slice (some ⟨g,0,none⟩) n n) w'):aC prog 125 #[u,atv] w K:=by
 apply aYh;unfold RE;have xtake:∀ {j:Nat} {e:lU},l[j]?=some e->(kV l).take (j+1)=(kV l).take j++[e.x]:=λ{j e} he=>by rw [List.take_add_one,(AB he).1];rfl
 refine fQ rR (aA.of_own h.row) ?_;refine ⟨λm k w'=>∃ (j:Nat) (mx:Int),k=i64 j/\m=i64 mx/\j<=l.length/\-1<=mx/\mx<=2000/\(∀ q∈jV ((kV l).take j),q<=mx)/\aE w w',λ_ k _=>l.length - (RowKit.intOf k).toNat,⟨0,-1,rfl,rfl,Nat.zero_le _,by decide,by decide,λq hq=>by simp [jV] at hq,aE.refl _⟩,?_⟩;rintro _ _ w1 ⟨j,mx,rfl,rfl,hj,hm1,hm2,hmx,x1⟩ _;refine aW.2 (aB (λhlt=>?_) λhge=>?_)
 ·obtain ⟨e,he⟩:=bE (l:=l) (j:=j) (by omega);have hem:=List.mem_of_getElem? he;have h1:=h.ext x1;refine uI rR zR (aA.of_own h1.row) (by omega) (by omega) (BT he) e.len ?_;refine rX CP (by simpa [Value.cells] using e.len) (by simpa [Value.cells] using h.one hem) λw2 h7 x2=>?_;have h7:aY w2 w1.heap.size e.cells:=bO.boxed h7;have hoi:=hok e.x (List.mem_map.2 ⟨e,hem,rfl⟩)
  have nx:∀ {m':Int},-1<=m'->m'<=2000->(∀ q∈jV ((kV l).take (j+1)),q<=m')->V prog (binOp .add 3 (i64 j) (i64 1)) w2 λt w3=>(∃ (j:Nat) (mx:Int),t=i64 j/\i64 m'=i64 mx/\j<=l.length/\-1<=mx/\mx<=2000/\(∀ q∈jV ((kV l).take j),q<=mx)/\aE w w3)/\l.length - (RowKit.intOf t).toNat < l.length - (RowKit.intOf (i64 (j:Int))).toNat:=λh1 h2 h3=>by
   refine kQ (by omega) ?_;exact ⟨⟨j+1,_,rfl,rfl,by omega,h1,h2,h3,x1.trans x2⟩,by simp only [aL];omega⟩
  have oth:e.x.pl=[]->∀ q∈jV ((kV l).take (j+1)),q<=mx:=λhp q hq=>by
   rw [xtake he,qX,show jV [e.x]=[] from by simp [jV,hp],List.append_nil] at hq;exact hmx q hq
  cases hx:e.x with
  | place q=>
   have hcs:e.cells=[i64 2,i64 0,i64 0,i64 0,i64 0,i64 0,i64 0,i64 q,i64 0,i64 0,i32 0,e.v,i64 (e.f:Int)]:=by unfold lU.cells;rw [hx];rfl
   rw [hcs] at h7;rw [hx] at hoi;have hq:0<=q/\q<=2000:=hoi;refine rU h7 bQ aZ aG rfl (aH.2 (aB (λ_=>?_) λh=>absurd rfl h));refine rU h7 bQ cB aG rfl (mx2 λc hc h1 h2=>?_);refine nx (by omega) (by omega) λq' hq'=>?_;rw [xtake he,qX,hx,show jV [cJ.place q]=[q] from rfl] at hq';rcases List.mem_append.1 hq' with h|h
   ·have:=hmx q' h;omega
   ·rw [List.mem_singleton] at h;omega
  | one i=>
   have h0:e.cells[0]?=some (i64 1):=by unfold lU.cells;rw [hx];rfl
   refine rU h7 bQ aZ aG h0 (aH.2 (aB (λh=>absurd h (by decide)) λ_=>nx hm1 hm2 (oth (by rw [hx];rfl))))
  | jump c q=>
   have h0:e.cells[0]?=some (i64 3):=by unfold lU.cells;rw [hx];rfl
   refine rU h7 bQ aZ aG h0 (aH.2 (aB (λh=>absurd h (by decide)) λ_=>nx hm1 hm2 (oth (by rw [hx];rfl))))
  | load r n=>
   have h0:e.cells[0]?=some (i64 4):=by unfold lU.cells;rw [hx];rfl
   refine rU h7 bQ aZ aG h0 (aH.2 (aB (λh=>absurd h (by decide)) λ_=>nx hm1 hm2 (oth (by rw [hx];rfl))))
 have ee:(kV l).take j=kV l:=List.take_of_length_le (by simp [kV];omega);rw [ee] at hmx;clear hge ee;refine jX bB [i64 (-1)] rfl rfl (by simp) rfl λv2 w2 ho2 x2=>bA.2 ?_;rw [aM (by omega)];obtain ⟨n,hn⟩:∃ n:Nat,mx+1=n:=⟨(mx+1).toNat,by omega⟩;rw [hn];refine aBt (.inr ⟨_,ho2⟩) (by omega) λg w3 hB hg x3=>?_;rw [<- MF (kV l) (lB l)] at hB;have x13:=x2.trans x3;have x03:=x1.trans x13;have hgw:w.heap.size<=g:=by have:=x1.size;have:=x2.size;omega
 refine fQ rR (aA.of_own (h.ext x03).row) ?_;refine ⟨λk w'=>∃ j:Nat,k=i64 j/\j<=l.length/\bO w' g (oJ (kV l) (lB l) n j) 3/\aE w w',λk _=>l.length - (RowKit.intOf k).toNat,⟨0,rfl,Nat.zero_le _,hB,x03⟩,?_⟩;rintro _ w4 ⟨j,rfl,hj,hB4,x4⟩ _;refine aW.2 (aB (λhlt=>?_) λhge=>?_)
 ·obtain ⟨e,he⟩:=bE (l:=l) (j:=j) (by omega);have hem:=List.mem_of_getElem? he;have hxe:=(AB he).1;have h4:=h.ext x4;refine uI rR zR (aA.of_own h4.row) (by omega) (by omega) (BT he) e.len ?_;refine rX CP (by simpa [Value.cells] using e.len) (by simpa [Value.cells] using h.one hem) λw5 h10 x5=>?_;have h10:aY w5 w4.heap.size e.cells:=bO.boxed h10;have x05:=x4.trans x5;have hB5:=hB4.ext x5
  have nx:∀ {w'},aE w w'->bO w' g (oJ (kV l) (lB l) n (j+1)) 3->V prog (binOp .add 3 (i64 j) (i64 1)) w' λt w3=>(∃ j:Nat,t=i64 j/\j<=l.length/\bO w3 g (oJ (kV l) (lB l) n j) 3/\aE w w3)/\l.length - (RowKit.intOf t).toNat < l.length - (RowKit.intOf (i64 (j:Int))).toNat:=λh1 h2=>by
   refine kQ (by omega) ?_;exact ⟨⟨j+1,rfl,by omega,h2,h1⟩,by simp only [aL];omega⟩
  cases hx:e.x with
  | place q=>
   rw [hx] at hxe;have hcs:e.cells=[i64 2,i64 0,i64 0,i64 0,i64 0,i64 0,i64 0,i64 q,i64 0,i64 0,i32 0,e.v,i64 (e.f:Int)]:=by unfold lU.cells;rw [hx];rfl
   rw [hcs] at h10;have hqm:q∈jV (kV l):=List.mem_flatMap.2 ⟨_,List.mem_of_getElem? hxe,List.mem_singleton.2 rfl⟩;have hq0:0<=q/\q<=2000:=by have:=hok e.x (List.mem_map.2 ⟨e,hem,rfl⟩);rw [hx] at this;exact this
   obtain ⟨q,rfl⟩:=jW hq0.1;have hqn:q < n:=by have:=hmx _ hqm;omega
   refine rU h10 bQ aZ aG rfl (aH.2 (aB (λ_=>?_) λh=>absurd rfl h));have D:aE w5 w5.drew:=(aE.refl _).drew;refine aK.mk' (λw'=>aE w5.drew w') (aE.refl _) ?_;refine yB2 (λw' hx=>(h10.ext D).ext hx) bQ cB aG rfl ?_;refine oE aQ aG (ha.ext (x05.trans D)) (λ_ h=>h) (by omega) (by rw [pY];omega) (cK (vV (by omega))) ?_;refine aD.ok (λw' _=>iL underlying23 bW (by omega) (by omega)) ?_;rw [Int.toNat_natCast];refine KZ bW (hB5.ext D) (by rw [pH];exact hqn) rfl ?_;have hs:=(hB5.ext D).set q (i64 ((sQ (kV l) (lB l) j:Nat):Int));rw [JO hxe hqn] at hs;exact nx ((x05.trans D).setCell hgw _) hs
  | one i=>
   have h0:e.cells[0]?=some (i64 1):=by unfold lU.cells;rw [hx];rfl
   refine rU h10 bQ aZ aG h0 (aH.2 (aB (λh=>absurd h (by decide)) λ_=>nx x05 (by rw [sY hxe (by rw [hx];rfl)];exact hB5)))
  | jump c q=>
   have h0:e.cells[0]?=some (i64 3):=by unfold lU.cells;rw [hx];rfl
   refine rU h10 bQ aZ aG h0 (aH.2 (aB (λh=>absurd h (by decide)) λ_=>nx x05 (by rw [sY hxe (by rw [hx];rfl)];exact hB5)))
  | load r n'=>
   have h0:e.cells[0]?=some (i64 4):=by unfold lU.cells;rw [hx];rfl
   refine rU h10 bQ aZ aG h0 (aH.2 (aB (λh=>absurd h (by decide)) λ_=>nx x05 (by rw [sY hxe (by rw [hx];rfl)];exact hB5)))
 ·obtain rfl:j=l.length:=by omega
  exact hk g n w4 hgw (λq hq=>by have:=hmx _ hq;omega) (by omega) hB4 x4
theorem wT.at_ {B g cap:Nat} {l:List lU} (h:wT w B (.slice (some ⟨g,0,none⟩) l.length cap) l) {j o:Nat} {e:lU} {z:Y} (he:l[j]?=some e) (hz:e.cells[o]?=some z):w.cell? ⟨g,j*13+o,none⟩=some z:=by
 have ho:o < 13:=by have:=(List.getElem?_eq_some_iff.1 hz).1;rw [e.len] at this;exact this
 have hj:=(List.getElem?_eq_some_iff.1 he).1;rw [h.row.cellAt (j*13+o) (by have:(j+1)*13<=l.length*13:=Nat.mul_le_mul_right _ hj;omega)];unfold UB;rw [aHy lU.len he ho];exact hz
theorem wT.put {B g cap:Nat} {l:List lU} (h:wT w B (.slice (some ⟨g,0,none⟩) l.length cap) l) {t j o by_:Nat} {e e':lU} {zz z:Y} {K':O->Prop} (hi:dD prog t zz 1 by_) (he:l[j]?=some e) (hc:e'.cells=e.cells.set o z) (ho:o < 13) (hz:bY z=true) (h2:gM w B e'.v e'.c) (h3:e'.x.isJ=false->e'.c=e'.x.fix) (h4:e'.c.length<=100)
  (hk:∀ w',wT w' B (.slice (some ⟨g,0,none⟩) l.length cap) (l.set j e')->Fr (λk=>k=g) w w'->K' w'):U prog (Instr.storeAt t (.pointer (some ⟨g,j*13+o,none⟩)) z) w λ_ w'=>K' w':=by
 have hu:∃ u,e.cells[o]?=some u:=bE (by rw [e.len];exact ho);obtain ⟨u,hu⟩:=hu;have hold:=h.at_ he hu;obtain ⟨s1,s2⟩:=h.row.stored (j*13+o) z;have f:Fr (λk=>k=g) w (w.setCell ⟨g,j*13+o,none⟩ z):=Fr.of_grown s2 λk hk=>by cases hk;rfl
 have kp:∀ {v:Y} {c:List gN},gM w B v c->gM (w.setCell ⟨g,j*13+o,none⟩ z) B v c:=λ{v c} ht=>f.own ht λk hk hS=>by
  rcases zM ht h.row (by decide) with h1|h1
  ·rw [h1] at hk;cases hk
  ·exact h1 (by rw [hk,hS];rfl)
 refine U.ok (mW hi hz hold (h.row.frozenAt _)) (hk _ ⟨?_,λx hx=>?_,λx hx=>?_,λx hx=>?_⟩ f)
 ·rw [List.length_set];unfold UB at s1 ⊢;rw [MV lU.len ho he hc] at s1;exact s1
 ·rcases List.mem_or_eq_of_mem_set hx with hx|rfl
  ·exact kp (h.code x hx)
  ·exact kp h2
 ·rcases List.mem_or_eq_of_mem_set hx with hx|rfl
  ·exact h.fix x hx
  ·exact h3
 ·rcases List.mem_or_eq_of_mem_set hx with hx|rfl
  ·exact h.few x hx
  ·exact h4
theorem TK {c a b:Int} {f:Nat}:∀ i∈mN c f a b,FO i:=by
 intro i hi
 have aw:∀ {f:Nat} {a b:Int},∀ i∈oR f a b,FO i:=λ{f a b} i hi=>by
  unfold oR at hi;rw [List.mem_singleton] at hi;subst hi;refine ⟨λe=>?_,λ_=>⟨rfl,rfl,rfl,rfl⟩⟩;dsimp only at e;split at e<;>omega
 unfold mN at hi;split at hi
 ·exact aw i hi
 ·split at hi
  ·rw [List.mem_singleton] at hi;subst hi;exact ⟨λe=>by dsimp only at e;omega,λe=>by dsimp only at e;omega⟩
  ·rcases List.mem_cons.1 hi with rfl|hi
   ·exact ⟨λe=>by dsimp only at e;omega,λe=>by dsimp only at e;omega⟩
   ·exact aw i hi
theorem vF {c a b:Int} {f:Nat}:(mN c f a b).length<=2:=by
 unfold mN;split
 ·simp [oR]
 ·split<;>simp [oR]
structure tW (l l':List lU) (j:Nat):Prop where
 len:l'.length=l.length
 at_:∀ (k:Nat) e,l[k]?=some e->∃ e',l'[k]?=some e'/\e'.x=e.x/\(k < j->e'.f=(rN (kV l) (lB l)).getD k 0/\e'.c=e.x.codeK e.f (sQ (kV l) (lB l) k) (DO (kV l) (lB l)))/\(j<=k->e'=e)
theorem tW.zero (l:List lU):tW l l 0:=⟨rfl,λk e he=>⟨e,he,rfl,λh=>by omega,λ_=>rfl⟩⟩
theorem tW.xs {l l':List lU} {j:Nat} (h:tW l l' j):kV l'=kV l:=by
 apply List.ext_getElem?;intro k;unfold kV;rw [List.getElem?_map,List.getElem?_map];cases he:l[k]? with
 | none=>
  have:=h.len;rw [List.getElem?_eq_none (by have:=List.getElem?_eq_none_iff.1 he;omega)]
 | some e=>
  obtain ⟨e',h1,h2,_⟩:=h.at_ k e he;rw [h1];simp [h2]
theorem tW.fs {l l':List lU} (h:tW l l' l.length):lB l'=rN (kV l) (lB l):=by
 apply List.ext_getElem
 ·rw [mZ];simp [lB,h.len]
 ·intro k h1 h2;have hk:k < l.length:=by have:=h.len;simp [lB] at h1;omega
  obtain ⟨e,he⟩:=bE hk;obtain ⟨e',q1,_,q3,_⟩:=h.at_ k e he;have q4:=(q3 hk).1;rw [List.getD_eq_getElem?_getD,List.getElem?_eq_getElem h2] at q4;have q5:=(AB q1).2;rw [List.getD_eq_getElem?_getD,List.getElem?_eq_getElem h1] at q5;simp only [Option.getD_some] at q4 q5;rw [q5,q4]
theorem tW.next {l l':List lU} {j:Nat} (h:tW l l' j) {e e':lU} (he:l[j]?=some e) (h1:e'.x=e.x) (h2:e'.f=(rN (kV l) (lB l)).getD j 0) (h3:e'.c=e.x.codeK e.f (sQ (kV l) (lB l) j) (DO (kV l) (lB l))):tW l (l'.set j e') (j+1):=by
 refine ⟨by rw [List.length_set];exact h.len,λk y hy=>?_⟩;have hj:j < l'.length:=by rw [h.len];exact (List.getElem?_eq_some_iff.1 he).1
 rw [List.getElem?_set];by_cases hk:j=k
 ·subst hk;rw [if_pos rfl,if_pos hj];rw [he] at hy;cases hy;exact ⟨e',rfl,h1,λ_=>⟨h2,h3⟩,λhh=>by omega⟩
 ·rw [if_neg hk];obtain ⟨y',q1,q2,q3,q4⟩:=h.at_ k y hy;exact ⟨y',q1,q2,λhh=>q3 (by omega),λhh=>q4 (by omega)⟩
theorem tW.skip {l l':List lU} {j:Nat} (h:tW l l' j) {e:lU} (he:l[j]?=some e) (h2:e.f=(rN (kV l) (lB l)).getD j 0) (h3:e.c=e.x.codeK e.f (sQ (kV l) (lB l) j) (DO (kV l) (lB l))):tW l l' (j+1):=by
 refine ⟨h.len,λk y hy=>?_⟩;obtain ⟨y',q1,q2,q3,q4⟩:=h.at_ k y hy;refine ⟨y',q1,q2,λhh=>?_,λhh=>q4 (by omega)⟩;by_cases hk:k=j
 ·subst hk;rw [he] at hy;cases hy;obtain rfl:=q4 (Nat.le_refl _);exact ⟨h2,h3⟩
 ·exact q3 (by omega)
theorem bDg {B:Nat} {u:Y} {l:List lU} (h:wT w B u l) (ho:tR (kV l)) (hf:AA (kV l) (lB l)) (hB:B<=w.heap.size)
  (hk:∀ (b:Bool) l' w',wT w' B u l'->tW l l' l.length->(b=true↔∃ k,k < l.length/\iV (kV l) (lB l) k=false)->(∀ w0,aE w0 w->w0.heap.size<=B->aE w0 w')->K (.bool b) w'):aC prog 122 #[u] w K:=by
 apply aYk;unfold RH;have hlx:(kV l).length=l.length:=by simp [kV]
 have hl:l.length<=6000:=by have:=ho.len;omega
 refine GG h hf hl λatv w1 hat x1=>?_;have hatI:aN w1 atv (kW l (l.length+1)):=by unfold aN;rw [pY];exact aA.of_own hat
 refine HC (h.ext x1) hl ho.ok hatI λgL n w2 hgL hqn hn hL x2=>?_;have x02:=x1.trans x2;have h2:=h.ext x02;have hat2:=x2.own hat;refine fQ rR (aA.of_own h2.row) ?_;have hs1:=x1.size;have hs2:=x2.size;refine ⟨λb k w'=>∃ (j:Nat) (bb:Bool) (l':List lU),k=i64 j/\b=.bool bb/\j<=l.length/\wT w' B u l'/\tW l l' j/\(bb=true↔∃ k,k < j/\iV (kV l) (lB l) k=false)/\Fr (λk=>u.ownBlock=some k) w2 w',λ_ k _=>l.length - (RowKit.intOf k).toNat,⟨0,false,l,rfl,rfl,Nat.zero_le _,h2,tW.zero l,⟨λh=>(by cases h),λ⟨k,hk,_⟩=>(by omega)⟩,Fr.refl _ _⟩,?_⟩;rintro _ _ w3 ⟨j,bb,l',rfl,rfl,hj,h3,hfit,hbb,f3⟩ _;have x3:∀ w0,aE w0 w->w0.heap.size<=B->aE w0 w3:=λw0 hx hs=>f3.ext (hx.trans x02) λi hi=>by have:=(h.row.lt i hi).1;omega
 refine aW.2 (aB (λhlt=>?_) λhge=>?_)
 ·obtain ⟨e,he⟩:=bE (l:=l) (j:=j) (by omega);obtain ⟨e1,he1,_,_,hsame⟩:=hfit.at_ j e he;obtain rfl:=hsame (Nat.le_refl _);obtain ⟨hxe,hfe⟩:=AB he;have hem:=List.mem_of_getElem? he;have hll:=hfit.len
  obtain ⟨g,cap,rfl⟩:∃ g cap,u=.slice (some ⟨g,0,none⟩) l'.length cap:=by
   rcases h3.row.2 with ⟨_,e0⟩|⟨g',c',_,rfl,_⟩
   ·omega
   ·exact ⟨g',c',rfl⟩
  have hgB:=h3.row.lt g rfl
  have hgw:g < w.heap.size:=by
   have:=h.row.2;rcases this with ⟨e0,_⟩|⟨g',c',_,e0,_⟩
   ·cases e0
   ·exact (h.row.lt g rfl).2
  have hgk:rN (kV l) (lB l)=rN (kV l) (lB l):=rfl;have hgr:(rN (kV l) (lB l)).getD j 0=if iV (kV l) (lB l) j then e1.f else e1.f+1:=by rw [pI _ _ (by simp [lB];omega),hfe]
  refine V.ok (iL underlying229 wK (by omega) (by rw [hll];omega)) ?_;rw [show (0+((j:Int)).toNat*13:Nat)=j*13 from by simp];obtain ⟨d,hd,had⟩:=aG.ex;obtain ⟨d2,hd2,had2⟩:=jF.ex
  have step:∀ {w':O} {b':Bool} {l2:List lU},wT w' B (.slice (some ⟨g,0,none⟩) l'.length cap) l2->tW l l2 (j+1)->b'=(bb||!iV (kV l) (lB l) j)->Fr (λk=>k=g) w2 w'->V prog (binOp .add 3 (i64 j) (i64 1)) w' λt w4=>(∃ (j:Nat) (bb:Bool) (l2:List lU),t=i64 j/\Value.bool b'=.bool bb/\j<=l.length/\wT w4 B (.slice (some ⟨g,0,none⟩) l'.length cap) l2/\tW l l2 j/\(bb=true↔∃ k,k < j/\iV (kV l) (lB l) k=false)/\Fr (λk=>(Value.slice (some ⟨g,0,none⟩) l'.length cap).ownBlock=some k) w2 w4)/\l.length - (RowKit.intOf t).toNat < l.length - (RowKit.intOf (i64 (j:Int))).toNat:=λq1 q2 q3 q4=>by
   refine kQ (by omega) ?_;refine ⟨⟨j+1,_,_,rfl,rfl,by omega,q1,q2,?_,q4.mono λk hk=>by subst hk;rfl⟩,by simp only [aL];omega⟩;rw [q3,Bool.or_eq_true,hbb];constructor
   ·rintro (⟨k,hk,hr⟩|hr)
    ·exact ⟨k,by omega,hr⟩
    ·exact ⟨j,by omega,by simpa using hr⟩
   ·rintro ⟨k,hk,hr⟩;by_cases hkj:k=j
    ·subst hkj;right;simp [hr]
    ·exact .inl ⟨k,by omega,hr⟩
  have f3':Fr (λk=>k=g) w2 w3:=f3.mono λk hk=>by cases hk;rfl
  have skip:e1.x.isJ=false->tW l l' (j+1)/\iV (kV l) (lB l) j=true:=λhj0=>by
   have hr:iV (kV l) (lB l) j=true:=by
    unfold iV;rw [hxe];cases hx:e1.x with
    | jump c q=>rw [hx] at hj0;cases hj0
    | _=>rfl
   refine ⟨hfit.skip he (by rw [hgr,hr];rfl) ?_,hr⟩;rw [h.fix e1 hem hj0];cases hx:e1.x with
   | jump c q=>rw [hx] at hj0;cases hj0
   | _=>rfl
  cases hx:e1.x with
  | one i=>
   obtain ⟨q1,q2⟩:=skip (by rw [hx];rfl);have h0:e1.cells[0]?=some (i64 1):=by unfold lU.cells;rw [hx];rfl
   refine ⟨.inl ⟨_,rfl⟩,EO bQ (EO aZ (V.ok (jD hd had (h3.at_ (o:=0) he1 h0)) (cH.2 (aB (λ_=>?_) λhh=>absurd (by decide) hh))))⟩;exact step h3 q1 (by rw [q2];simp) f3'
  | place q=>
   obtain ⟨q1,q2⟩:=skip (by rw [hx];rfl);have h0:e1.cells[0]?=some (i64 2):=by unfold lU.cells;rw [hx];rfl
   refine ⟨.inl ⟨_,rfl⟩,EO bQ (EO aZ (V.ok (jD hd had (h3.at_ (o:=0) he1 h0)) (cH.2 (aB (λ_=>?_) λhh=>absurd (by decide) hh))))⟩;exact step h3 q1 (by rw [q2];simp) f3'
  | load r n=>
   obtain ⟨q1,q2⟩:=skip (by rw [hx];rfl);have h0:e1.cells[0]?=some (i64 4):=by unfold lU.cells;rw [hx];rfl
   refine ⟨.inl ⟨_,rfl⟩,EO bQ (EO aZ (V.ok (jD hd had (h3.at_ (o:=0) he1 h0)) (cH.2 (aB (λ_=>?_) λhh=>absurd (by decide) hh))))⟩;exact step h3 q1 (by rw [q2];simp) f3'
  | jump c q=>
   rw [hx] at hxe;have hcs:e1.cells=[i64 3,i64 0,i64 0,i64 0,i64 0,i64 0,i64 0,i64 q,i64 c,i64 0,i32 0,e1.v,i64 (e1.f:Int)]:=by unfold lU.cells;rw [hx];rfl
   have hoi:cJ.okI (.jump c q):=ho.ok _ (List.mem_of_getElem? hxe);obtain ⟨hq0,hc0⟩:(0<=q/\q<=2000)/\(0<=c/\c<=14):=hoi;have hqm:q∈jV (kV l):=ho.jl q (List.mem_flatMap.2 ⟨_,List.mem_of_getElem? hxe,List.mem_singleton.2 rfl⟩);obtain ⟨lb0,lb1,lb2⟩:=aGz hf hqm;have hat0:=hf.at_le j;obtain ⟨q,rfl⟩:=jW hq0.1;have hqL:=hqn q hqm;have hfm:=hf.le2 j;rw [hfe] at hfm;have hrb:iV (kV l) (lB l) j=(mN c e1.f (sQ (kV l) (lB l) j) (DO (kV l) (lB l) q)).all bS:=by unfold iV;rw [hxe];dsimp only;rw [hfe]
   have ld:∀ {w':O} {l2:List lU} {e2:lU} {o:Nat} {n:Int},wT w' B (.slice (some ⟨g,0,none⟩) l2.length cap) l2->l2[j]?=some e2->e2.cells[o]?=some (i64 n)->(Instr.loadAt 3 (.pointer (some ⟨g,j*13+o,none⟩))).run prog w'=.ok (i64 n) w':=λq1 q2 q3=>jD hd had (q1.at_ q2 q3);refine ⟨.inl ⟨_,rfl⟩,EO bQ (EO aZ (V.ok (ld (o:=0) h3 he1 (by rw [hcs];rfl)) (cH.2 (aB (λhh=>absurd rfl hh) λ_=>?_))))⟩;have D:aE w3 w3.drew:=(aE.refl _).drew;have hgL':g < gL:=by omega
   have hL3:=(f3'.blk hL (by omega)).ext D
   have hat3:aN w3.drew atv (kW l (l.length+1)):=by
    unfold aN;rw [pY];exact aA.of_own (D.own (f3'.own hat2 λk hk hS=>by have:=(hat2.lt k hk).1;omega))
   have hx3:∀ {w'},aE w3.drew w'->wT w' B (.slice (some ⟨g,0,none⟩) l'.length cap) l':=λhx=>h3.ext (D.trans hx);refine aK.mk' (λw'=>aE w3.drew w') (aE.refl _) ?_;refine ⟨.inl ⟨_,rfl⟩,yfA bQ (yfA eA (aD.ok (λw' hw=>ld (o:=8) (hx3 hw) he1 (by rw [hcs];rfl)) ?_))⟩;refine ⟨.inl ⟨_,rfl⟩,yfA fZ (aD.ok (λw' hw=>ld (o:=12) (hx3 hw) he1 (by rw [hcs];rfl)) ?_)⟩;refine oE aQ aG hat3 (λ_ h=>h) (by omega) (by rw [pY];omega) (cK (vV (by omega))) ?_;refine ⟨.inl ⟨_,rfl⟩,yfA bQ (yfA cB (aD.ok (λw' hw=>ld (o:=7) (hx3 hw) he1 (by rw [hcs];rfl)) ?_))⟩;refine oE aQ aG (hL3.slice (pH _ _ _ _) (by unfold maxLen;omega)) (λ_ h=>h) (by omega) (by omega) (by rw [Int.toNat_natCast];exact vE hqL) ?_;have hlab:xX (kV l) (lB l) (q:Int) l.length=DO (kV l) (lB l) q:=by unfold DO;rw [hlx]
   rw [hlab];refine aQn hc0 hfm (by unfold Adr;omega) (by unfold Adr;omega) λv4 w4 hv4 x4=>⟨x4,.inl ⟨_,rfl⟩,?_⟩;refine yfA fT ?_;have x34:=D.trans x4;have s3:=f3.size;have s34:=x34.size;have sD:=D.size;have h4:wT w4 B (.slice (some ⟨g,0,none⟩) l'.length cap) l':=h3.ext x34;have hown:gM w4 B v4 (mN c e1.f (sQ (kV l) (lB l) j) (DO (kV l) (lB l) q)):=aU hv4 (by omega);refine h4.put (o:=11) (e':=⟨e1.x,e1.f,mN c e1.f (sQ (kV l) (lB l) j) (DO (kV l) (lB l) q),v4⟩) TN he1 (by rw [hcs];unfold lU.cells;dsimp only;rw [hx];rfl) (by decide) (nU hv4) hown (λhj0=>by dsimp only at hj0;rw [hx] at hj0;cases hj0) (Nat.le_trans vF (by decide)) λw5 h5 f5=>?_;have he5:(l'.set j ⟨e1.x,e1.f,mN c e1.f (sQ (kV l) (lB l) j) (DO (kV l) (lB l) q),v4⟩)[j]?=some ⟨e1.x,e1.f,mN c e1.f (sQ (kV l) (lB l) j) (DO (kV l) (lB l) q),v4⟩:=by rw [List.getElem?_set_self (by omega)]
   have hl5:(l'.set j ⟨e1.x,e1.f,mN c e1.f (sQ (kV l) (lB l) j) (DO (kV l) (lB l) q),v4⟩).length=l'.length:=List.length_set;rw [<- hl5] at h5
   have c5:∀ {o:Nat} {z:Y},(e1.cells.set 11 v4)[o]?=some z->(lU.cells ⟨e1.x,e1.f,mN c e1.f (sQ (kV l) (lB l) j) (DO (kV l) (lB l) q),v4⟩)[o]?=some z:=λ{o z} hz=>by
    rw [hcs] at hz;unfold lU.cells;dsimp only;rw [hx];exact hz
   refine ⟨.inl ⟨_,rfl⟩,EO fT (V.ok (jD hd2 had2 (h5.at_ (o:=11) he5 (c5 (by rw [hcs];rfl)))) ?_)⟩;have hl2:=vF (c:=c) (a:=(sQ (kV l) (lB l) j:Int)) (b:=DO (kV l) (lB l) q) (f:=e1.f);refine bEo (h5.code _ (List.mem_of_getElem? he5)) (by dsimp only;omega) TK λw6 x6=>dC.2 ?_;dsimp only;rw [<- hrb];have h6:=h5.ext x6;have f26:Fr (λk=>k=g) w2 w6:=((f3'.trans (Fr.of_ext x34) λ_ _ h=>h).trans f5 λ_ _ h=>h).trans (Fr.of_ext x6) λ_ _ h=>h;cases hr:iV (kV l) (lB l) j with
   | true=>
    refine aP.2 ?_;rw [hl5] at h6;refine step h6 (hfit.next he rfl (by rw [hgr,hr];rfl) (by rw [hx];rfl)) (by rw [hr];simp) f26
   | false=>
    refine bJ.2 ⟨.inl ⟨_,rfl⟩,EO fZ (V.ok (ld (o:=12) h6 he5 (c5 (by rw [hcs];rfl))) (bA.2 ?_))⟩;rw [aM (by omega),bK];refine ⟨.inl ⟨_,rfl⟩,EO fZ ?_⟩;refine h6.put (o:=12) (e':=⟨e1.x,e1.f+1,mN c e1.f (sQ (kV l) (lB l) j) (DO (kV l) (lB l) q),v4⟩) bW he5 (by unfold lU.cells;dsimp only;rw [hx];rfl) (by decide) rfl ((h5.code _ (List.mem_of_getElem? he5)).ext x6) (λhj0=>by dsimp only at hj0;rw [hx] at hj0;cases hj0) (Nat.le_trans vF (by decide)) λw7 h7 f7=>?_;rw [hl5,List.set_set] at h7;refine step h7 (hfit.next he rfl (by rw [hgr,hr];rfl) (by rw [hx];rfl)) (by rw [hr];simp) (f26.trans f7 λ_ _ h=>h)
 ·obtain rfl:j=l.length:=by omega
  exact hk bb l' w3 h3 hfit hbb x3
theorem BH {a:Nat} (h:a < 18446744073709551616):(BitVec.ofInt 64 (a:Int)).toNat=a:=by rw [BitVec.toNat_ofInt];omega
theorem bKx {a b:Nat} (ha:a < 4294967296) (hb:b < 4294967296):IntKind.i64.wrap (((BitVec.ofInt IntKind.i64.bits (a:Int) ||| BitVec.ofInt IntKind.i64.bits (b:Int)).toNat:Nat):Int)=((a ||| b:Nat):Int):=by
 have h:a ||| b < 4294967296:=Nat.or_lt_two_pow (n:=32) ha hb;rw [show IntKind.i64.bits=64 from rfl,BitVec.toNat_or,BH (by omega),BH (by omega)];exact aM (by omega)
theorem bKa {a b:Nat} (ha:a < 4294967296) (hb:b < 4294967296):IntKind.i64.wrap (((BitVec.ofInt IntKind.i64.bits (a:Int) &&& BitVec.ofInt IntKind.i64.bits (b:Int)).toNat:Nat):Int)=((a &&& b:Nat):Int):=by
 have h:a &&& b<=a:=Nat.and_le_left;rw [show IntKind.i64.bits=64 from rfl,BitVec.toNat_and,BH (by omega),BH (by omega)];exact aM (by omega)
theorem bIh {a b:Nat} (ha:a < 2) (hb:b < 2):IntKind.i64.wrap (((BitVec.ofInt IntKind.i64.bits (a:Int) ^^^ BitVec.ofInt IntKind.i64.bits (b:Int)).toNat:Nat):Int)=((a ^^^ b:Nat):Int):=by
 have:(a=0\/a=1)/\(b=0\/b=1):=by omega
 rcases this with ⟨rfl|rfl,rfl|rfl⟩<;>decide
theorem aZq {a s:Nat} (h:a*2 ^ s < 4294967296) (hs:s<=64):IntKind.i64.wrap ((a:Int)*2 ^ (min (s:Int).toNat IntKind.i64.bits))=((a <<< s:Nat):Int):=by
 rw [Int.toNat_natCast,show IntKind.i64.bits=64 from rfl,Nat.min_eq_left hs,Nat.shiftLeft_eq];have e:(a:Int)*2 ^ s=((a*2 ^ s:Nat):Int):=by push_cast;rfl
 rw [e];exact aM (by omega)
theorem bIm {a:Int} {s:Nat} (hs:s<=64):a.fdiv (2 ^ (min (s:Int).toNat IntKind.i64.bits))=a / ((2 ^ s:Nat):Int):=by
 rw [Int.toNat_natCast,show IntKind.i64.bits=64 from rfl,Nat.min_eq_left hs,Int.fdiv_eq_ediv_of_nonneg _ (Int.le_of_lt (Int.pow_pos (by decide)))]
 push_cast;rfl
theorem bIn {a s:Nat} (hs:s<=64):(a:Int).fdiv (2 ^ (min (s:Int).toNat IntKind.i64.bits))=((a >>> s:Nat):Int):=by
 rw [bIm hs,Nat.shiftRight_eq_div_pow];push_cast;rfl
section
variable {P:Program} {t:TypeId} {k':IntKind} {x y:Int} {a b s:Nat}
theorem vOr (hx:x=a) (hy:y=b) (ha:a < 4294967296) (hb:b < 4294967296) (hk:K (i64 ((a ||| b:Nat):Int)) w):V P (binOp .or t (i64 x) (i64 y)) w K:=by
 subst hx hy;refine V.ok aFj ?_;rw [bKx ha hb];exact hk
theorem bKt (hx:x=a) (hy:y=b) (ha:a < 4294967296) (hb:b < 4294967296) (hk:K (i64 ((a &&& b:Nat):Int)) w):V P (binOp .and t (i64 x) (i64 y)) w K:=by
 subst hx hy;refine V.ok rK ?_;rw [bKa ha hb];exact hk
theorem bIj (hx:x=a) (hy:y=b) (ha:a < 2) (hb:b < 2) (hk:K (i64 ((a ^^^ b:Nat):Int)) w):V P (binOp .xor t (i64 x) (i64 y)) w K:=by
 subst hx hy;refine V.ok VN ?_;rw [bIh ha hb];exact hk
theorem aBf (hx:x=a) (hy:y=s) (h:a*2 ^ s < 4294967296) (hs:s<=64) (hk:K (i64 ((a <<< s:Nat):Int)) w):V P (binOp .shl t (i64 x) (.int k' y)) w K:=by
 subst hx hy;refine V.ok (sH (by omega)) ?_;rw [aZq h hs];exact hk
theorem bKs (hx:x=a) (hy:y=s) (hs:s<=64) (hk:K (i64 ((a >>> s:Nat):Int)) w):V P (binOp .shr t (i64 x) (.int k' y)) w K:=by
 subst hx hy;refine V.ok (qV (by omega)) ?_;rw [bIn hs];exact hk
theorem VE (hy:y=s) (hs:s<=64) (hk:K (i64 (x / ((2 ^ s:Nat):Int))) w):V P (binOp .shr t (i64 x) (.int k' y)) w K:=by
 subst hy;refine V.ok (qV (by omega)) ?_;rw [bIm hs];exact hk
theorem VF (hy:y=((2 ^ b - 1:Nat):Int)) (hb:b<=32) (hx:x % ((2 ^ b:Nat):Int)=a) (hk:K (i64 (a:Int)) w):V P (binOp .and t (i64 x) (i64 y)) w K:=by
 subst hy;refine V.ok rK ?_;rw [show IntKind.i64.wrap (((BitVec.ofInt IntKind.i64.bits x &&& BitVec.ofInt IntKind.i64.bits ((2 ^ b - 1:Nat):Int)).toNat:Nat):Int)=(a:Int) from (aGr (n:=x) hb).trans hx];exact hk
end
def hwC (l:List Nat):List Y:=l.map λ(h:Nat)=>u16 (h:Int)
def rQ (w:O) (B:Nat) (v:Y) (l:List Nat):Prop:=w.ownsRow B 151 1 v l.length (hwC l)
theorem aQw {b:Bool} (hk:K (i64 ((if b then 1 else 0:Nat):Int)) w):aC prog 217 #[.bool b] w K:=by
 apply aUq;unfold NT;cases b with
 | true=>exact bJ.2 hk
 | false=>exact aP.2 hk
theorem vC {a:Int} {m:Nat} (hm:0 < m):∃ x:Nat,x < m/\a % (m:Int)=x/\(a % (m:Int)).toNat=x:=by
 have h0:0<=a % (m:Int):=Int.emod_nonneg _ (by omega);have h1:a % (m:Int) < m:=Int.emod_lt_of_pos _ (by omega);exact ⟨(a % (m:Int)).toNat,by omega,by omega,rfl⟩
theorem aQd {imm:Int} (hk:∀ v w',rQ w' w.heap.size v (blN imm)->aE w w'->K v w'):aC prog 181 #[i64 imm] w K:=by
 apply aWc;unfold PB;refine aW.2 (aQw ?_);have hs:(if decide (imm < 0) then 1 else 0:Nat)=if imm < 0 then 1 else 0:=by by_cases h:imm < 0<;>simp [h]
 rw [hs];have hN:blN imm=[aDk (if imm < 0 then 1 else 0) ((imm / 4096) % 1024).toNat,aDj (1 - (KG imm 23 ^^^ if imm < 0 then 1 else 0)) (1 - (KG imm 22 ^^^ if imm < 0 then 1 else 0)) ((imm / 2) % 2048).toNat]:=rfl;rw [hN] at hk;unfold KG at hk;have hs2:(if imm < 0 then 1 else 0:Nat) < 2:=by split<;>decide
 generalize (if imm < 0 then 1 else 0:Nat)=s at hk hs2;obtain ⟨b23,l23,m23,n23⟩:=vC (a:=imm / ((2 ^ 23:Nat):Int)) (m:=2) (by decide);obtain ⟨b22,l22,m22,n22⟩:=vC (a:=imm / ((2 ^ 22:Nat):Int)) (m:=2) (by decide);obtain ⟨x,lx,mx,nx⟩:=vC (a:=imm / 4096) (m:=1024) (by decide);obtain ⟨y,ly,my,ny⟩:=vC (a:=imm / 2) (m:=2048) (by decide);have nx':(imm / 4096 % 1024).toNat=x:=nx;have ny':(imm / 2 % 2048).toNat=y:=ny;have n23':(imm / ((2 ^ 23:Nat):Int) % 2).toNat=b23:=n23;have n22':(imm / ((2 ^ 22:Nat):Int) % 2).toNat=b22:=n22;rw [nx',ny',n23',n22'] at hk;have x23:=Nat.xor_lt_two_pow (n:=1) l23 hs2;have x22:=Nat.xor_lt_two_pow (n:=1) l22 hs2;refine VE (s:=23) rfl (by decide) (VF (b:=1) rfl (by decide) m23 ?_);refine bIj rfl rfl l23 hs2 (eY.2 ?_);rw [aM (by omega),show (1:Int) - ((b23 ^^^ s:Nat):Int)=((1 - (b23 ^^^ s):Nat):Int) from by omega];refine VE (s:=22) rfl (by decide) (VF (b:=1) rfl (by decide) m22 ?_);refine bIj rfl rfl l22 hs2 (eY.2 ?_);rw [aM (by omega),show (1:Int) - ((b22 ^^^ s:Nat):Int)=((1 - (b22 ^^^ s):Nat):Int) from by omega];generalize hj:1 - (b23 ^^^ s)=j at hk;generalize hkk:1 - (b22 ^^^ s)=k at hk;have j2:j < 2:=by omega
 have k2:k < 2:=by omega
 have c1:=jR cHi hs2 lx;have c2:=oG (jR cLo j2 k2) ly;simp only [Bool.and_eq_true,decide_eq_true_eq] at c1 c2;have hs10:s <<< 10 < 4294967296:=by rw [Nat.shiftLeft_eq];omega
 have hj13:j <<< 13 < 4294967296:=by rw [Nat.shiftLeft_eq];omega
 have hk11:k <<< 11 < 4294967296:=by rw [Nat.shiftLeft_eq];omega
 have o1:61440 ||| s <<< 10 < 4294967296:=Nat.or_lt_two_pow (n:=32) (by decide) hs10;have o2:53248 ||| j <<< 13 < 4294967296:=Nat.or_lt_two_pow (n:=32) (by decide) hj13;have o3:53248 ||| j <<< 13 ||| k <<< 11 < 4294967296:=Nat.or_lt_two_pow (n:=32) o2 hk11;refine aBf (s:=10) rfl rfl (by omega) (by decide) (vOr (a:=61440) rfl rfl (by decide) hs10 ?_);refine VE (s:=12) rfl (by decide) (VF (b:=10) rfl (by decide) mx (vOr rfl rfl o1 (by omega) ?_));refine V.ok (kM underlying3 underlying151) ?_;have e1:61440 ||| s <<< 10 ||| x=aDk s x:=rfl;rw [e1,tL (by omega) (by omega)];refine aBf (s:=13) rfl rfl (by omega) (by decide) (vOr (a:=53248) rfl rfl (by decide) hj13 ?_);refine aBf (s:=11) rfl rfl (by omega) (by decide) (vOr rfl rfl o2 hk11 ?_);refine VE (s:=1) rfl (by decide) (VF (b:=11) rfl (by decide) my (vOr rfl rfl o3 (by omega) ?_));refine V.ok (kM underlying3 underlying151) ?_;have e2:53248 ||| j <<< 13 ||| k <<< 11 ||| y=aDj j k y:=rfl;rw [e2,tL (by omega) (by omega)];exact jX aDy [u16 (aDk s x:Int),u16 (aDj j k y:Int)] rfl rfl (by simp) rfl λv w1 ho x1=>hk v w1 ho x1
structure uR (s:iZ):Prop where
 b0:0<=s.bits
 s0:0<=s.shift
 bs:s.bits+s.shift<=16
 st:1<=s.step
 p0:0<=s.part
 p4:s.part<=4
 l0:-4096<=s.least
 m0:s.most<=4096
 b1:s.bits<=11
 s4:s.step<=4
def IX (s:iZ):Bool:=decide (0<=s.bits)&&decide (0<=s.shift)&&decide (s.bits+s.shift<=16)&&decide (1<=s.step)&&decide (0<=s.part)&&decide (s.part<=4)&&decide (-4096<=s.least)&&decide (s.most<=4096)&&decide (s.bits<=11)&&decide (s.step<=4)
theorem uR.of {s:iZ} (h:IX s=true):uR s:=by
 simp only [IX,Bool.and_eq_true,decide_eq_true_eq] at h;obtain ⟨⟨⟨⟨⟨⟨⟨⟨⟨h1,h2⟩,h3⟩,h4⟩,h5⟩,h6⟩,h7⟩,h8⟩,h9⟩,h10⟩:=h;exact ⟨h1,h2,h3,h4,h5,h6,h7,h8,h9,h10⟩
theorem AV {op b:Int} {sl:List iZ} (h:cL op=some (b,sl)):0<=b/\b < 65536/\sl.all IX=true:=by
 unfold cL at h;by_cases c:12<=op/\op<=27
 ·rw [if_pos c] at h;cases h;exact ⟨by omega,by omega,by decide⟩
 rw [if_neg c] at h;clear c;by_cases c:8<=op/\op<=11
 ·rw [if_pos c] at h;cases h;exact ⟨by omega,by omega,by decide⟩
 rw [if_neg c] at h;clear c;by_cases c:op=1
 ·rw [if_pos c] at h;cases h;exact ⟨by omega,by omega,by decide⟩
 rw [if_neg c] at h;clear c;by_cases c:op=2
 ·rw [if_pos c] at h;cases h;exact ⟨by omega,by omega,by decide⟩
 rw [if_neg c] at h;clear c;by_cases c:op=3
 ·rw [if_pos c] at h;cases h;exact ⟨by omega,by omega,by decide⟩
 rw [if_neg c] at h;clear c;by_cases c:op=4
 ·rw [if_pos c] at h;cases h;exact ⟨by omega,by omega,by decide⟩
 rw [if_neg c] at h;clear c;by_cases c:op=5
 ·rw [if_pos c] at h;cases h;exact ⟨by omega,by omega,by decide⟩
 rw [if_neg c] at h;clear c;by_cases c:op=6
 ·rw [if_pos c] at h;cases h;exact ⟨by omega,by omega,by decide⟩
 rw [if_neg c] at h;clear c;by_cases c:op=7
 ·rw [if_pos c] at h;cases h;exact ⟨by omega,by omega,by decide⟩
 rw [if_neg c] at h;clear c;by_cases c:op=30
 ·rw [if_pos c] at h;cases h;exact ⟨by omega,by omega,by decide⟩
 rw [if_neg c] at h;clear c;by_cases c:op=29
 ·rw [if_pos c] at h;cases h;exact ⟨by omega,by omega,by decide⟩
 rw [if_neg c] at h;clear c;by_cases c:op=32
 ·rw [if_pos c] at h;cases h;exact ⟨by omega,by omega,by decide⟩
 rw [if_neg c] at h;clear c;by_cases c:op=31
 ·rw [if_pos c] at h;cases h;exact ⟨by omega,by omega,by decide⟩
 rw [if_neg c] at h;clear c;by_cases c:op=34
 ·rw [if_pos c] at h;cases h;exact ⟨by omega,by omega,by decide⟩
 rw [if_neg c] at h;clear c;by_cases c:op=33
 ·rw [if_pos c] at h;cases h;exact ⟨by omega,by omega,by decide⟩
 rw [if_neg c] at h;clear c;unfold mE at h;by_cases c:op=36
 ·rw [if_pos c] at h;cases h;exact ⟨by omega,by omega,by decide⟩
 rw [if_neg c] at h;clear c;by_cases c:op=35
 ·rw [if_pos c] at h;cases h;exact ⟨by omega,by omega,by decide⟩
 rw [if_neg c] at h;clear c;by_cases c:op=37
 ·rw [if_pos c] at h;cases h;exact ⟨by omega,by omega,by decide⟩
 rw [if_neg c] at h;clear c;by_cases c:op=38
 ·rw [if_pos c] at h;cases h;exact ⟨by omega,by omega,by decide⟩
 rw [if_neg c] at h;clear c;by_cases c:op=39
 ·rw [if_pos c] at h;cases h;exact ⟨by omega,by omega,by decide⟩
 rw [if_neg c] at h;clear c;by_cases c:op=40
 ·rw [if_pos c] at h;cases h;exact ⟨by omega,by omega,by decide⟩
 rw [if_neg c] at h;clear c;by_cases c:op=41
 ·rw [if_pos c] at h;cases h;exact ⟨by omega,by omega,by decide⟩
 rw [if_neg c] at h;clear c;by_cases c:op=42
 ·rw [if_pos c] at h;cases h;exact ⟨by omega,by omega,by decide⟩
 rw [if_neg c] at h;clear c;by_cases c:op=44
 ·rw [if_pos c] at h;cases h;exact ⟨by omega,by omega,by decide⟩
 rw [if_neg c] at h;clear c;by_cases c:op=45
 ·rw [if_pos c] at h;cases h;exact ⟨by omega,by omega,by decide⟩
 rw [if_neg c] at h;clear c;cases h
theorem aPl {h:Nat} {s:iZ} {n:Int} (hs:uR s) (hh:h < 65536):SR h s n < 65536:=by
 have h1:=hs.b0;have h2:=hs.s0;have h3:=hs.bs;unfold SR;refine Nat.or_lt_two_pow (n:=16) hh ?_;obtain ⟨x,lx,_,nx⟩:=vC (a:=n.tdiv s.step) (m:=2 ^ s.bits.toNat) (Nat.pow_pos (by decide));rw [nx,Nat.shiftLeft_eq]
 calc x*2 ^ s.shift.toNat < 2 ^ s.bits.toNat*2 ^ s.shift.toNat:=Nat.mul_lt_mul_of_pos_right lx (Nat.pow_pos (by decide))
  _=2 ^ (s.bits.toNat+s.shift.toNat):=(Nat.pow_add 2 _ _).symm
  _<=2 ^ 16:=Nat.pow_le_pow_right (by decide) (by omega)
theorem qY {sl:List iZ} {i:gN} {k:Int} (hp:jM sl i k=true) (hs:∀ s∈sl,uR s):-4096<=i.part k/\i.part k<=4096:=by
 cases hf:sl.find? (λs=>decide (s.part=k)) with
 | none=>rw [fV hp hf];exact ⟨by decide,by decide⟩
 | some s=>
  obtain ⟨h1,h2,_⟩:=jQ hp hf;have ho:=hs s (List.mem_of_find?_eq_some hf);have:=ho.l0;have:=ho.m0;exact ⟨by omega,by omega⟩
theorem EL {α β:Type} (f:β->α->β) (b:β) (l:List α) {j:Nat} {x:α} (h:l[j]?=some x):(l.take (j+1)).foldl f b=f ((l.take j).foldl f b) x:=by
 rw [List.take_add_one,h,List.foldl_append];rfl
theorem SC {a b:Int} (hb:1<=b) (h0:-4096<=a) (h1:a<=4096):-4096<=a.tdiv b/\a.tdiv b<=4096:=by
 have h2:(a.tdiv b).natAbs<=a.natAbs:=by
  rw [Int.natAbs_tdiv];exact Nat.div_le_self _ _
 omega
theorem aCy {i:gN} (hr:bS i=true) (ho:yV i.op) (hb:FO i) (hk:∀ v w',rQ w' w.heap.size v (FU i)->aE w w'->K (.tuple #[v,i64 0]) w'):aC prog 124 #[.agg i.cells.toArray] w K:=by
 apply aYi;unfold RF;refine bx λb w1 hbx x1=>?_;have hbx:aY w1 b i.cells:=hbx;refine iF hbx nI rfl ?_;refine uD hb.1 hb.2 λw2 x2=>dC.2 ?_;rw [hr];refine aP.2 ?_;have x02:=x1.trans x2;have hb2:=hbx.ext x2;have fi:∀ {R:Y->O->Prop} {f:Nat} {v:Y},FA prog 83 f f->i.cells[f]?=some v->R v w2->V prog (Instr.fieldAt 83 (.pointer (some ⟨b,0,none⟩)) f) w2 λq w2=>V prog (Instr.loadAt 3 q) w2 R:=λhf hv hr=>bC hb2 hf aG hv hr;refine fi mG rfl (aH.2 (aB (λe=>?_) λe28=>?_))
 ·obtain ⟨p,q,hp,hq,rfl⟩:=zH hr e;have hN:FU ⟨28,p,0,q,0,0⟩=[SZ p q]:=rfl;rw [hN] at hk;have c:=jR c28 hp hq;simp only [bCb,Bool.and_eq_true,decide_eq_true_eq] at c;have e0:SZ (p:Int) (q:Int)=17920 ||| p >>> 3 <<< 7 ||| q <<< 3 ||| (p &&& 7):=rfl;have a1:p >>> 3<=p:=by rw [Nat.shiftRight_eq_div_pow];exact Nat.div_le_self _ _
  have a2:p >>> 3 <<< 7 < 4294967296:=by rw [Nat.shiftLeft_eq];omega
  have a3:q <<< 3 < 4294967296:=by rw [Nat.shiftLeft_eq];omega
  have a4:p &&& 7<=p:=Nat.and_le_left;have o1:17920 ||| p >>> 3 <<< 7 < 4294967296:=Nat.or_lt_two_pow (n:=32) (by decide) a2;have o2:17920 ||| p >>> 3 <<< 7 ||| q <<< 3 < 4294967296:=Nat.or_lt_two_pow (n:=32) o1 a3;refine fi lP rfl (bKs (a:=p) (s:=3) rfl rfl (by decide) (aBf (s:=7) rfl rfl (by omega) (by decide) (vOr (a:=17920) rfl rfl (by decide) a2 ?_)));refine fi nA rfl (aBf (a:=q) (s:=3) rfl rfl (by omega) (by decide) (vOr rfl rfl o1 a3 ?_));refine fi lP rfl (bKt (a:=p) (b:=7) rfl rfl (by omega) (by decide) (vOr rfl rfl o2 (by omega) ?_));refine V.ok (kM underlying3 underlying151) ?_;rw [<- e0,tL (by omega) (by omega)];refine jX aDy [u16 (SZ p q:Int)] rfl rfl (by simp) rfl λv w3 ho3 x3=>?_;exact hk v w3 (aU ho3 x02.size) (x02.trans x3)
 refine aH.2 (aB (λe=>?_) λe43=>?_)
 ·have hN:FU i=blN i.imm:=by unfold FU;rw [if_neg e28,if_pos e]
  rw [hN] at hk;refine fi mF rfl (aQd λv w3 ho3 x3=>?_);exact hk v w3 (aU ho3 x02.size) (x02.trans x3)
 have hao:uU i.op:=by
  rcases ho with h|h|h
  ·exact h
  ·exact absurd h e28
  ·exact absurd h e43
 obtain ⟨⟨base,sl⟩,hf,hback⟩:=XS hr hao;have hN:FU i=[BC (base,sl) i]:=by unfold FU;rw [if_neg e28,if_neg e43,hf]
 rw [hN] at hk;obtain ⟨fb0,fb1,hsl⟩:=AV hf;have hso:∀ s∈sl,uR s:=λs hs=>uR.of (List.all_eq_true.1 hsl s hs);obtain ⟨p0,p1,p2,p3,p4⟩:=kG hr hf e28 e43
 have hpart:∀ s∈sl,-4096<=i.part s.part/\i.part s.part<=4096:=λs hs=>by
  have h0:=(hso s hs).p0;have h4:=(hso s hs).p4;have:s.part=0\/s.part=1\/s.part=2\/s.part=3\/s.part=4:=by omega
  rcases this with h|h|h|h|h<;>rw [h]
  ·exact qY p0 hso
  ·exact qY p1 hso
  ·exact qY p2 hso
  ·exact qY p3 hso
  ·exact qY p4 hso
 have hll:=(EN hf).1;refine fi mG rfl (TZ λv w3 hv x3=>?_);rw [hf] at hv;obtain ⟨sv,rfl,hsv⟩:=hv;refine hU.2 (hO.2 ?_);refine rX SI rfl (aCe (nU hsv)) λw4 h4 x4=>?_;have h4:aY w4 w3.heap.size [i64 i.op,u16 base,sv]:=bO.boxed h4;refine bC h4 eB gJ rfl (bC h4 dQ gY rfl (fQ zB (aA.of_own (x4.own hsv)) ?_));have x04:=(x02.trans x3).trans x4;have x24:=x3.trans x4;obtain ⟨bn,rfl⟩:=jW fb0;refine ⟨λh k w'=>∃ (j hn:Nat),k=i64 j/\h=u16 (hn:Int)/\j<=sl.length/\hn < 65536/\hn=(sl.take j).foldl (λh s=>SR h s (i.part s.part)) bn/\aE w4 w',λ_ k _=>sl.length - (RowKit.intOf k).toNat,⟨0,bn,rfl,rfl,Nat.zero_le _,by omega,rfl,aE.refl _⟩,?_⟩;rintro _ _ w5 ⟨j,hn,rfl,rfl,hj,hlt,hfold,x5⟩ _;refine aW.2 (aB (λhjl=>?_) λhge=>?_)
 ·obtain ⟨s,hs⟩:=bE (l:=sl) (j:=j) (by omega);have hsm:=List.mem_of_getElem? hs;have so:=hso s hsm;have b0:=so.b0;have s0:=so.s0;have bs:=so.bs;have st:=so.st;obtain ⟨q1,q2⟩:=hpart s hsm;refine uI zB eX (aA.of_own ((x4.trans x5).own hsv)) (by omega) (by omega) (SD hs) rfl ?_;refine rX CQ rfl rfl λw6 h8 x6=>?_;have h8:aY w6 w5.heap.size s.cells:=bO.boxed h8;have D:aE w6 w6.drew:=(aE.refl _).drew;have hb6:aY w6.drew b i.cells:=(((hb2.ext x24).ext x5).ext x6).ext D;refine aK.mk' (λw'=>aE w6.drew w') (aE.refl _) ?_;refine jG (λw' hx=>(h8.ext D).ext hx) gW aG rfl ?_;refine jG (λw' hx=>(h8.ext D).ext hx) gA aG rfl ?_;refine SS ⟨aE.refl _,.inl ⟨_,rfl⟩,?_⟩;obtain ⟨d,hd,had⟩:=aG.ex;refine aD.ok (λw' hx=>jD hd had (v:=i64 (i.part s.part)) (by have:=(hb6.ext hx) _ _ (VW i s.part);rwa [Nat.zero_add] at this)) ?_;refine aD.ok (λw' _=>aFi (by omega)) ?_;obtain ⟨t1,t2⟩:=SC st q1 q2;rw [aM (by omega)];have D2:aE w6.drew w6.drew.drew:=(aE.refl _).drew;have h82:=(h8.ext D).ext D2;obtain ⟨nb,hnb⟩:=jW b0;obtain ⟨ns,hns⟩:=jW s0;have hpw:(2:Nat) ^ nb<=65536:=Nat.pow_le_pow_right (n:=2) (by decide) (show nb<=16 by omega);have hpp:0 < (2:Nat) ^ nb:=Nat.pow_pos (by decide);obtain ⟨x,lx,mx,nx⟩:=vC (a:=(i.part s.part).tdiv s.step) (m:=2 ^ nb) hpp
  have hput:SR hn s (i.part s.part)=hn ||| x <<< ns:=by
   unfold SR;rw [hnb,hns,Int.toNat_natCast,Int.toNat_natCast,nx]
  have hmul:x*2 ^ ns < 65536:=by
   calc x*2 ^ ns < 2 ^ nb*2 ^ ns:=Nat.mul_lt_mul_of_pos_right lx (Nat.pow_pos (by decide))
    _=2 ^ (nb+ns):=(Nat.pow_add 2 _ _).symm
    _<=2 ^ 16:=Nat.pow_le_pow_right (by decide) (by omega)
  have hxs:x <<< ns < 65536:=by rw [Nat.shiftLeft_eq];exact hmul
  refine aK.mk' (λw'=>aE w6.drew.drew w') (aE.refl _) ?_;refine jG (λw' hx=>h82.ext hx) gU aG rfl ?_
  refine aD.ok (v:=i64 ((1 <<< nb:Nat):Int)) (λw' _=>by
   rw [hnb];exact (sH (by omega)).trans (congrArg (λz=>Result.ok (Value.int .i64 z) w') (aZq (a:=1) (s:=nb) (by omega) (by omega)))) ?_
  refine aD.ok (v:=i64 ((2 ^ nb - 1:Nat):Int)) (λw' _=>eM.trans (by rw [show (((1 <<< nb:Nat):Int) - 1)=((2 ^ nb - 1:Nat):Int) from by rw [Nat.one_shiftLeft];omega,aM (by omega)])) ?_;refine aD.ok (v:=i64 (x:Int)) (λw' _=>rK.trans (congrArg (λz=>Result.ok (Value.int .i64 z) w') ((aGr (n:=(i.part s.part).tdiv s.step) (b:=nb) (by omega)).trans mx))) ?_;refine aD.ok (v:=u16 (x:Int)) (λw' _=>(kM underlying3 underlying151).trans (congrArg (λz=>Result.ok (Value.int .u16 z) w') (tL (by omega) (by omega)))) ?_;refine jG (λw' hx=>h82.ext hx) gV aG rfl ?_
  refine aD.ok (v:=u16 ((x <<< ns:Nat):Int)) (λw' _=>by
   rw [hns];refine (sH (by omega)).trans (congrArg (λz=>Result.ok (Value.int .u16 z) w') ?_);rw [Int.toNat_natCast];exact aEp hmul (by omega)) ?_
  refine aD.ok (v:=u16 ((SR hn s (i.part s.part):Nat):Int)) (λw' _=>aFj.trans (congrArg (λz=>Result.ok (Value.int .u16 z) w') ((bKy hlt hxs).trans (by rw [hput])))) ?_;refine kQ (by omega) ?_;refine ⟨⟨j+1,_,rfl,rfl,by omega,aPl so hlt,?_,(x5.trans x6).trans (D.trans D2)⟩,by simp only [aL];omega⟩;rw [EL _ _ _ hs,<- hfold]
 ·have ee:sl.take j=sl:=List.take_of_length_le (by omega);rw [ee] at hfold;have hen:BC ((bn:Int),sl) i=hn:=by unfold BC;rw [Int.toNat_natCast];exact hfold.symm
  rw [hen] at hk;refine jX aDy [u16 (hn:Int)] rfl rfl (by simp) rfl λv w6 ho6 x6=>?_;have x06:=(x04.trans x5);exact hk v w6 (aU ho6 x06.size) (x06.trans x6)
def aZj:List Y:=bAs++[aX,i64 0]
theorem bDv:BG prog 232 aZj [(0,11),(11,1),(12,1)]:=⟨_,_,_,underlying232,wK,λw=>by kernel_rfl⟩
theorem aId (x:cJ):Instr.fill (([(0,11),(11,1),(12,1)]:List (Nat × Nat)).toArray[·]?) aZj.toArray [(0,.agg x.cells.toArray)]=some (x.cells++[aX,i64 0]).toArray:=by cases x<;>kernel_rfl
theorem wT.fr {B B' t s n:Nat} {u v:Y} {xs:List Y} {l:List lU} {w':O} (h:wT w B u l) (hv:w.ownsRow B' t s v n xs) (h1:t≠232) (h2:t≠83) (f:Fr (λk=>v.ownBlock=some k) w w'):wT w' B u l:=by
 have off:∀ {e':Nat} {B2 s2 n2:Nat} {v2:Y} {xs2:List Y},w.ownsRow B2 e' s2 v2 n2 xs2->e'≠t->∀ k,v2.ownBlock=some k->¬ v.ownBlock=some k:=λh3 hne k hk hk'=>by
  rcases zM h3 hv hne with h4|h4
  ·rw [h4] at hk;cases hk
  ·exact h4 (by rw [hk,hk'])
 exact ⟨f.own h.row (off h.row (Ne.symm h1)),λe he=>f.own (h.code e he) (off (h.code e he) (Ne.symm h2)),h.fix,h.few⟩
theorem wT.push {B:Nat} {u cv:Y} {l:List lU} {x:cJ} {es:Array Y} (h:wT w B u l) (hB:B<=w.heap.size) (he:es=(x.cells++[cv,i64 0]).toArray) (hc:gM w B cv x.fix) (hl:l.length<=6000) (hf:x.fix.length<=100)
  (hk:∀ u' w',wT w' B u' (l++[⟨x,0,x.fix,cv⟩])->(∀ w0,aE w0 w->w0.heap.size<=B->aE w0 w')->K u' w') :
  V prog (Instr.buildSlice 229 1 #[(0,.agg es)]) w λt w1=>V prog (Builtin.append_ #[229,229] 229 #[u,t]) w1 K:=by
 subst he;have hcl:(x.cells++[cv,i64 0]).length=13:=by simp [x.len]
 have h1:(x.cells++[cv,i64 0]).all bY=true:=by
  rw [List.all_append,tB,Bool.true_and];show (bY cv&&(bY (i64 0)&&true))=true;rw [nU hc];rfl
 refine zX underlying229 wK rfl (by decide) [.agg (x.cells++[cv,i64 0]).toArray] rfl rfl (by intro v hv;rw [List.mem_singleton] at hv;subst hv;simpa [Value.cells] using hcl) (by decide) (by decide) λt w1 ho1 x1=>?_;have ho1:w1.ownsRow w.heap.size 232 13 t 1 (x.cells++[cv,i64 0]):=by simpa [Value.cells] using ho1
 have s1:=x1.size;refine apG underlying229 wK rfl (by decide) (h.ext x1).row (aA.of_own ho1) h1 (by omega) (by unfold maxLen;omega) (by omega) λu' w2 ho2 hg2 _=>?_;have f2:Fr (λk=>u.ownBlock=some k) w1 w2:=Fr.of_grown hg2 λk hk=>hk
 have kp:∀ {v:Y} {c:List gN},gM w B v c->gM w2 B v c:=λ{v c} ht=>f2.own (x1.own ht) λk hk hk'=>by
  rcases zM ht h.row (by decide) with h4|h4
  ·rw [h4] at hk;cases hk
  ·exact h4 (by rw [hk,hk'])
 refine hk u' w2 ⟨?_,λe he=>?_,λe he hj=>?_,λe he=>?_⟩ λw0 hx hs=>f2.ext (hx.trans x1) λi hi=>by have:=(h.row.lt i hi).1;omega
 ·rw [List.length_append];have e1:UB l++(x.cells++[cv,i64 0])=UB (l++[⟨x,0,x.fix,cv⟩]):=by simp [UB,lU.cells]
  rw [e1] at ho2;exact ho2
 ·rcases List.mem_append.1 he with he|he
  ·exact kp (h.code e he)
  ·rw [List.mem_singleton] at he;subst he;exact kp hc
 ·rcases List.mem_append.1 he with he|he
  ·exact h.fix e he hj
  ·rw [List.mem_singleton] at he;subst he;rfl
 ·rcases List.mem_append.1 he with he|he
  ·exact h.few e he
  ·rw [List.mem_singleton] at he;subst he;exact hf
theorem KB (x:cJ):x.fix.length<=100:=by
 cases x with
 | load r n=>
  have hb:∀ u k,(qF r u k).length<=2*k:=λu k=>by
   induction k with
   | zero=>exact Nat.le_refl _
   | succ k ih=>unfold qF;split<;>simp<;>omega
  have:=hb (n % 4294967296) (sO (n % 4294967296));have h2:=MQ (n % 4294967296);show (sJ r n).length<=100;simp [sJ];omega
 | _=>simp [cJ.fix]
theorem FW {i:gN} (h:bS i=true):FO i:=by
 refine ⟨λe=>?_,λe=>?_⟩
 ·obtain ⟨a,b,_,_,rfl⟩:=zH h e;exact ⟨rfl,rfl,rfl⟩
 ·unfold bS at h;rw [if_neg (by omega),if_pos e] at h;simp only [Bool.and_eq_true,decide_eq_true_eq] at h;exact h.1.1.1
theorem WT (i:gN):(FU i).length<=2:=by
 unfold FU;split
 ·simp
 ·split
  ·simp [blN]
  ·split<;>simp
theorem WS (a b:List gN):yZ (a++b)=yZ a++yZ b:=by simp [yZ]
theorem TV:∀ l:List gN,(yZ l).length<=2*l.length
 | []=>by simp [yZ]
 | i::l=>by
  have:=TV l;have:=WT i;have e:yZ (i::l)=FU i++yZ l:=rfl;rw [e,List.length_append,List.length_cons];omega
def muF (u:Y) (n:Nat) (w:O):Nat:=match u with
 | .slice (some a) _ _=>((List.range n).map λk=>3 - (RowKit.intOf ((w.cell? ⟨a.block,k*13+12,none⟩).getD undef)).toNat).sum
 | _=>0
theorem aGj {B:Nat} {u:Y} {l:List lU} (h:wT w B u l):muF u l.length w=MC (lB l):=by
 by_cases h0:l.length=0
 ·obtain rfl:=List.length_eq_zero_iff.1 h0;unfold muF MC lB;split<;>rfl
 ·obtain ⟨g,cap,rfl⟩:∃ g cap,u=.slice (some ⟨g,0,none⟩) l.length cap:=by
   rcases h.row.2 with ⟨_,e0⟩|⟨g',c',_,rfl,_⟩
   ·omega
   ·exact ⟨g',c',rfl⟩
  unfold muF MC lB;dsimp only
  congr 1
  rw [List.map_map];apply List.ext_getElem?;intro k;rw [List.getElem?_map,List.getElem?_map];by_cases hk:k < l.length
  ·obtain ⟨e,he⟩:=bE hk;have hc:e.cells[12]?=some (i64 (e.f:Int)):=by unfold lU.cells;rw [List.getElem?_append_right (by rw [e.x.len];decide),e.x.len];rfl
   rw [List.getElem?_range hk,he];simp only [Option.map_some,Function.comp_apply,h.at_ he hc,Option.getD_some];rfl
  ·rw [List.getElem?_eq_none (by simp;omega),List.getElem?_eq_none (by omega)];rfl
theorem aHt {l:List cJ} {f:List Nat} (h:∀ k,k < f.length->iV l f k=true):rN l f=f:=by
 apply List.ext_getElem
 ·rw [mZ]
 ·intro k h1 h2;have:=pI l f h2;rw [h k h2,if_pos rfl,List.getD_eq_getElem?_getD,List.getElem?_eq_getElem h1,List.getD_eq_getElem?_getD,List.getElem?_eq_getElem h2] at this;simpa using this
theorem HY {l:List cJ} {f:List Nat} {k:Nat} {x:cJ} (hx:l[k]?=some x):oU l f (k+1)=oU l f k++x.codeK (f.getD k 0) (sQ l f k) (DO l f):=by rw [oU,hx]
theorem aIv {l:List cJ} {f:List Nat} {k n:Nat} (hkn:k<=n) {i:gN} (h:i∈oU l f k):i∈oU l f n:=by
 induction n with
 | zero => obtain rfl : k = 0 := by omega
           exact h
 | succ n ih=>
  by_cases hk:k=n+1
  ·subst hk;exact h
  ·rw [oU];exact List.mem_append_left _ (ih (by omega))
theorem aDg {l:List cJ} {f:List Nat} {k:Nat} {x:cJ} (hx:l[k]?=some x) {i:gN} (h:i∈x.codeK (f.getD k 0) (sQ l f k) (DO l f)):i∈oU l f l.length:=by
 have hk:=(List.getElem?_eq_some_iff.1 hx).1;exact aIv (k:=k+1) hk (by rw [HY hx];exact List.mem_append_right _ h)
theorem aOt {l:List cJ} {es:List lU} {j:Nat} {x:cJ} {cv:Y} (h:kV es=l.take j) (hx:l[j]?=some x):kV (es++[⟨x,0,x.fix,cv⟩])=l.take (j+1):=by
 rw [List.take_add_one,hx,<- h];simp [kV]
theorem bLc {l:List cJ} {f:List Nat} (hl:f.length=l.length) (h:∀ g∈f,g=0):AA l f:=by
 have hz:∀ k,f.getD k 0=0:=λk=>by
  rw [List.getD_eq_getElem?_getD];cases hk:f[k]? with
  | none=>rfl
  | some g=>exact h g (List.mem_of_getElem? hk)
 exact ⟨hl,λk c q _=>by rw [hz];exact Nat.zero_le _,λk _=>hz k⟩
theorem bLi {l m:List Nat} {v u:Y} {B B':Nat} (h:rQ w B v l) (hu:rQ w B' u m) (hl:l.length+m.length<=100000000) (hB:B<=w.heap.size) (hk:∀ v' w',rQ w' B v' (l++m)->Fr (λk=>v.ownBlock=some k) w w'->K v' w'):V prog (Builtin.append_ #[59,59] 59 #[v,u]) w K:=by
 refine apG underlying59 DY rfl (by decide) h (aA.of_own hu) (by simp [hwC,bY]) (by omega) (by unfold maxLen;omega) hB λv' w' ho hg _=>hk v' w' ?_ (Fr.of_grown hg λk hk=>hk);unfold rQ;rw [List.length_append];simpa [hwC] using ho
theorem rQ.ext' {w':O} {B:Nat} {v:Y} {l:List Nat} (h:rQ w B v l) (hx:aE w w'):rQ w' B v l:=hx.own h
theorem NE (l:List cJ) (f:List Nat):∀ k,(oU l f k).length<=100*k
 | 0=>Nat.le_refl _
 | k+1=>by
  have ih:=NE l f k;rw [oU];cases hx:l[k]? with
  | none=>simp;omega
  | some x=>
   have:(x.codeK (f.getD k 0) (sQ l f k) (DO l f)).length<=100:=by
    cases x with
    | jump c q=>exact Nat.le_trans vF (by decide)
    | one i=>exact KB (.one i)
    | place q=>exact Nat.zero_le _
    | load r n=>exact KB (.load r n)
   rw [List.length_append];dsimp only;omega
theorem UO {v:Y} {l:List cJ} (hv:tK w v l) (ho:tR l) (htop:oC l<=16384)
  (hk:∀ hv lv f w',AA l f->(∀ k,k < l.length->iV l f k=true)->rQ w' w.heap.size hv (yZ (oU l f l.length))->aE w w'->K (.tuple #[hv,lv,i64 0]) w'):aC prog 59 #[v] w K:=by
 apply bGe;unfold ZL;have hl:=ho.len;refine bBj hv ho λw1 x1=>dC.2 (aP.2 ?_);refine fQ wW (hv.ext x1) ?_;refine ⟨λu k w'=>∃ (j:Nat) (es:List lU),k=i64 j/\j<=l.length/\es.length=j/\wT w' w.heap.size u es/\kV es=l.take j/\(∀ e∈es,e.f=0)/\aE w w',λ_ k _=>l.length - (RowKit.intOf k).toNat,⟨0,[],rfl,Nat.zero_le _,rfl,⟨World.ownsRow_nil _ _ _ _,λe he=>(by cases he),λe he=>(by cases he),λe he=>(by cases he)⟩,rfl,λe he=>(by cases he),x1⟩,?_⟩;rintro u _ w4 ⟨j,es,rfl,hj,hel,hL,hxs,hf0,x4⟩ _;refine aW.2 (aB (λhlt=>?_) λhge=>?_)
 ·obtain ⟨x,hx⟩:=bE (l:=l) (j:=j) (by omega);refine uI wW rV (hv.ext x4) (by omega) (by omega) (JQ hx) x.len ?_;refine rX SH (by simpa [Value.cells] using x.len) (by simpa [Value.cells] using tB x) λw9 h7 x9=>?_;have h7:bO w9 w4.heap.size x.cells 180:=h7;refine iF h7.boxed rV x.len ?_;refine KF bDv (aId x) ?_;have hc13:(x.cells++[aX,i64 0]).length=13:=by simp [x.len]
  refine rX CP (by simpa [Value.cells] using hc13) (by simp only [Value.cells];rw [List.all_append,tB];rfl) λw13 h8 x13=>?_;have h8:bO w13 w9.heap.size (x.cells++[aX,i64 0]) 232:=h8;have x413:=x9.trans x13;have s9:=x9.size;have s13:=x13.size;have s4:=x4.size;have h7':=h7.ext x13;have hset:∀ cv,(x.cells++[aX,i64 0]).set 11 cv=x.cells++[cv,i64 0]:=λcv=>by cases x<;>rfl
  refine ⟨λw'=>∃ cv,bO w' w9.heap.size (x.cells++[cv,i64 0]) 232/\gM w' w.heap.size cv x.fix/\aE w4 w',?_,?_⟩
  ·have sto:∀ {cv:Y} {w':O},gM w' w13.heap.size cv x.fix->aE w13 w'->V prog (Instr.fieldAt 232 (.pointer (some ⟨w9.heap.size,0,none⟩)) 1) w' λq w2=>U prog (Instr.storeAt 230 q cv) w2 λ_ w3=>∃ cv,bO w3 w9.heap.size (x.cells++[cv,i64 0]) 232/\gM w3 w.heap.size cv x.fix/\aE w4 w3:=λ{cv w'} ht hx'=>by
    have hb:=h8.ext hx';refine FS fT TN hb (n:=13) hc13 (by decide) (nU ht) ?_;have hbs:=hb.set 11 cv;rw [hset cv] at hbs;have f:Fr (λk=>k=w9.heap.size) w' (w'.setCell ⟨w9.heap.size,11,none⟩ cv):=Fr.of_set rfl;have hb13:=h8.lt;exact ⟨cv,hbs,aU (f.own ht λk hk hS=>by have:=(ht.lt k hk).1;omega) (by omega),f.ext (x413.trans hx') λi hi=>by omega⟩
   cases x with
   | one i=>
    have h7':bO w13 w4.heap.size [i64 1,i64 i.op,i64 i.d,i64 i.n,i64 i.m,i64 i.imm,i64 i.cond,i64 0,i64 0,i64 0,i32 0] 180:=h7';refine bC h7'.boxed aZ aG rfl (aH.2 (aB (λ_=>?_) λh=>absurd rfl h));refine EO eO (aGy h7'.boxed nI rfl (l:=i.cells) rfl ?_);exact TD (i:=i) rfl λcv w' hcv hx'=>sto hcv hx'
   | load r n=>
    have h7':bO w13 w4.heap.size [i64 4,i64 0,i64 0,i64 0,i64 0,i64 0,i64 0,i64 0,i64 0,i64 r,i32 n] 180:=h7';refine bC h7'.boxed aZ aG rfl (aH.2 (aB (λh=>absurd h (by decide)) λ_=>aH.2 (aB (λ_=>?_) λh=>absurd rfl h)));refine bC h7'.boxed eN aG rfl (bC h7'.boxed fK kK rfl ?_);exact aQf λcv w' hcv hx'=>sto hcv hx'
   | place q=>
    have h7':bO w13 w4.heap.size [i64 2,i64 0,i64 0,i64 0,i64 0,i64 0,i64 0,i64 q,i64 0,i64 0,i32 0] 180:=h7';refine bC h7'.boxed aZ aG rfl (aH.2 (aB (λh=>absurd h (by decide)) λ_=>aH.2 (aB (λh=>absurd h (by decide)) λ_=>?_)));exact ⟨aX,h8,World.ownsRow_nil _ _ _ _,x413⟩
   | jump c q=>
    have h7':bO w13 w4.heap.size [i64 3,i64 0,i64 0,i64 0,i64 0,i64 0,i64 0,i64 q,i64 c,i64 0,i32 0] 180:=h7';refine bC h7'.boxed aZ aG rfl (aH.2 (aB (λh=>absurd h (by decide)) λ_=>aH.2 (aB (λh=>absurd h (by decide)) λ_=>?_)));exact ⟨aX,h8,World.ownsRow_nil _ _ _ _,x413⟩
  ·rintro w30 ⟨cv,hb30,hc30,x30⟩ _;refine iF hb30.boxed zR (by simp [x.len]) ?_;have s30:=x30.size;refine (hL.ext x30).push (by omega) rfl hc30 (by omega) (KB x) λu' w33 hL' e33=>bA.2 ?_;rw [aM (by omega),bK];refine ⟨⟨j+1,_,rfl,by omega,by simp [hel],hL',aOt hxs hx,λe he=>?_,e33 w (x4.trans x30) (Nat.le_refl _)⟩,by simp only [aL];omega⟩;rcases List.mem_append.1 he with he|he
   ·exact hf0 e he
   ·rw [List.mem_singleton] at he;subst he;rfl
 obtain rfl:j=l.length:=by omega
 have hxl:kV es=l:=by rw [hxs];exact List.take_of_length_le (Nat.le_refl _)
 have hfl:(lB es).length=l.length:=by simp [lB,hel]
 have hF0:AA l (lB es):=bLc hfl λg hg=>by obtain ⟨e,he,rfl⟩:=List.mem_map.1 hg;exact hf0 e he
 clear hge hxs;refine ⟨λw'=>∃ es,es.length=l.length/\wT w' w.heap.size u es/\kV es=l/\AA l (lB es)/\aE w w',λw'=>muF u l.length w',⟨es,hel,hL,hxl,hF0,x4⟩,?_⟩;clear hF0 hxl hfl hf0 hL hel es;rintro w35 ⟨es,hel,hL,hxl,hF,x35⟩ _;have s35:=x35.size;refine bDg hL (by rw [hxl];exact ho) (by rw [hxl];exact hF) s35 λb es' w36 hL' hfit hb e36=>?_;have x36:=e36 w x35 (Nat.le_refl _);have hel':es'.length=l.length:=by rw [hfit.len,hel]
 have hxl':kV es'=l:=by rw [hfit.xs,hxl]
 have hfs':=hfit.fs;rw [hxl] at hfs' hb;have hfl:(lB es).length=l.length:=by simp [lB,hel]
 cases b with
 | true=>
  refine bJ.2 ⟨⟨es',hel',hL',hxl',by rw [hfs'];exact hF.grow ho,x36⟩,?_⟩;have e1:=aGj hL';have e2:=aGj hL;rw [hel'] at e1;rw [hel] at e2;show muF u l.length w36 < muF u l.length w35;rw [e1,e2,hfs'];obtain ⟨k,hk1,hk2⟩:=hb.1 rfl;exact aGu ho hF ⟨k,by omega,hk2⟩
 | false=>
  refine aP.2 ?_
  have hreach:∀ k,k < l.length->iV l (lB es) k=true:=λk hk=>by
   cases hr:iV l (lB es) k with
   | true=>rfl
   | false=>exact absurd (hb.2 ⟨k,by omega,hr⟩) (by decide)
  rw [aHt λk hk=>hreach k (by omega)] at hfs';have hF':AA l (lB es'):=by rw [hfs'];exact hF
  have hreach':∀ k,k < l.length->iV l (lB es') k=true:=by rw [hfs'];exact hreach
  have hcode:∀ (k:Nat) e',es'[k]?=some e'->e'.c=e'.x.codeK ((lB es').getD k 0) (sQ l (lB es') k) (DO l (lB es')):=λk e' he'=>by
   have hk:k < es.length:=by have:=(List.getElem?_eq_some_iff.1 he').1;omega
   obtain ⟨e,he⟩:=bE hk;obtain ⟨e2,q1,q2,q3,_⟩:=hfit.at_ k e he;rw [he'] at q1;cases q1;rw [(q3 hk).2,hxl,hfs',q2,(AB he).2]
  clear hb hfs' hreach hF hfit hL hxl hfl hel e36 s35 x35;have s36:=x36.size;refine GG hL' (by rw [hxl'];exact hF') (by omega) λatv w37 hat x37=>?_;refine fQ rR (aA.of_own (hL'.ext x37).row) ?_;refine lV aQ aG (aA.of_own hat) (by omega) (by omega) (cK (vV (by omega))) (iH.2 ?_);have htk:=AA.at_top ho hF' l.length;rw [decide_eq_false (by rw [hxl',hel'];omega)];refine aP.2 ?_;refine fQ rR (aA.of_own (hL'.ext x37).row) ?_;have goodA:=HX ho hreach'
  have kint:∀ {t:Y} {n:Nat} {xs:List Y} {wa wb:O},wa.ownsRow w36.heap.size 3 1 atv (es'.length+1) ((kW es' (es'.length+1)).map i64)->wa.ownsRow w.heap.size 151 1 t n xs->Fr (λk=>t.ownBlock=some k) wa wb->wb.ownsRow w36.heap.size 3 1 atv (es'.length+1) ((kW es' (es'.length+1)).map i64):=λh1 h2 f=>f.own h1 λk hk hk'=>by
   rcases zM h1 h2 (by decide) with h4|h4
   ·rw [h4] at hk;cases hk
   ·exact h4 (by rw [hk,hk'])
  refine ⟨λt k w'=>∃ j:Nat,k=i64 j/\j<=es'.length/\rQ w' w.heap.size t (yZ (oU l (lB es') j))/\wT w' w.heap.size u es'/\w'.ownsRow w36.heap.size 3 1 atv (es'.length+1) ((kW es' (es'.length+1)).map i64)/\aE w w',λ_ k _=>es'.length - (RowKit.intOf k).toNat,⟨0,rfl,Nat.zero_le _,World.ownsRow_nil _ _ _ _,hL'.ext x37,hat,x36.trans x37⟩,?_⟩;clear hat hL' htk x37 w37 x36 s36;rintro t _ w43 ⟨j,rfl,hj,ht,hL,hat,x43⟩ _;refine aW.2 (aB (λhlt=>?_) λhge=>?_)
  ·obtain ⟨e,he⟩:=bE (l:=es') (j:=j) (by omega);have hem:=List.mem_of_getElem? he;have hxe:=(AB he).1;rw [hxl'] at hxe;have hce:=hcode j e he;have hfew:=hL.few e hem;refine uI rR zR (aA.of_own hL.row) (by omega) (by omega) (BT he) e.len ?_;refine rX CP (by simpa [Value.cells] using e.len) (by simpa [Value.cells] using hL.one hem) λw48 h12 x48=>?_;have h12:aY w48 w43.heap.size e.cells:=bO.boxed h12;have hv11:e.cells[11]?=some e.v:=by unfold lU.cells;rw [List.getElem?_append_right (by rw [e.x.len];decide),e.x.len];rfl
   refine bC h12 fT jF hv11 (fQ vT (aA.of_own ((hL.code e hem).ext x48)) ?_);have s43:=x43.size;refine ⟨λt k w'=>∃ q:Nat,k=i64 q/\q<=e.c.length/\rQ w' w.heap.size t (yZ (oU l (lB es') j)++yZ (e.c.take q))/\wT w' w.heap.size u es'/\w'.ownsRow w36.heap.size 3 1 atv (es'.length+1) ((kW es' (es'.length+1)).map i64)/\aE w w',λ_ k _=>e.c.length - (RowKit.intOf k).toNat,⟨0,rfl,Nat.zero_le _,by rw [List.take_zero,show yZ []=[] from rfl,List.append_nil];exact ht.ext' x48,hL.ext x48,x48.own hat,x43.trans x48⟩,?_⟩;rintro t2 _ w52 ⟨q,rfl,hq,ht2,hL2,hat2,x52⟩ _;refine aW.2 (aB (λhql=>?_) λhqg=>?_)
   ·obtain ⟨i,hi⟩:=bE (l:=e.c) (j:=q) (by omega);have him:i∈oU l (lB es') l.length:=aDg hxe (by rw [<- hce];exact List.mem_of_getElem? hi);obtain ⟨g1,g2⟩:=goodA i him;refine uI vT nI (aA.of_own (hL2.code e hem)) (by omega) (by omega) (BI hi) rfl ?_;refine rX GJ rfl rfl λw57 h14 x57=>?_;have h14:aY w57 w52.heap.size i.cells:=bO.boxed h14;refine iF h14 nI rfl ?_;refine aCy g1 g2 (FW g1) λv5 w59 hv5 x59=>hU.2 (hO.2 ?_);have x79:=x57.trans x59;have s52:=x52.size;have s79:=x79.size;have b1:=TV (oU l (lB es') j);have b2:=TV (e.c.take q);have b3:=NE l (lB es') j;have b4:=WT i;have b5:(e.c.take q).length<=100:=by rw [List.length_take];omega
    refine bLi (ht2.ext' x79) hv5 (by rw [List.length_append];omega) (by omega) λv6 w6 hv6 f6=>bA.2 ?_;rw [aM (by omega),bK];refine ⟨⟨q+1,rfl,by omega,?_,(hL2.ext x79).fr (x79.own ht2) (by decide) (by decide) f6,kint (x79.own hat2) (x79.own ht2) f6,f6.ext (x52.trans x79) λk hk=>(ht2.lt k hk).1⟩,by simp only [aL];omega⟩;rw [List.take_add_one,hi,show (some i).toList=[i] from rfl,WS,<- List.append_assoc,show yZ [i]=FU i from by simp [yZ]];exact hv6
   ·obtain rfl:q=e.c.length:=by omega
    refine kQ (by omega) ?_;refine ⟨⟨j+1,rfl,by omega,?_,hL2,hat2,x52⟩,by simp only [aL];omega⟩;rw [HY hxe,WS,<- hce];rw [List.take_of_length_le (Nat.le_refl _)] at ht2;exact ht2
  ·obtain rfl:j=es'.length:=by omega
   have hatI:aN w43 atv (kW es' (es'.length+1)):=by unfold aN;rw [pY];exact aA.of_own hat
   refine HC hL (by omega) (by rw [hxl'];exact ho.ok) hatI λgL n w5 _ _ _ _ x5=>?_;rw [hel'] at ht;exact hk t _ (lB es') w5 hF' hreach' (x5.own ht) (x43.trans x5)
end Go.Proofs.YtjcmcfidblhnnaaGreatDoor
namespace Go.Proofs.YtjcmcfidblhnnaaGreatDoor
open Tryz
open Go.Vc Go.Tc
variable {w:O} {K:Y->O->Prop}
def rG (l:List jN):Nat:=(l.map λm=>512+96*m.code.length).sum
theorem vH {l:List jN} {j:Nat} {m:jN} (h:l[j]?=some m):rG (l.take (j+1))=rG (l.take j)+(512+96*m.code.length):=by
 unfold rG;rw [List.take_add_one,h];simp
theorem vI {l:List jN} {c:Nat} (h:∀ m∈l,m.code.length<=c):∀ j,rG (l.take j)<=(512+96*c)*j
 | 0=>by simp [rG]
 | j+1=>by
  have ih:=vI h j;rw [Nat.mul_succ];cases hm:l[j]? with
  | none=>
   rw [List.take_add_one,hm];simp only [Option.toList_none,List.append_nil];omega
  | some m=>
   have:=h m (List.mem_of_getElem? hm);rw [vH hm];omega
theorem sC {i:iK} (ht:mU i):∀ m∈i.methods,m.code.length<=120:=λm hm=>(ht.1.2.2.1.2.1 m hm).2.2.2.1.2
theorem BW {p:jO} {i:iK} (h:kP w p i) (ht:mU i) (hk:∀ w',aE w w'->K (i64 (rG i.methods:Nat)) w'):aC prog 22 #[p.val i] w K:=by
 apply bHl;unfold aAp jO.val;have hm8:=ht.1.2.2.1.1.2;refine bx λb1 w1 hb1 x1=>?_;refine bC hb1 bP dE rfl (yY gO (h.mt.ext x1) ?_);refine ⟨λn k w'=>∃ j:Nat,k=i64 j/\j<=i.methods.length/\n=i64 (rG (i.methods.take j):Nat)/\aE w1 w',λ_ k _=>i.methods.length - (RowKit.intOf k).toNat,⟨0,rfl,Nat.zero_le _,rfl,aE.refl _⟩,?_⟩;rintro _ _ w2 ⟨j,rfl,hj,rfl,x2⟩ _;refine aW.2 (aB (λhlt=>?_) λhge=>?_)
 ·obtain ⟨m,hm⟩:=bE (l:=i.methods) (j:=j) (by omega);have hc:=(sC ht) m (List.mem_of_getElem? hm);have hb:=vI (sC ht) j;refine ldS gO oK ((h.mt.ext x1).ext x2) hm (λ_ row e hT=>by obtain ⟨_,_,_,rfl,_⟩:=hT;rfl) λrow hrow=>?_;obtain ⟨pv,lv,cv,rfl,hp,hl,hcv⟩:=hrow;refine wV GK rfl (by obtain ⟨a,c,rfl⟩:=aA.shape hp;obtain ⟨a,c,rfl⟩:=aA.shape hl;obtain ⟨a,c,rfl⟩:=aA.shape hcv;rfl) λb3 w3 hb3 x3=>?_;have hb3:aY w3 b3 [pv,i64 m.result,lv,cv]:=hb3;refine bC hb3 cG iM rfl (fQ jY (aA.ext hcv x3) ?_);refine oS.2 (bA.2 (bA.2 (bA.2 ?_)));rw [show IntKind.i64.wrap (96*(m.code.length:Int))=96*m.code.length from aM (by omega),show IntKind.i64.wrap (512+96*(m.code.length:Int))=512+96*m.code.length from aM (by omega),aM (by omega),aM (by omega),bK];exact ⟨⟨j+1,rfl,by omega,by rw [vH hm];congr 1,x2.trans x3⟩,by simp only [aL];omega⟩
 ·have hjl:j=i.methods.length:=by omega
  rw [hjl,List.take_length];exact hk _ (x1.trans x2)
inductive AlR (p:fN) (R:Nat):Nat->List Int->Int->Prop
 | z:AlR p R 0 (List.replicate R 0) 0
 | s (i:Nat) (of:List Int) (slots:Int) (r:Nat) (at':Int):AlR p R i of slots->(fB [] (qC p R))[i]?=some (r:Int)->rZ p of r at'->(at'=5\/(at'=6/\¬ rZ p of r 5)\/(16<=at'/\¬ rZ p of r 5/\¬ rZ p of r 6))->(∀ x,16<=x->x < at'->¬ rZ p of r x)->AlR p R (i+1) (of.set r at') (max slots (at' - 15))
theorem pP.al {n:aJ} {k r c:Int} (h:pP n k r c):n.args.length<=5:=by
 have hf:=h.f;cases n with
 | serve op a b d l=>
  have hf:qT op=l.length:=hf;unfold qT at hf;show l.length<=5;split at hf
  ·omega
  ·split at hf
   ·omega
   ·split at hf
    ·omega
    ·split at hf<;>omega
 | call m d l=>have:=hf.2;show l.length<=5;omega
 | callX m d l=>have:=hf.2;show l.length<=5;omega
 | _=>exact Nat.zero_le _
theorem UW.fr {B:Nat} {w':O} {v:Y} {l:List aJ} {S:Nat->Prop} (h:UW B w v l) (f:Fr S w w') (hS:∀ k,B<=k->k < w.heap.size->¬ S k):UW B w' v l:=by
 obtain ⟨xs,h1,h2⟩:=h;refine ⟨xs,f.own h1 λk hk=>hS k (h1.lt k hk).1 (h1.lt k hk).2,λk n hn=>?_⟩;obtain ⟨u,h3,h4⟩:=h2 k n hn;exact ⟨u,h3,h4.fr f hS⟩
def kA (i:iK) (k:Nat) (st:Tc.St) (r:List Bool):fN:=⟨(i.meth k).params.length,18,oI i (i.meth k) st r⟩
structure IG (i:iK) (k:Nat) (ap:Int) (st:Tc.St) (r:List Bool) (of:List Int) (s:Int) (f:List Nat):Prop where
 wk:rY i (i.meth k) (some st)
 rc:KT i (i.meth k) st [] r
 gd:pD (kA i k st r) 18 of s
 al:AlR (kA i k st r) 18 (fB [] (qC (kA i k st r) 18)).length of s
 fo:AA (mQ (kA i k st r) of ap) f
 re:∀ q,q < (mQ (kA i k st r) of ap).length->iV (mQ (kA i k st r) of ap) f q=true
def hwK (i:iK) (k:Nat) (ap:Int) (st:Tc.St) (r:List Bool) (of:List Int) (f:List Nat):List Nat:=yZ (oU (mQ (kA i k st r) of ap) f (mQ (kA i k st r) of ap).length)
theorem bIt {T:Y->aJ->Prop} {P:fN} {g n:Nat} {ap:Int} {xs:List Y} {na:Option Addr} {nc:Nat} {J:NP 2} (hok:kT P) (hR:P.regs=18) (ha:0<=ap/\ap < 4) (hn:P.nodes.length=n)
  (hb:aY w g [i64 P.params,i64 P.regs,.slice na n nc]) (hps:aA w (.slice na n nc) 1 n xs) (hvn:∀ (q:Nat) m,P.nodes[q]?=some m->∃ u,xs[q]?=some u/\jA w u m/\T u m)
  (hJ:∀ of s gB iv ta tc ys w',pD P 18 of s->AlR P 18 (fB [] (qC P 18)).length of s->bO w' gB [iv,.slice ta (jU P).length tc,i64 (4*s)] 68->aA w' iv 11 (mQ P of ap).length (itC (mQ P of ap))->w'.ownsRow w.heap.size 43 1 (.slice ta (jU P).length tc) (jU P).length ys->(∀ (q:Nat) m,(jU P)[q]?=some m->∃ u,ys[q]?=some u/\T u m)->aE w w'->J (.pointer (some ⟨gB,0,none⟩)) (i64 0) w') :
  aK w λS2 w10=>
 aD prog S2 (Instr.loadAt 33 (.pointer (some ⟨g,0,none⟩))) λt25=>
 aD prog S2 (Instr.loadAt 33 (.pointer (some ⟨g,0,none⟩))) λt26=>
 (aC prog 18 #[t26] w10 λt27 w11=>
 S2 w11 /\
 (aC prog 17 #[t25,t27,i64 ap] w11 λt29 w12=>
 S2 w12 /\
 aD prog S2 (Instr.extract t29 0) λt30=>
 aD prog S2 (Instr.extract t29 1) λt31=>
 V prog (Instr.alloc 68 true (.tuple #[])) w12 λt13 w13=>
 S2 w13 /\
 U prog (Instr.storeAt 68 t13 t30) w13 λ_ w14=>
 S2 w14 /\
 J t13 t31 w14) /\
 (V prog (Instr.alloc 68 true (.tuple #[])) w11 λt13 w15=>
 S2 w15 /\
 aC prog 17 #[t25,t27,i64 ap] w15 λt29 w16=>
 S2 w16 /\
 aD prog S2 (Instr.extract t29 0) λt30=>
 aD prog S2 (Instr.extract t29 1) λt31=>
 U prog (Instr.storeAt 68 t13 t30) w16 λ_ w17=>
 S2 w17 /\
 J t13 t31 w17)) /\
 (V prog (Instr.alloc 68 true (.tuple #[])) w10 λt13 w18=>
 S2 w18 /\
 aC prog 18 #[t26] w18 λt27 w19=>
 S2 w19 /\
 aC prog 17 #[t25,t27,i64 ap] w19 λt29 w20=>
 S2 w20 /\
 aD prog S2 (Instr.extract t29 0) λt30=>
 aD prog S2 (Instr.extract t29 1) λt31=>
 U prog (Instr.storeAt 68 t13 t30) w20 λ_ w21=>
 S2 w21 /\
 J t13 t31 w21):=by
 have D:aE w w.drew:=(aE.refl _).drew
 have hP:pQ w (.agg #[i64 P.params,i64 P.regs,.slice na n nc]) P:=by
  refine ⟨_,rfl,⟨xs,by rw [hn];exact hps,λq m hq=>?_⟩,λm hm=>?_⟩
  ·obtain ⟨u,h1,h2,_⟩:=hvn q m hq;exact ⟨u,h1,h2⟩
  ·obtain ⟨a,ha⟩:=List.getElem?_of_mem hm;have:=(hok.nodes a m ha).al;omega
 have sz:=D.size
 have A:∀ {w':O} {K':Y->O->Prop},aE w.drew w'->(∀ ov of s w'',aN w'' ov of->pD P 18 of s->AlR P 18 (fB [] (qC P 18)).length of s->aE w' w''->K' (.agg #[ov,i64 s]) w'')->aC prog 18 #[.agg #[i64 P.params,i64 P.regs,.slice na n nc]] w' K':=by
  intro w' K' hx hk';refine (aJa (p:=P) (R:=18) ((hP.ext D).ext hx) hok hR (Q:=λa of s=>AlR P 18 a of s) AlR.z (λa of s q at' _ hq hi _ hm ha hn=>.s a of s q at' hq hi hm ha hn)).mono λv w'' ⟨⟨ov,of,s,hr,ho,hg,hq⟩,x⟩=>?_;subst hr;exact hk' ov of s w'' ho hg hq x
 have E:∀ {w':O} {K':Y->O->Prop} {ov:Y} {of:List Int} {s:Int},aE w.drew w'->aN w' ov of->pD P 18 of s->(∀ iv ta tc ys w'',w''.ownsRow w'.heap.size 180 11 iv (mQ P of ap).length (itC (mQ P of ap))->w''.ownsRow w'.heap.size 43 1 (.slice ta (jU P).length tc) (jU P).length ys->(∀ (q:Nat) m,(jU P)[q]?=some m->∃ u,ys[q]?=some u/\T u m)->bY iv=true->aE w' w''->K' (.tuple #[.agg #[iv,.slice ta (jU P).length tc,i64 (4*s)],i64 0]) w'')->aC prog 17 #[.agg #[i64 P.params,i64 P.regs,.slice na n nc],.agg #[ov,i64 s],i64 ap] w' K':=by
  intro w' K' ov of s hx ho hgd hk';refine bDj (T:=T) (vs0:=xs) ((hP.ext D).ext hx) (by rw [hn];exact (hps.ext D).ext hx) (λq m hq=>?_) hok (R:=18) hR ho hgd ha λiv tv ys w'' i1 i2 i3 x=>?_
  ·obtain ⟨u,h1,h2,h3⟩:=hvn q m hq;exact ⟨u,h1,(h2.ext D).ext hx,h3⟩
  ·obtain ⟨ta,tc,rfl⟩:=(aA.of_own i2).shape;refine hk' iv ta tc ys w'' i1 i2 (λq m hq=>?_) (nU i1) x;obtain ⟨u,h1,_,h3⟩:=i3 q m hq;exact ⟨u,h1,h3⟩
 have Lp:∀ w',aE w.drew w'->aY w' g _:=λw' hx=>(hb.ext D).ext hx;have one:∀ {iv:Y} {ta tc:_} {s:Int},bY iv=true->([iv,.slice ta (jU P).length tc,i64 (4*s)]:List Y).all bY=true:=λh=>by show (bY _&&_)=true;rw [h];rfl
 refine aK.mk' (λw'=>aE w.drew w') (aE.refl _) ?_;refine yA Lp qG rfl (yA Lp qG rfl ⟨A (aE.refl _) λov of s w5 ho hgd hal x5=>⟨x5,?_,?_⟩,?_⟩)
 ·refine E x5 ho hgd λiv ta tc ys w6 i1 i2 i3 i4 x6=>?_;have x56:=x5.trans x6;refine ⟨x56,aD.ok (λ_ _=>nE) (aD.ok (λ_ _=>nD) (zA uK λw7 h7 x7=>?_))⟩;have h7:bO w7 w6.heap.size [aX,aX,i64 0] 68:=h7;have x57:=x56.trans x7;refine ⟨x57,yW uK h7 (l:=[iv,.slice ta (jU P).length tc,i64 (4*s)]) rfl rfl rfl (one i4) λw8 h8 hc=>?_⟩;have x68:=hc.ext _ x7 (Nat.le_refl _);have x58:=x56.trans x68;exact ⟨x58,hJ of s _ iv ta tc ys w8 hgd hal h8 (aA.of_own (x68.own i1)) (aU (x68.own i2) (Nat.le_trans sz x5.size)) i3 (D.trans x58)⟩
 ·refine zA uK λw6 h6 x6=>⟨x5.trans x6,E (x5.trans x6) (ho.ext x6) hgd λiv ta tc ys w7 i1 i2 i3 i4 x7=>?_⟩;have h6:bO w6 w5.heap.size [aX,aX,i64 0] 68:=h6;have x57:=x6.trans x7;refine ⟨x5.trans x57,aD.ok (λ_ _=>nE) (aD.ok (λ_ _=>nD) ?_)⟩;refine yW uK (h6.ext x7) (l:=[iv,.slice ta (jU P).length tc,i64 (4*s)]) rfl rfl rfl (one i4) λw8 h8 hc=>?_;have x58:=x5.trans (hc.ext _ x57 (Nat.le_refl _));have hlt:=h6.lt;have f8:=rE hc;have ne:∀ q,w6.heap.size<=q->¬ q=w5.heap.size:=λq _ _=>by omega
  exact ⟨x58,hJ of s _ iv ta tc ys w8 hgd hal h8 (aA.of_own (f8.own i1 λq hq=>ne q (i1.lt q hq).1)) (aU (f8.own i2 λq hq=>ne q (i2.lt q hq).1) (Nat.le_trans sz (x5.trans x6).size)) i3 (D.trans x58)⟩
 ·refine zA uK λw5 h5 x5=>⟨x5,A x5 λov of s w6 ho hgd hal x6=>⟨x5.trans x6,E (x5.trans x6) ho hgd λiv ta tc ys w7 i1 i2 i3 i4 x7=>?_⟩⟩;have h5:bO w5 w.drew.heap.size [aX,aX,i64 0] 68:=h5;have x57:=x5.trans (x6.trans x7);refine ⟨x57,aD.ok (λ_ _=>nE) (aD.ok (λ_ _=>nD) ?_)⟩;refine yW uK (h5.ext (x6.trans x7)) (l:=[iv,.slice ta (jU P).length tc,i64 (4*s)]) rfl rfl rfl (one i4) λw8 h8 hc=>?_;have x58:=hc.ext _ x57 (Nat.le_refl _);have hlt:=h5.lt;have s6:=x6.size;have f8:=rE hc;have ne:∀ q,w6.heap.size<=q->¬ q=w.drew.heap.size:=λq _ _=>by omega
  exact ⟨x58,hJ of s _ iv ta tc ys w8 hgd hal h8 (aA.of_own (f8.own i1 λq hq=>ne q (i1.lt q hq).1)) (aU (f8.own i2 λq hq=>ne q (i2.lt q hq).1) (Nat.le_trans sz (x5.trans x6).size)) i3 (D.trans x58)⟩
theorem aGo {p:jO} {i:iK} {k:Nat} {ap at':Int} (h:kP w p i) (hn:lA w i) (hrg:i.rg) (ht:mU i) (hkl:k < i.methods.length) (ha:0<=ap/\ap < 4)
  (hK:∀ st r of s f hv tv w',IG i k ap st r of s f->rQ w' w.heap.size hv (hwK i k ap st r of f)->UW w.heap.size w' tv (jU (kA i k st r))->aE w w'->K (.tuple #[.agg #[i64 at',i64 (4*s),hv,tv],i64 0]) w') :
  aC prog 29 #[p.val i,i64 k,i64 ap,i64 at'] w K:=by
 apply bHe;unfold aAj jO.val;have m8:=ht.1.2.2.1.1.2;refine bx λb1 w1 hb1 x1=>?_;have hb1:aY w1 b1 [.string i.name,p.fv,p.iv,p.mv,p.xv]:=hb1;refine zA yB λw2 hB x2=>?_;have hB:bO w2 w1.heap.size [i64 0,i64 0,aX,aX] 61:=hB;have x02:=x1.trans x2;have hg:=x1.size;have hg2:=hB.lt;refine iF (hb1.ext x2) lM rfl ?_;generalize w1.heap.size=g at hB hg hg2;refine aQg (p:=p) (i:=i) (k:=k) (h.ext x02) (hn.ext x02) hrg (λst r nv sv w3 _ _ _ hw Rc hN hS x3=>?_) λw3 hne x3=>absurd ⟨ht,by omega,by omega⟩ hne;have hok:kT (kA i k st r):=uF ht hkl hw Rc;obtain ⟨xs,ho3,hx3⟩:=hN;obtain ⟨na,nc,rfl⟩:=(aA.of_own ho3).shape
 have hvn:∀ (q:Nat) n,(kA i k st r).nodes[q]?=some n->∃ u,xs[q]?=some u/\jA w3 u n/\jT w2.heap.size w3 u n:=λq n hq=>by
  obtain ⟨u,h1,h2⟩:=hx3 q n hq;exact ⟨u,h1,h2.is,h2⟩
 refine CC.2 (CB.2 (CA.2 ?_));refine rX aZs rfl rfl λw4 hp4 x4=>?_;have hp4:bO w4 w3.heap.size [i64 (kA i k st r).params,i64 (kA i k st r).regs,.slice na (oI i (i.meth k) st r).length nc] 33:=hp4
 refine ⟨λbp ev w'=>∃ of s gB iv ta tc ys,bp=.pointer (some ⟨gB,0,none⟩)/\ev=i64 0/\pD (kA i k st r) 18 of s/\AlR (kA i k st r) 18 (fB [] (qC (kA i k st r) 18)).length of s/\bO w' gB [iv,.slice ta (jU (kA i k st r)).length tc,i64 (4*s)] 68 /\
  aA w' iv 11 (mQ (kA i k st r) of ap).length (itC (mQ (kA i k st r) of ap))/\w'.ownsRow w4.heap.size 43 1 (.slice ta (jU (kA i k st r)).length tc) (jU (kA i k st r)).length ys/\(∀ (q:Nat) n,(jU (kA i k st r))[q]?=some n->∃ u,ys[q]?=some u/\jT w2.heap.size w3 u n)/\aE w4 w',
  bIt (T:=λu n=>jT w2.heap.size w3 u n) hok rfl ha rfl hp4.boxed (aA.ext (aA.of_own ho3) x4) (λq n hq=>?_) λof s gB iv ta tc ys w' a b c d e f x=>⟨of,s,gB,iv,ta,tc,ys,rfl,rfl,a,b,c,d,e,f,x⟩,?_⟩
 ·obtain ⟨u,h1,h2,h3⟩:=hvn q n hq;exact ⟨u,h1,h2.ext x4,h3⟩
 rintro _ _ w5 ⟨of,s,gB,iv,ta,tc,ys,rfl,rfl,hgd,hal,hb5,hi5,ht5,hy5,x5⟩ _;refine cH.2 (aB (λh=>absurd rfl h) λ_=>?_);have hasm:=yF (applet:=ap) hok (R:=18) rfl hgd.ofOk;have htop:=aCz (of:=of) (applet:=ap) hok (R:=18) rfl;refine bC hb5.boxed lR MG rfl ?_;refine UO hi5 hasm.1 htop λhv lv f w6 hf hre hhv x6=>?_;refine CC.2 (CB.2 (CA.2 ?_));obtain ⟨va,vc,rfl⟩:=(aA.of_own hhv).shape;refine bC (hb5.ext x6).boxed pU aG rfl (bC (hb5.ext x6).boxed nM lF rfl ?_);refine oD bJx [(0,i64 at'),(1,i64 (4*s)),(2,_),(3,.slice ta (jU (kA i k st r)).length tc)] rfl rfl ?_;have x26:=x3.trans (x4.trans (x5.trans x6));have s2:=x3.size;have sD:=x4.size;have s5:=x5.size;have x56:=x5.trans x6;refine yW yB (hB.ext x26) (l:=[i64 at',i64 (4*s),_,.slice ta (jU (kA i k st r)).length tc]) rfl rfl rfl rfl λw7 hB7 hc=>?_;have f7:=rE hc;have k7:∀ {B:Nat} {e:TypeId} {v:Y} {n:Nat} {zs:List Y},w2.heap.size<=B->w6.ownsRow B e 1 v n zs->w7.ownsRow w.heap.size e 1 v n zs:=λhB' ho=>aU (f7.own ho λq hq hS=>by have:=(ho.lt q hq).1;have hS:q=g:=hS;omega) (by omega);refine ⟨_,nS underlying61 rfl yB hB7 rfl,⟨_,rfl⟩,hK st r of s f _ _ w7 ⟨hw,Rc,hgd,hal,hf,hre⟩ (k7 (by omega) hhv) ⟨ys,k7 (by omega) (x6.own ht5),λq n hq=>?_⟩ (hc.ext _ (x02.trans x26) hg)⟩;obtain ⟨u,h1,sv,h2,h3⟩:=hy5 q n hq
 exact ⟨u,h1,sv,h2,k7 (Nat.le_refl _) ((x4.trans x56).own h3)⟩
structure FQ where
 at_:Int
 fr:Int
 hw:List Nat
 tab:List aJ
 hv:Y
 tv:Y
def FQ.cells (x:FQ):List Y:=[i64 x.at_,i64 x.fr,x.hv,x.tv]
def FQ.lies (w:O) (x:FQ):Prop:=aA w x.hv 1 x.hw.length (hwC x.hw)/\rI w x.tv x.tab
def aBb (w:O) (row:List Y) (x:FQ):Prop:=row=x.cells/\x.lies w
def CE (w:O) (v:Y) (l:List FQ):Prop:=cA aBb 4 w v l
theorem aBb.ext {w':O} {row:List Y} {x:FQ} (h:aBb w row x) (hx:aE w w'):aBb w' row x:=⟨h.1,aA.ext h.2.1 hx,h.2.2.ext hx⟩
theorem CE.ext {w':O} {v:Y} {l:List FQ} (h:CE w v l) (hx:aE w w'):CE w' v l:=cA.ext (λh k=>h.ext k) h hx
def cdC (l:List FQ):List Y:=l.flatMap FQ.cells
theorem XK:∀ {l:List FQ} {k:Nat} {x:FQ},l[k]?=some x->((cdC l).drop (k*4)).take 4=x.cells
 | [],_,_,h=>by simp at h
 | y::l,0,x,h=>by simp at h;subst h;simp [cdC,FQ.cells]
 | y::l,k+1,x,h=>by
  have:=XK (l:=l) (k:=k) (by simpa using h);simp only [cdC,List.flatMap_cons] at this ⊢;rw [show (k+1)*4=4+k*4 by omega,<- List.drop_drop,List.drop_left' (by rfl)];exact this
def aBa (i:iK) (k:Nat) (ap:Int) (x:FQ):Prop:=∃ st r of s f,IG i k ap st r of s f/\x.fr=4*s/\x.hw=hwK i k ap st r of f/\x.tab=jU (kA i k st r)
def IP (a:Int) (n:Nat):Int:=(a+2*n+3) / 4*4
def mI (a:Int) (l:List FQ):Int:=l.foldl (λa x=>IP a x.hw.length) a
theorem zV {a:Int} {l:List FQ} {x:FQ}:mI a (l++[x])=IP (mI a l) x.hw.length:=by simp [mI]
def UZ (i:iK) (ap a:Int) (l:List FQ):Prop:=∀ (j:Nat) x,l[j]?=some x->x.at_=mI a (l.take j)/\aBa i j ap x
theorem aBa.fits {i:iK} {k:Nat} {ap:Int} {x:FQ} (ht:mU i) (hk:k < i.methods.length) (h:aBa i k ap x):vQ x.hw/\(∀ q∈x.hw,q < 65536)/\2*x.hw.length+4<=512+96*(i.meth k).code.length:=by
 obtain ⟨st,r,of,s,f,h,_,e,_⟩:=h;have hok:kT (kA i k st r):=uF ht hk h.wk h.rc;have ha:=ND (yF (applet:=ap) hok (R:=18) rfl h.gd.ofOk).1 h.fo h.re;have hl:=aCm i (i.meth k) st r;have hmi:=fY (i:=i) (a:=(k:Int)) (by omega) (by omega);rw [Int.toNat_natCast] at hmi;have hlo:=(ht.1.2.2.1.2.1 _ (List.mem_of_getElem? hmi)).2.2.1.2;have htop:=aCl (of:=of) (applet:=ap) hok (R:=18) rfl hl (by omega);rw [e];exact ⟨ha.1,ha.2.1,by have:=ha.2.2.2;unfold hwK;omega⟩
theorem IM (a:Int) (n:Nat):a+2*n<=IP a n/\IP a n<=a+2*n+3/\IP a n % 4=0:=by unfold IP;omega
theorem HU (l:List jN) (j:Nat):rG (l.take j)<=rG l:=by
 have h:rG l=rG (l.take j)+rG (l.drop j):=by
  unfold rG;rw [<- List.sum_append,<- List.map_append,List.take_append_drop]
 omega
theorem UC {i:iK} {ap a:Int} {l:List FQ} (ht:mU i) (h:UZ i ap a l) (hl:l.length<=i.methods.length):∀ j,j<=l.length->a<=mI a (l.take j)/\mI a (l.take j)<=a+rG (i.methods.take j)/\(a % 4=0->mI a (l.take j) % 4=0)
 | 0,_=>⟨by simp [mI],by simp [mI,rG],λh=>by simpa [mI] using h⟩
 | j+1,hj=>by
  obtain ⟨h1,h2,h3⟩:=UC ht h hl j (by omega);obtain ⟨x,hx⟩:=bE (l:=l) (j:=j) (by omega);have hmi:=fY (i:=i) (a:=(j:Int)) (by omega) (by omega);rw [Int.toNat_natCast] at hmi;have hf:=((h j x hx).2.fits ht (by omega)).2.2;have e:l.take (j+1)=l.take j++[x]:=by rw [List.take_add_one,hx];rfl
  rw [e,zV,vH hmi];have:=IM (mI a (l.take j)) x.hw.length;exact ⟨by omega,by omega,λ_=>this.2.2⟩
theorem HS {p:jO} {i:iK} {ap a0:Int} (h:kP w p i) (hn:lA w i) (hrg:i.rg) (ha:0<=ap/\ap < 4) (h0:0<=a0/\a0 % 4=0) (h1:a0<=10000000)
  (no1:∀ w',¬ mU i->aE w w'->K (.tuple #[aX,i64 0,i64 1]) w') (no2:∀ w',mU i->¬ (a0+rG i.methods<=131072)->aE w w'->K (.tuple #[aX,i64 0,i64 16]) w')
  (yes:∀ v l w',mU i->a0+rG i.methods<=131072->CE w' v l->l.length=i.methods.length->UZ i ap a0 l->aE w w'->K (.tuple #[v,i64 (mI a0 l),i64 0]) w') :
  aC prog 11 #[p.val i,i64 ap,i64 a0] w K:=by
 apply bHt;unfold aAz;refine bx λb1 w1 hb1 x1=>?_;have hb1:aY w1 b1 [.string i.name,p.fv,p.iv,p.mv,p.xv]:=hb1;refine iF hb1 lM rfl ?_;refine GA (p:=p) (i:=i) (h.ext x1) (hn.ext x1) hrg λa b e w2 he x2=>?_;refine hU.2 (hO.2 ?_);refine wV aEr rfl rfl λb3 w3 _ x3=>?_;have x13:=x2.trans x3;have x03:=x1.trans x13;refine cH.2 ?_;by_cases ht:mU i
 case neg=>
  have hne:e≠0:=λhz=>ht (he.1 hz);simp only [hne,aR];exact no1 w3 ht x03
 have hez:e=0:=he.2 ht;subst hez;have c1:¬ ap < 0:=by omega
 have c2:¬ ap>=4:=by omega
 have c3:¬ a0 < 0:=by omega
 simp only [c1,c2,c3,aR];refine (NI (by decide)).2 ?_;rw [show a0.tmod 4=0 by rw [Int.tmod_eq_emod_of_nonneg (by omega)];omega];refine cH.2 ?_;simp only [aR];have m8:=ht.1.2.2.1.1.2;by_cases c4:a0 > 131072
 ·simp only [c4,aR];exact no2 w3 ht (by omega) x03
 simp only [c4,aR];have hb3:=hb1.ext x13;refine iF hb3 lM rfl ?_;refine BW (p:=p) (i:=i) (h.ext x03) ht λw4 x4=>?_;have hbl:=vI (sC ht) i.methods.length;rw [List.take_length] at hbl;refine eY.2 (iH.2 ?_);rw [aM (by omega)];by_cases c5:(rG i.methods:Int) > 131072 - a0
 ·simp only [c5,aR];exact no2 w4 ht (by omega) (x03.trans x4)
 simp only [c5,aR];have x04:=x03.trans x4;have hb4:=hb3.ext x4;refine bC hb4 bP dE rfl (yY gO (h.ext x04).mt ?_);refine ⟨λt u k w'=>∃ (j:Nat) (l:List FQ),k=i64 j/\j<=i.methods.length/\l.length=j/\t=i64 (mI a0 l)/\UZ i ap a0 l/\aE w4 w'/\w'.ownsRow w4.heap.size 61 4 u l.length (cdC l)/\∀ x∈l,∀ w'',Fr (λk=>u.ownBlock=some k) w' w''->x.lies w'',λ_ _ k _=>i.methods.length - (RowKit.intOf k).toNat,⟨0,[],rfl,Nat.zero_le _,rfl,rfl,λj x hx=>by simp at hx,aE.refl _,World.ownsRow_nil _ _ _ _,λ_ hx=>by simp at hx⟩,?_⟩;rintro _ u _ w5 ⟨j,l,rfl,hj,hl,rfl,hok,x5,ho,hst⟩ _;have x05:=x04.trans x5;have heb:=UC ht hok (by omega) j (by omega);rw [<- hl,List.take_length] at heb;have hbm:=HU i.methods l.length;refine aW.2 (aB (λhlt=>?_) λhge=>?_)
 case refine_2=>
  exact yes u l w5 ht (by omega) ⟨cdC l,aA.of_own ho,λk x hx=>⟨_,XK hx,rfl,hst x (List.mem_of_getElem? hx) w5 (Fr.refl _ _)⟩⟩ (by omega) hok x05
 refine iF (hb4.ext x5) lM rfl ?_;refine aGo (p:=p) (i:=i) (k:=j) (h.ext x05) (hn.ext x05) hrg ht (by omega) ha λst r of s f hv tv w6 hc hhv htv x6=>?_;obtain ⟨x,hx⟩:∃ x:FQ,x=⟨mI a0 l,4*s,hwK i j ap st r of f,jU (kA i j st r),hv,tv⟩:=⟨_,rfl⟩;have hxo:aBa i j ap x:=⟨st,r,of,s,f,hc,by rw [hx],by rw [hx],by rw [hx]⟩;have hxf:=(hxo.fits ht (by omega)).2.2;have hmi:=fY (i:=i) (a:=(j:Int)) (by omega) (by omega);rw [Int.toNat_natCast] at hmi;have hcl:=(sC ht) _ (List.mem_of_getElem? hmi);refine hU.2 (hO.2 ?_)
 have one:x.cells.all bY=true:=by
  obtain ⟨xs,ht1,_⟩:=htv;rw [hx];show (bY _&&(bY _&&(bY hv&&(bY tv&&true))))=true;rw [nU hhv,nU ht1];rfl
 rw [show (Value.agg #[i64 (mI a0 l),i64 (4*s),hv,tv])=.agg x.cells.toArray by rw [hx];rfl];refine rX bIq (by rw [hx];rfl) one λw7 hB7 x7=>?_;have hB7:bO w7 w6.heap.size x.cells 61:=hB7;refine cH.2 (aB (λh=>absurd rfl h) λ_=>?_);have x57:=x6.trans x7;refine iF (cs:=x.cells) hB7.boxed bJk (by rw [hx];rfl) ?_;refine zX underlying48 yB rfl (by decide) [.agg x.cells.toArray] rfl rfl (by intro v hv';rw [List.mem_singleton] at hv';subst hv';rw [hx];rfl) (by decide) (by decide) λv8 w8 ho8 x8=>?_;have e8:([Value.agg x.cells.toArray].flatMap λv=>v.cells.toList)=x.cells:=by rw [hx];rfl
 rw [e8] at ho8;have x48:=x5.trans (x57.trans x8);refine apG underlying48 yB rfl (by decide) ((x57.trans x8).own ho) (aA.of_own ho8) one (by omega) (by unfold maxLen;omega) x48.size λv9 w9 ho9 hg9 hl9=>?_;have x49:aE w4 w9:=x48.grown hg9 λk hk=>(ho.lt k hk).1;have f9:Fr (λk=>u.ownBlock=some k) w8 w9:=Fr.of_grown hg9 λk hk=>hk;have s78:=x8.size;have s57:=x57.size;have s5:=x6.size;have hB9:=f9.blk (hB7.ext x8) λhk=>by have:=(ho.lt _ hk).2;omega
 have hhv9:rQ w9 w5.heap.size hv (hwK i j ap st r of f):=f9.own ((x7.trans x8).own hhv) λq hq hS=>by have:=(hhv.lt q hq).1;have:=(ho.lt q hS).2;omega
 refine bC (cs:=[i64 (mI a0 l),i64 (4*s),hv,tv]) (by rw [hx] at hB9;exact hB9.boxed) lS DP rfl (fQ tX (aA.of_own hhv9) ?_);have hlen:(hwK i j ap st r of f).length=x.hw.length:=by rw [hx]
 rw [hlen];have hbj:=vI (sC ht) j
 have e1:(mI a0 l+2*x.hw.length+4 - 1).tdiv 4*4=IP (mI a0 l) x.hw.length:=by
  rw [Int.tdiv_eq_ediv_of_nonneg (by omega)];unfold IP;omega
 have e2:=IM (mI a0 l) x.hw.length;refine oS.2 (bA.2 (bA.2 (eY.2 ((NJ (by decide)).2 (oS.2 (bA.2 ?_))))))
 rw [show IntKind.i64.wrap (2*(x.hw.length:Int))=2*x.hw.length from aM (by omega),show IntKind.i64.wrap (mI a0 l+2*(x.hw.length:Int))=mI a0 l+2*x.hw.length from aM (by omega),
  show IntKind.i64.wrap (mI a0 l+2*(x.hw.length:Int)+4)=mI a0 l+2*x.hw.length+4 from aM (by omega),show IntKind.i64.wrap (mI a0 l+2*(x.hw.length:Int)+4 - 1)=mI a0 l+2*x.hw.length+4 - 1 from aM (by omega),
  show IntKind.i64.wrap ((mI a0 l+2*(x.hw.length:Int)+4 - 1).tdiv 4)=(mI a0 l+2*x.hw.length+4 - 1).tdiv 4 from aM (by omega),e1,aM (by omega),aM (by omega),bK]
 refine ⟨⟨j+1,l++[x],rfl,by omega,by simp [hl],by rw [zV],λq y hq=>?_,x49,?_,λy hy=>?_⟩,by simp only [aL];omega⟩
 ·rw [List.getElem?_append] at hq;split at hq
  ·rename_i hql
   rw [List.take_append_of_le_length (by omega)];exact hok q y hq
  ·rename_i hql
   have hq0:q=l.length:=by
    have:=(List.getElem?_eq_some_iff.1 hq).1;simp at this;omega
   subst hq0;simp at hq;subst hq;rw [List.take_left,hl];exact ⟨by rw [hx],hxo⟩
 ·have e3:cdC (l++[x])=cdC l++x.cells:=by simp [cdC]
  rw [e3,List.length_append];exact ho9
 ·have f89:∀ {w''},Fr (λk=>v9.ownBlock=some k) w9 w''->Fr (λk=>u.ownBlock=some k) w8 w'':=λf=>f9.trans f λk hk hk'=>by
   rcases hl9 with h9|h9
   ·rw [h9] at hk';exact hk'
   ·rw [h9] at hk';cases hk';omega
  intro w'' fy;rcases List.mem_append.1 hy with hy|hy
  ·exact hst y hy w'' ((Fr.of_ext (x57.trans x8)).trans (f89 fy) λ_ _ h=>h)
  ·rw [List.mem_singleton] at hy;subst hy;have fx:Fr (λk=>u.ownBlock=some k) w6 w'':=(Fr.of_ext (x7.trans x8)).trans (f89 fy) λ_ _ h=>h;have hS:∀ q,w5.heap.size<=q->¬ u.ownBlock=some q:=λq hq hS=>by have:=(ho.lt q hS).2;omega
   have l1:aA w'' hv 1 (hwK i j ap st r of f).length (hwC (hwK i j ap st r of f)):=aA.of_own (fx.own hhv λq hq=>hS q (hhv.lt q hq).1);have l2:=(htv.fr fx λq hq _=>hS q hq).nodes;rw [hx];exact ⟨l1,l2⟩
theorem HR {p:fN} {of:List Int} {ap:Int} {a:Nat} {x:cJ}:∀ k,a < k->x∈oZ of p.nodes.length ap (gE p of ap a).2.length (p.at' a) a->x∈(gE p of ap k).1
 | 0,h,_=>absurd h (Nat.not_lt_zero _)
 | k+1,h,hx=>by
  show x∈(gE p of ap k).1++.place k::oZ of p.nodes.length ap (gE p of ap k).2.length (p.at' k) k;rw [List.mem_append,List.mem_cons];by_cases hk:a=k
  ·subst hk;exact .inr (.inr hx)
  ·exact .inl (HR k (by omega) hx)
theorem NB {l:List cJ} {f:List Nat} (hf:f.length=l.length) (a:Nat):∀ n,a+n<=l.length->sQ l f a<=sQ l f (a+n)
 | 0,_=>Nat.le_refl _
 | n+1,h=>by
  have ih:=NB hf a n (by omega);obtain ⟨x,hx⟩:=bE (l:=l) (j:=a+n) (by omega);have:=yO hf hx;rw [<- Nat.add_assoc,this];omega
theorem IG.ne {i:iK} {k:Nat} {ap s:Int} {st:Tc.St} {r:List Bool} {of:List Int} {f:List Nat} (ht:mU i) (hk:k < i.methods.length) (h:IG i k ap st r of s f):0 < (hwK i k ap st r of f).length:=by
 have hok:kT (kA i k st r):=uF ht hk h.wk h.rc;have ha:=ND (yF (applet:=ap) hok (R:=18) rfl h.gd.ofOk).1 h.fo h.re;have hz:r.getD 0 false=true:=by rcases h.rc.z with hz|hz;exact hz;cases hz
 have hl0:0 < (i.meth k).code.length:=by have:=tF hz;have:=h.rc.rl;omega
 obtain ⟨t0,ht0,htl⟩:=xW (i:=i) (m:=i.meth k) (st:=st) (r:=r) (i.meth k).code.length 0 hl0 hz;have htick:=(AL i (i.meth k) st r).2.2.2 0 t0 ht0 (by omega);rw [Int.toNat_natCast] at htick;have hlt:=(List.getElem?_eq_some_iff.1 htick).1
 have hat:(kA i k st r).at' t0=.tick:=by
  show (oI i (i.meth k) st r).getD t0 .tick=_;rw [List.getD_eq_getElem?_getD,htick];rfl
 have hm:cJ.one ⟨44,0,0,0,0,0⟩∈mQ (kA i k st r) of ap:=by
  refine HR (a:=t0) _ hlt ?_;rw [hat];simp [oZ,mR]
 obtain ⟨q,hq⟩:=List.getElem?_of_mem hm;have hql:=(List.getElem?_eq_some_iff.1 hq).1;have h1:=yO h.fo.len hq;have h2:=NB h.fo.len (q+1) ((mQ (kA i k st r) of ap).length - (q+1)) (by omega);rw [show q+1+((mQ (kA i k st r) of ap).length - (q+1))=(mQ (kA i k st r) of ap).length by omega] at h2;have h3:=ha.2.2.1;have h4:cJ.size (.one ⟨44,0,0,0,0,0⟩) (f.getD q 0)=2:=rfl;unfold hwK;omega
def mS:jN:=⟨[],0,[],[⟨39,0,0⟩]⟩
def iS:iK:=⟨⟨#[97]⟩,[],[],[mS],[]⟩
theorem IR:mU iS:=by
 refine ⟨by simp [iK.right,rW,sA,jN.right,kJ.right,lim,iK.meth,iS,mS],λm hm=>?_⟩;have:m=mS:=by simpa [iS] using hm
 subst this;refine ⟨⟨[[]],[true],[false]⟩,.inr ⟨by simp [mS,fD],?_⟩⟩;exact .go (pc:=0) (s':=⟨[[]],[true],[false]⟩) rfl rfl (.done rfl)
theorem bJd (hT:tV w):lA w iS:=⟨λw' hx=>
 have h:WC ⟨#[97]⟩ [⟨#[97]⟩,⟨#[]⟩] [0,1]=true:=by kernel_rfl
 ⟨MK (hT.ext hx) (xS h),HG (hT.ext hx) (xS h) (by kernel_rfl)⟩,λx hx=>by simp [iS] at hx⟩
theorem VJ (hk:∀ p w',kP w' p iS->aE w w'->K (p.val iS) w'):aC prog 34 #[] w K:=by
 apply bHd;unfold aAi;refine zA qZ λw0 hB x0=>?_;have hB:bO w0 w.heap.size (List.replicate 5 aX |>.set 0 (.string ByteArray.empty)) 27:=hB;refine oD yN [(0,i64 39)] rfl rfl ?_;refine zX underlying36 nJ rfl (by decide) [.agg #[i64 39,i64 0,i64 0]] rfl rfl (by intro v hv;rw [List.mem_singleton] at hv;subst hv;rfl) (by decide) (by decide) λcv w1 hc1 x1=>?_;obtain ⟨ca,cc,rfl⟩:=(aA.of_own hc1).shape;refine oD XR [(3,_)] rfl rfl ?_;refine zX underlying25 tO rfl (by decide) [.agg #[aX,i64 0,aX,.slice ca 1 cc]] rfl rfl (by intro v hv;rw [List.mem_singleton] at hv;subst hv;rfl) (by decide) (by decide) λmv w2 hm2 x2=>?_;obtain ⟨ma,mc,rfl⟩:=(aA.of_own hm2).shape;refine oD bAl [(0,.string ⟨#[97]⟩),(3,_)] rfl rfl ?_;have x02:=x1.trans x2;have hlt:=hB.lt;have s1:=x1.size;refine yW qZ (hB.ext x02) (l:=[.string ⟨#[97]⟩,aX,aX,.slice ma 1 mc,aX]) rfl rfl rfl rfl λw3 hB3 hc=>?_;have f3:=rE hc;have hm3:=f3.own hm2 λq hq hS=>by have:=(hm2.lt q hq).1;have hS:q=w.heap.size:=hS;omega
 have hc3:=f3.own (x2.own hc1) λq hq hS=>by have:=(hc1.lt q hq).1;have hS:q=w.heap.size:=hS;omega
 refine ⟨_,nS underlying27 rfl qZ hB3 rfl,⟨_,rfl⟩,hk ⟨aX,aX,.slice ma 1 mc,aX⟩ w3 ⟨aA.nil _ _,⟨[],aA.nil _ _,λk x hk=>by simp [iS] at hk⟩,?_,aA.nil _ _⟩ (hc.ext _ (x0.trans x02) (Nat.le_refl _))⟩;refine ⟨[aX,i64 0,aX,.slice ca 1 cc],aA.of_own hm3,λk x hk=>?_⟩
 match k,hk with
 | 0,hk=>cases hk;exact ⟨_,rfl,aX,aX,_,rfl,aA.nil _ _,aA.nil _ _,aA.of_own hc3⟩
 | k+1,hk=>simp [iS] at hk
theorem aQl (hT:tV w) (hk:∀ w',aE w w'->K (.bool true) w'):aC prog 15 #[] w K:=by
 apply bHs;unfold aAx;have rgS:iK.rg iS:=by simp [iK.rg,iS,mS,kJ.rg]
 have hb:rG iS.methods=608:=rfl;refine VJ λp w1 hA x1=>?_;refine HS (p:=p) (i:=iS) (ap:=0) (a0:=8) hA (bJd (hT.ext x1)) rgS (by decide) (by decide) (by decide) (λw2 hn _=>absurd IR hn) (λw2 _ hn _=>absurd (by rw [hb];decide) hn) λv l w2 ht _ hl hll hok x2=>?_;have hll:l.length=1:=hll
 obtain ⟨x,rfl⟩:∃ x,l=[x]:=by
  match l,hll with
  | [x],_=>exact ⟨x,rfl⟩
 obtain ⟨hat,hcd⟩:=hok 0 x rfl;have hat:x.at_=8:=hat;have hfit:=(hcd.fits IR (by decide)).2.2;have hc1:(iS.meth (0:Nat)).code.length=1:=rfl;rw [hc1] at hfit;obtain ⟨st,r,of,s,f,hcK,_,hhw,_⟩:=hcd;have hne:=hcK.ne IR (by decide);rw [<- hhw] at hne;have hend:mI 8 [x]=IP 8 x.hw.length:=rfl;have hup:=IM 8 x.hw.length;refine CC.2 (CB.2 (CA.2 ?_));refine VJ λp3 w3 hA3 x3=>?_;refine BW (p:=p3) (i:=iS) hA3 IR λw4 x4=>?_;have x24:=x3.trans x4;rw [hb];have hl4:=hl.ext x24;refine aH.2 ?_;rw [decide_eq_true (by rfl)];simp only [aR];refine yY oW hl4 ?_;refine aH.2 ?_;rw [decide_eq_true (by rfl)];simp only [aR];refine oT oW nN aG hl4 (i:=0) (e:=x) rfl λrow hrow=>⟨i64 x.at_,by rw [hrow.1];rfl,by decide,?_⟩;refine aH.2 ?_;rw [decide_eq_true hat];simp only [aR];refine oT oW lS DP hl4 (i:=0) (e:=x) rfl λrow hrow=>⟨x.hv,by rw [hrow.1];rfl,by decide,?_⟩;refine fQ tX hrow.2.1 (iH.2 ?_);rw [decide_eq_true (by omega)];simp only [aR];refine (NI (by decide)).2 (aH.2 ?_);rw [hend,Int.tmod_eq_emod_of_nonneg (by omega),decide_eq_true hup.2.2];simp only [aR];refine oT oW lS DP hl4 (i:=0) (e:=x) rfl λrow hrow=>⟨x.hv,by rw [hrow.1];rfl,by decide,?_⟩;refine fQ tX hrow.2.1 (oS.2 (bA.2 (kO.2 ?_)));rw [show IntKind.i64.wrap (2*(x.hw.length:Int))=2*x.hw.length from aM (by omega),aM (by omega),decide_eq_true (by omega)]
 simp only [aR];rw [decide_eq_true (by omega)];exact hk w4 ((x1.trans x2).trans x24)
section
variable {S:O->Prop} {L:Y->Prop}
theorem aZk {α:Type} {T:O->List Y->α->Prop} {sz:Nat} {t s f o ft:Nat} {v:Y} {l:List α} {i:Nat} {e:α} (h:XA prog t sz) (hf:FA prog s f o) (hl:L1 prog ft) (hs:cA T sz w v l) (hx:∀ w',S w'->aE w w') (hi:l[i]?=some e)
  (hk:∀ row,T w row e->∃ u,row[o]?=some u/\o < sz/\L u):aD prog S (Instr.indexAt t v (i64 i)) λp=>aD prog S (Instr.fieldAt s p f) λq=>aD prog S (Instr.loadAt ft q) L:=by
 obtain ⟨cs,h1,h2⟩:=hs;obtain ⟨row,h3,h4⟩:=h2 i e hi;have hlt:i < l.length:=(List.getElem?_eq_some_iff.1 hi).1;obtain ⟨u,hu,ho,hL⟩:=hk row h4;obtain ⟨e,z,b',hte,hinf⟩:=h;obtain ⟨d,hd,ha⟩:=hl;obtain ⟨b,off,cap,rfl,hc⟩:=h1.there (by omega);refine aD.ok (λw' _=>iL hte hinf (by omega) (by omega)) (aD.ok (λw' _=>hf.ex w' b _) (aD.ok (λw' hw=>jD hd ha ((hx w' hw).cell ?_)) hL));rw [<- h3,List.getElem?_take,if_pos ho,List.getElem?_drop] at hu;simpa [Nat.add_assoc] using hc _ _ hu
end
end Go.Proofs.YtjcmcfidblhnnaaGreatDoor
namespace Go.Proofs.YtjcmcfidblhnnaaGreatDoor
open Tryz
open Go.Vc
variable {w:O} {K:Y->O->Prop}
section
variable {P:Program} {t:TypeId} {k':IntKind} {a b s:Nat} {y:Int}
theorem AY (hy:y=s) (hs:s<=16) (hk:K (u16 ((a >>> s:Nat):Int)) w):V P (binOp .shr t (u16 (a:Int)) (.int k' y)) w K:=by
 subst hy;refine V.ok (qV (by omega)) ?_;rw [Int.toNat_natCast,show IntKind.u16.bits=16 from rfl,aZp hs];exact hk
theorem aBh (hy:y=b) (ha:a < 65536) (hb:b < 65536) (hk:K (u16 ((a &&& b:Nat):Int)) w):V P (binOp .and t (u16 (a:Int)) (u16 y)) w K:=by
 subst hy;refine V.ok rK ?_;rw [show IntKind.u16.wrap (BitVec.ofInt IntKind.u16.bits (a:Int) &&& BitVec.ofInt IntKind.u16.bits (b:Int)).toNat=((a &&& b:Nat):Int) from bAm ha hb];exact hk
theorem SB (ha:a < 65536) (hk:K (i64 (a:Int)) w):V prog (convert 151 3 (u16 (a:Int))) w K:=by
 refine V.ok (kM underlying151 underlying3) ?_;rw [aM (by omega)];exact hk
end
theorem CO {h s n:Nat} (hh:h < 65536) (hn:65536<=n*2 ^ s):h >>> s < n:=by
 rw [Nat.shiftRight_eq_div_pow];exact Nat.div_lt_of_lt_mul (by rw [Nat.mul_comm];omega)
theorem bJs {a b:Int} (hk:∀ n,K (i64 n) w):aC prog 46 #[u16 a,u16 b] w K:=by
 apply bGr;unfold ZX;have c:∀ {x:Int} {K:Y->O->Prop},(∀ y,K (i64 y) w)->V prog (convert 151 3 (u16 x)) w K:=λh=>V.ok (kM underlying151 underlying3) (h _);refine V.ok (qV (by decide)) (V.ok rK (c λs=>V.ok (qV (by decide)) (V.ok rK (c λj=>V.ok (qV (by decide)) (V.ok rK (c λk=>?_))))));refine V.ok VN (eY.2 (V.ok (sH (by decide)) (V.ok VN (eY.2 (V.ok (sH (by decide)) (V.ok aFj (V.ok rK (c λx=>V.ok (sH (by decide)) (V.ok aFj (V.ok rK (c λy=>V.ok (sH (by decide)) (V.ok aFj (V.ok (sH (by decide)) (eY.2 (hk _)))))))))))))))
theorem bBt {h:Nat} (hk:K (i64 (bBs h)) w):aC prog 102 #[u16 (h:Int)] w K:=by
 apply aZf;unfold RW;unfold bBs at hk;refine AY (s:=7) rfl (by decide) (aH.2 (aB (λe=>?_) λe=>?_))
 ·rw [if_pos (show h >>> 7=0xb000 >>> 7 from Int.ofNat_inj.1 e)] at hk;exact hk
 rw [if_neg (show ¬ h >>> 7=0xb000 >>> 7 from λq=>e (congrArg Int.ofNat q))] at hk;refine AY (s:=7) rfl (by decide) (aH.2 (aB (λe=>?_) λe=>?_))
 ·rw [if_pos (show h >>> 7=0xb080 >>> 7 from Int.ofNat_inj.1 e)] at hk;exact hk
 rw [if_neg (show ¬ h >>> 7=0xb080 >>> 7 from λq=>e (congrArg Int.ofNat q))] at hk;refine AY (s:=9) rfl (by decide) (aH.2 (aB (λe=>?_) λe=>?_))
 ·rw [if_pos (show h >>> 9=0xb400 >>> 9 from Int.ofNat_inj.1 e)] at hk;exact hk
 rw [if_neg (show ¬ h >>> 9=0xb400 >>> 9 from λq=>e (congrArg Int.ofNat q))] at hk;refine AY (s:=9) rfl (by decide) (aH.2 (aB (λe=>?_) λe=>?_))
 ·rw [if_pos (show h >>> 9=0xbc00 >>> 9 from Int.ofNat_inj.1 e)] at hk;exact hk
 rw [if_neg (show ¬ h >>> 9=0xbc00 >>> 9 from λq=>e (congrArg Int.ofNat q))] at hk;exact hk
theorem bKz {h:Nat} (hh:h < 65536) (hk:K (i64 (opN h)) w):aC prog 49 #[u16 (h:Int)] w K:=by
 apply bGo;unfold ZU;unfold opN at hk;have hf:=CO (s:=11) (n:=32) hh (by decide);refine AY (s:=11) rfl (by decide) ?_;dsimp only at hk;generalize h >>> 11=f at hk hf;have tb:∀ {p q:Prop} [Decidable p] [Decidable q],(p↔q)->Value.bool (decide p)=.bool (decide q):=λh=>congrArg Value.bool (decide_eq_decide.2 h);refine ⟨λv w'=>v=.bool (decide (f<=2))/\w=w',aH.2 (aB (λe=>⟨tb (by omega),rfl⟩) λe1=>aH.2 (aB (λe=>⟨tb (by omega),rfl⟩) λe2=>aH.2 ⟨tb (by omega),rfl⟩)),?_⟩;rintro _ _ ⟨rfl,rfl⟩ _;refine aB (λe=>?_) λe=>?_
 ·rw [if_pos e] at hk;refine SB (by omega) (bA.2 ?_);rw [aM (by omega)];exact hk
 rw [if_neg e] at hk;refine aH.2 (aB (λe=>?_) λe=>?_)
 ·rw [if_pos (by omega)] at hk;have:=CO (s:=9) (n:=128) hh (by decide);have:h >>> 9 &&& 3<=3:=Nat.and_le_right;refine AY (s:=9) rfl (by decide) (aBh (b:=3) rfl (by omega) (by decide) (SB (by omega) (bA.2 ?_)));rw [aM (by omega)];exact hk
 rw [if_neg (by omega)] at hk;refine ⟨λv w'=>v=.bool (decide (f<=7))/\w=w',aH.2 (aB (λe=>⟨tb (by omega),rfl⟩) λe1=>aH.2 (aB (λe=>⟨tb (by omega),rfl⟩) λe2=>aH.2 (aB (λe=>⟨tb (by omega),rfl⟩) λe3=>aH.2 ⟨tb (by omega),rfl⟩))),?_⟩;rintro _ _ ⟨rfl,rfl⟩ _;refine aB (λe=>?_) λe=>?_
 ·rw [if_pos e] at hk;refine eY.2 ?_;rw [tL (by omega) (by omega),show (f:Int) - 4=((f - 4:Nat):Int) by omega];refine SB (by omega) (bA.2 ?_);rw [aM (by omega),show ((f - 4:Nat):Int)=(f:Int) - 4 by omega];exact hk
 rw [if_neg e] at hk;refine aH.2 (aB (λe=>?_) λe=>?_)
 ·rw [if_pos (by omega)] at hk;have:=CO (s:=6) (n:=1024) hh (by decide);have:h >>> 6 &&& 15<=15:=Nat.and_le_right;refine AY (s:=6) rfl (by decide) (aBh (b:=15) rfl (by omega) (by decide) (SB (by omega) (bA.2 ?_)));rw [aM (by omega)];exact hk
 rw [if_neg (by omega)] at hk
 iterate 8
  refine aH.2 (aB (λe=>?_) λe=>?_)
  ·rw [if_pos (by omega)] at hk;exact hk
  rw [if_neg (by omega)] at hk
 refine ⟨λv w'=>v=.bool (decide (f=22\/f=23))/\w=w',aH.2 (aB (λe=>⟨tb (by omega),rfl⟩) λe1=>aH.2 ⟨tb (by omega),rfl⟩),?_⟩;rintro _ _ ⟨rfl,rfl⟩ _;refine aB (λe=>?_) λe=>?_
 ·rw [if_pos e] at hk;exact bBt hk
 rw [if_neg e] at hk;refine ⟨λv w'=>v=.bool (decide (f=26\/f=27))/\w=w',aH.2 (aB (λe=>⟨tb (by omega),rfl⟩) λe1=>aH.2 ⟨tb (by omega),rfl⟩),?_⟩;rintro _ _ ⟨rfl,rfl⟩ _;refine aB (λe=>?_) λe=>?_
 ·rw [if_pos e] at hk;refine AY (s:=8) rfl (by decide) (aH.2 (aB (λe=>?_) λe=>?_))
  ·rw [if_pos (show h >>> 8=0xdf from Int.ofNat_inj.1 e)] at hk;exact hk
  ·rw [if_neg (show ¬ h >>> 8=0xdf from λq=>e (congrArg Int.ofNat q))] at hk;exact hk
 rw [if_neg e] at hk;refine aH.2 (aB (λe=>?_) λe=>?_)
 ·rw [if_pos (by omega)] at hk;exact hk
 ·rw [if_neg (by omega)] at hk;exact hk
theorem aEb {s:iZ} (h0:0<=s.bits/\s.bits<=16) (h1:0<=s.step/\s.step<=4096) (hk:∀ w',aE w w'->K (i64 (s.step*((2 ^ s.bits.toNat:Nat):Int))) w'):aC prog 103 #[s.v] w K:=by
 apply aZe;unfold RV;refine bx λb w1 hb x1=>?_;have hb:aY w1 b s.cells:=hb;refine bC hb gA aG rfl (bC hb gU aG rfl (V.ok (sH h0.1) ?_));have hp:(2:Nat) ^ s.bits.toNat<=2 ^ 16:=Nat.pow_le_pow_right (by decide) (by omega);have hp0:0 < (2:Nat) ^ s.bits.toNat:=Nat.pow_pos (by decide);have hm:s.step*((2 ^ s.bits.toNat:Nat):Int)<=4096*65536:=Int.mul_le_mul h1.2 (by omega) (by omega) (by decide);have hm0:0<=s.step*((2 ^ s.bits.toNat:Nat):Int):=Int.mul_nonneg h1.1 (by omega);rw [show IntKind.i64.bits=64 from rfl,Nat.min_eq_left (by omega),show ((2:Int) ^ s.bits.toNat)=((2 ^ s.bits.toNat:Nat):Int) by push_cast;rfl,aM (by omega)];exact hk w1 x1
theorem aBm (i:gN) (k v:Int):(i.set k v).cells=i.cells.set (xP k) (i64 v):=by
 unfold gN.set xP;by_cases c0:k=0
 ·rw [if_pos c0,if_pos c0];rfl
 rw [if_neg c0,if_neg c0];by_cases c1:k=1
 ·rw [if_pos c1,if_pos c1];rfl
 rw [if_neg c1,if_neg c1];by_cases c2:k=2
 ·rw [if_pos c2,if_pos c2];rfl
 rw [if_neg c2,if_neg c2];by_cases c3:k=3
 ·rw [if_pos c3,if_pos c3];rfl
 rw [if_neg c3,if_neg c3];rfl
theorem bBh (i:gN) (k v:Int):(i.set k v).op=i.op:=by
 unfold gN.set;split
 ·rfl
 split
 ·rfl
 split
 ·rfl
 split<;>rfl
theorem WX {h:Nat}:∀ (l:List iZ) (x:gN × Nat),(l.foldl (sG h) x).1.op=x.1.op
 | [],_=>rfl
 | s::l,x=>(WX l _).trans (bBh _ _ _)
theorem aFy (k:Int):xP k < 6:=by
 unfold xP;split
 ·decide
 split
 ·decide
 split
 ·decide
 split<;>decide
theorem bBl {op b:Int} {sl:List iZ} {sv:Y} {h:Nat} (hf:cL op=some (b,sl)) (hne:op≠28/\op≠43) (hs:aJl w sv sl) (hh:h < 65536)
  (hk:∀ x w',x=sl.foldl (sG h) (⟨op,0,0,0,0,0⟩,h)->aE w w'->K (.tuple #[.agg (gN.cells x.1).toArray,.bool (decide (x.2=b.toNat)&&bS x.1)]) w'):aC prog 50 #[.agg #[i64 op,u16 b,sv],u16 (h:Int)] w K:=by
 apply bGn;unfold ZT;obtain ⟨fb0,fb1,hsl⟩:=AV hf;have hso:∀ s∈sl,uR s:=λs hs=>uR.of (List.all_eq_true.1 hsl s hs);have hll:=(EN hf).1;refine bx λb2 w1 hb2 x1=>?_;have hb2:aY w1 b2 [i64 op,u16 b,sv]:=hb2;refine zA rM λw2 h4 x2=>?_;have h4:bO w2 w1.heap.size [i64 0,i64 0,i64 0,i64 0,i64 0,i64 0] 83:=h4;have x02:=x1.trans x2;have s1:=x1.size;have hg4:=h4.lt;refine bC (hb2.ext x2) eR aG rfl ?_;refine oD nZ [(0,i64 op)] rfl rfl ?_;refine rX GJ rfl rfl λw3 h6 x3=>?_;have h6:bO w3 w2.heap.size (gN.cells ⟨op,0,0,0,0,0⟩) 83:=h6;refine bC ((hb2.ext x2).ext x3) dQ gY rfl (fQ zB ((aA.ext hs x02).ext x3) ?_);refine ⟨λt k w'=>∃ (j:Nat) (x:gN × Nat),k=i64 j/\t=u16 (x.2:Int)/\j<=sl.length/\x.2 < 65536/\x=(sl.take j).foldl (sG h) (⟨op,0,0,0,0,0⟩,h)/\bO w' w2.heap.size x.1.cells 83/\aE w2 w',λ_ k _=>sl.length - (RowKit.intOf k).toNat,⟨0,(⟨op,0,0,0,0,0⟩,h),rfl,rfl,Nat.zero_le _,hh,rfl,h6,x3⟩,?_⟩;rintro _ _ w4 ⟨j,x,rfl,rfl,hj,hlt,hx,hB,x4⟩ _;refine aW.2 (aB (λhjl=>?_) λhge=>?_)
 ·obtain ⟨s,hsj⟩:=bE (l:=sl) (j:=j) (by omega);have hsm:=List.mem_of_getElem? hsj;have so:=hso s hsm;have b0:=so.b0;have s0:=so.s0;have bs:=so.bs;have st:=so.st;have b1:=so.b1;have s4:=so.s4;have l0:=so.l0;have m0:=so.m0;refine uI zB eX ((aA.ext hs x02).ext x4) (by omega) (by omega) (SD hsj) rfl ?_;refine rX CQ rfl rfl λw5 h9 x5=>?_;have h9:aY w5 w4.heap.size s.cells:=bO.boxed h9;have D:aE w5 w5.drew:=(aE.refl _).drew;obtain ⟨nb,hnb⟩:=jW b0;obtain ⟨ns,hns⟩:=jW s0;have hpp:0 < (2:Nat) ^ nb:=Nat.pow_pos (by decide);have hpw:(2:Nat) ^ nb<=2 ^ 11:=Nat.pow_le_pow_right (n:=2) (by decide) (show nb<=11 by omega)
  have hmul:(2 ^ nb - 1)*2 ^ ns < 65536:=by
   calc (2 ^ nb - 1)*2 ^ ns < 2 ^ nb*2 ^ ns:=Nat.mul_lt_mul_of_pos_right (by omega) (Nat.pow_pos (by decide))
    _=2 ^ (nb+ns):=(Nat.pow_add 2 _ _).symm
    _<=2 ^ 16:=Nat.pow_le_pow_right (by decide) (by omega)
  obtain ⟨mk,hmk⟩:∃ mk,mk=WI s:=⟨_,rfl⟩;have hmk2:mk=(2 ^ nb - 1) <<< ns:=by rw [hmk];unfold WI;rw [hnb,hns,Int.toNat_natCast,Int.toNat_natCast]
  have hmlt:mk < 65536:=by rw [hmk2,Nat.shiftLeft_eq];exact hmul
  refine aK.mk' (λw'=>aE w5.drew w') (aE.refl _) ?_;refine jG (λw' hx=>(h9.ext D).ext hx) gU aG rfl ?_
  refine aD.ok (v:=u16 ((1 <<< nb:Nat):Int)) (λw' _=>by
   rw [hnb];refine (sH (by omega)).trans (congrArg (λz=>Result.ok (Value.int .u16 z) w') ?_);rw [Int.toNat_natCast];exact aEp (a:=1) (by omega) (by omega)) ?_
  refine aD.ok (v:=u16 ((2 ^ nb - 1:Nat):Int)) (λw' _=>eM.trans (by rw [show (((1 <<< nb:Nat):Int) - 1)=((2 ^ nb - 1:Nat):Int) from by rw [Nat.one_shiftLeft];omega,tL (by omega) (by omega)])) ?_;refine jG (λw' hx=>(h9.ext D).ext hx) gV aG rfl ?_
  refine aD.ok (v:=u16 (mk:Int)) (λw' _=>by
   rw [hns];refine (sH (by omega)).trans (congrArg (λz=>Result.ok (Value.int .u16 z) w') ?_);rw [Int.toNat_natCast,hmk2];exact aEp hmul (by omega)) ?_
  have D2:aE w5.drew w5.drew.drew:=(aE.refl _).drew;have h92:=(h9.ext D).ext D2;have hhm:h &&& mk < 65536:=Nat.lt_of_le_of_lt Nat.and_le_left hh;obtain ⟨q0,hq0⟩:∃ q0,q0=(h &&& mk) >>> ns:=⟨_,rfl⟩
  have hq:q0 < 65536:=by
   rw [hq0];exact Nat.lt_of_le_of_lt (by rw [Nat.shiftRight_eq_div_pow];exact Nat.div_le_self _ _) hhm
  have hn0:0<=((q0:Nat):Int)*s.step:=Int.mul_nonneg (by omega) (by omega);have hn1:((q0:Nat):Int)*s.step<=65536*4:=Int.mul_le_mul (by omega) s4 (by omega) (by decide);refine aK.mk' (λw'=>aE w5.drew.drew w') (aE.refl _) ?_;refine aD.ok (v:=u16 ((h &&& mk:Nat):Int)) (λw' _=>rK.trans (congrArg (λz=>Result.ok (Value.int .u16 z) w') (bAm hh hmlt))) ?_;refine jG (λw' hx=>h92.ext hx) gV aG rfl ?_
  refine aD.ok (v:=u16 ((q0:Nat):Int)) (λw' _=>by
   rw [hns];refine (qV (by omega)).trans (congrArg (λz=>Result.ok (Value.int .u16 z) w') ?_);rw [Int.toNat_natCast,hq0];exact aZp (by omega)) ?_
  refine aD.ok (v:=i64 ((q0:Nat):Int)) (λw' _=>(kM underlying151 underlying3).trans (congrArg (λz=>Result.ok (Value.int .i64 z) w') (aM (by omega)))) ?_;refine jG (λw' hx=>h92.ext hx) gA aG rfl ?_;refine aD.ok (v:=i64 (((q0:Nat):Int)*s.step)) (λw' _=>aFl.trans (by rw [aM (by omega)])) ?_;refine V.ok DC ?_;rw [show IntKind.u16.wrap (BitVec.ofInt IntKind.u16.bits (x.2:Int) &&& ~~~ BitVec.ofInt IntKind.u16.bits (mk:Int)).toNat=((x.2 &&& (65535 - mk):Nat):Int) from aIy hlt hmlt];have x5D:=x5.trans (D.trans D2)
  have hr:sG h x s=(x.1.set s.part (if ((q0:Nat):Int)*s.step > s.most then ((q0:Nat):Int)*s.step - s.step*((2 ^ nb:Nat):Int) else if ((q0:Nat):Int)*s.step < s.least then ((q0:Nat):Int)*s.step+s.step*((2 ^ nb:Nat):Int) else ((q0:Nat):Int)*s.step),x.2 &&& (65535 - mk)):=by
   unfold sG;rw [<- hmk];simp only [hnb,hns,Int.toNat_natCast,<- hq0]
  have hg0:0<=s.step*((2 ^ nb:Nat):Int):=Int.mul_nonneg (by omega) (by omega);have hg1:s.step*((2 ^ nb:Nat):Int)<=4*2048:=Int.mul_le_mul s4 (by omega) (by omega) (by decide);generalize ((q0:Nat):Int)*s.step=n at hn0 hn1 hr
  have hW:∀ {w':O} {K':Y->O->Prop},aE w5.drew.drew w'->(∀ w'',aE w' w''->K' (i64 (s.step*((2 ^ nb:Nat):Int))) w'')->V prog (Instr.loadAt 210 (.pointer (some ⟨w4.heap.size,0,none⟩))) w' λt w''=>aC prog 103 #[t] w'' K':=λhx hk'=>by
   refine iF (h92.ext hx) eX rfl ?_;refine aEb (s:=s) (by omega) (by omega) λw'' x=>?_;rw [hnb,Int.toNat_natCast];exact hk' w'' x
  generalize hgg:s.step*((2 ^ nb:Nat):Int)=g at hg0 hg1 hr hW;refine ⟨λv w'=>v=i64 (if n > s.most then n - g else if n < s.least then n+g else n)/\aE w5.drew.drew w',?_,?_⟩
  ·refine bC h92 iB aG rfl (iH.2 (aB (λc=>hW (aE.refl _) λw6 x6=>eY.2 ⟨?_,x6⟩) λc=>?_))
   ·rw [if_pos c,aM (by omega)]
   ·rw [if_neg c];refine bC h92 iC aG rfl (aW.2 (aB (λc=>hW (aE.refl _) λw6 x6=>bA.2 ⟨?_,x6⟩) λc=>⟨?_,aE.refl _⟩))
    ·rw [if_pos c,aM (by omega)]
    ·rw [if_neg c]
  rintro _ w6 ⟨rfl,x6⟩ _;refine bC (h92.ext x6) gW aG rfl (SS ⟨.inl ⟨_,rfl⟩,?_⟩);have x46:=x5D.trans x6;have hB6:=hB.ext x46;have hst:=λ(K':O->Prop) v (hv:bY v=true) (hk':K' (w6.setCell ⟨w2.heap.size,xP s.part,none⟩ v))=>bBe (K:=K') (P:=prog) bW hB6 (n:=6) rfl (aFy s.part) hv hk';simp only [Nat.zero_add] at hst;refine hst _ _ rfl (bA.2 ?_);rw [aM (by omega),bK];refine ⟨⟨j+1,sG h x s,rfl,by rw [hr],by omega,?_,?_,?_,(x4.trans x46).setCell (Nat.le_refl _) _⟩,by simp only [aL];omega⟩
  ·rw [hr];exact Nat.lt_of_le_of_lt Nat.and_le_left hlt
  ·rw [EL _ _ _ hsj,<- hx]
  ·rw [hr,aBm];exact hB6.set _ _
 ·have ee:sl.take j=sl:=List.take_of_length_le (by omega);rw [ee] at hx;have D:aE w4 w4.drew:=(aE.refl _).drew;have x24:=x4.trans D;have hBD:=hB.ext D;have h4D:=h4.ext x24;have hbD:=(hb2.ext x2).ext x24;have s2:=x2.size
  have hb2lt:∀ {w':O},Fr (λk=>k=w1.heap.size) w4.drew w'->aY w' b2 [i64 op,u16 b,sv]:=λf=>by
   have hb1':aY w1 b2 [i64 op,u16 b,sv]:=hb2;refine hb1'.ext (f.ext (x2.trans x24) λi hi=>by omega)
  have hB6:∀ {w':O},Fr (λk=>k=w1.heap.size) w4.drew w'->aY w' w2.heap.size x.1.cells:=λf=>(f.blk hBD (by omega)).boxed;refine aK.mk' (λw'=>Fr (λk=>k=w1.heap.size) w4.drew w') (Fr.refl _ _) ?_;refine yA (λw' f=>hB6 f) nI rfl ?_;refine jG (λw' f=>hb2lt f) eB gJ rfl ?_;refine aD.ok (λ_ _=>zK) ?_;have hop:x.1.op=op:=by rw [hx];exact WX _ _
  have fin:∀ {w':O} {c:Bool},aE w4.drew w'->c=(decide (x.2=b.toNat)&&bS x.1)->U prog (Instr.storeAt 83 (.pointer (some ⟨w1.heap.size,0,none⟩)) (.agg x.1.cells.toArray)) w' λ_ w7=>
    Fr (λk=>k=w1.heap.size) w4.drew w7/\∃ r1,(loadVar 83 (match (Value.pointer (some ⟨w1.heap.size,0,none⟩)) with|.pointer (some p)=>p|_=>⟨0,0,none⟩)).run prog w7=.ok r1 w7/\(∃ p,(Value.pointer (some ⟨w1.heap.size,0,none⟩))=Value.pointer (some p))/\K (.tuple #[r1,.bool c]) w7:=by
   intro w' c hx' hc;refine yW rM (h4D.ext hx') (l:=x.1.cells) rfl rfl rfl rfl λw7 h7 hcg=>⟨(Fr.of_ext hx').trans (rE hcg) λ_ _ h=>h,_,nS underlying83 rfl rM h7 rfl,⟨_,rfl⟩,?_⟩;rw [hc];exact hk x w7 hx (hcg.ext _ (x02.trans (x24.trans hx')) s1)
  by_cases c:x.2=b.toNat
  ·rw [show decide ((x.2:Int)=b)=true from decide_eq_true (by omega)];simp only [WV,lO];refine yA (λw' f=>hB6 f) nI rfl ?_;refine uD (i:=x.1) (λe=>absurd (hop.symm.trans e) hne.1) (λe=>absurd (hop.symm.trans e) hne.2) λw5 x5=>⟨Fr.of_ext x5,jC ?_⟩;rw [if_pos rfl];exact fin x5 (by rw [decide_eq_true c,Bool.true_and])
  ·rw [show decide ((x.2:Int)=b)=false from decide_eq_false (by omega)];simp only [JY,lG];refine ⟨Fr.refl _ _,jC ?_⟩;rw [if_neg (by decide)];exact fin (aE.refl _) (by rw [decide_eq_false c,Bool.false_and])
theorem aIc {op:Int} {r:Int × List iZ} (h:cL op=some r):op≠28/\op≠43:=by
 constructor
 iterate 2
  ·intro e;subst e;cases h
theorem aIq {v:Y} {l:List Nat} {n:Nat} (hs:aA w v 1 l.length (hwC l)) (hl:∀ x∈l,x < 65536) (hd:KD l=some n) (hk:∀ t w',aE w w'->K (.tuple #[.agg (gN.cells t).toArray,i64 n,i64 0]) w'):aC prog 23 #[v] w K:=by
 apply bHk;unfold aAo;refine zA rM λw1 h2 x1=>?_;have h2:bO w1 w.heap.size [i64 0,i64 0,i64 0,i64 0,i64 0,i64 0] 83:=h2
 have fin:∀ {w':O} {t:gN},aE w1 w'->U prog (Instr.storeAt 83 (.pointer (some ⟨w.heap.size,0,none⟩)) (.agg t.cells.toArray)) w' λ_ w7=>
   ∃ r1,(loadVar 83 (match (Value.pointer (some ⟨w.heap.size,0,none⟩)) with|.pointer (some p)=>p|_=>⟨0,0,none⟩)).run prog w7=.ok r1 w7/\(∃ p,(Value.pointer (some ⟨w.heap.size,0,none⟩))=Value.pointer (some p))/\K (.tuple #[r1,i64 n,i64 0]) w7:=by
  intro w' t hx;refine yW rM (h2.ext hx) (l:=t.cells) rfl rfl rfl rfl λw7 h7 hc=>⟨_,nS underlying83 rfl rM h7 rfl,⟨_,rfl⟩,hk t w7 (hc.ext _ (x1.trans hx) (Nat.le_refl _))⟩
 match l,hs,hl,hd with
 | [],_,_,hd=>cases hd
 | h::tl,hs,hl,hd=>
 have hs1:=aA.ext hs x1;have hh:h < 65536:=hl h List.mem_cons_self;refine fQ tX hs1 (aH.2 (aB (λe=>absurd e (by simp<;>omega)) λ_=>?_));refine lV tX gJ hs1 (by omega) (by simp<;>omega) (u:=u16 (h:Int)) rfl ?_;unfold KD at hd;dsimp only at hd;refine AY (s:=11) rfl (by decide) (aH.2 (aB (λe=>?_) λe=>?_))
 ·rw [if_pos (Int.ofNat_inj.1 e)] at hd
  match tl,hs1,hl,hd with
  | [],_,_,hd=>cases hd
  | b::tl,hs1,hl,hd=>
  dsimp only at hd;have hb:b < 65536:=hl b (by simp);refine fQ tX hs1 (aW.2 (aB (λe=>absurd e (by simp<;>omega)) λ_=>?_));refine lV tX gJ hs1 (by omega) (by simp<;>omega) (u:=u16 (b:Int)) rfl ?_
  have hbb:b &&& 0xd000=0xd000:=by
   by_cases c:b &&& 0xd000=0xd000
   ·exact c
   ·rw [if_neg c] at hd;cases hd
  rw [if_pos hbb] at hd;cases hd;refine aBh (b:=0xd000) rfl hb (by decide) (cH.2 (aB (λe=>absurd (congrArg Int.ofNat hbb) e) λ_=>?_));refine lV tX gJ hs1 (by omega) (by simp<;>omega) (u:=u16 (b:Int)) rfl ?_;refine bJs λm=>?_;refine oD nZ [(0,i64 43),(4,i64 m)] rfl rfl ?_;exact fin (t:=⟨43,0,0,0,m,0⟩) (aE.refl _)
 rw [if_neg λq=>e (congrArg Int.ofNat q)] at hd;refine AY (s:=8) rfl (by decide) (aH.2 (aB (λe=>?_) λe=>?_))
 ·rw [if_pos (Int.ofNat_inj.1 e)] at hd
  have hm:bS (LX h)=true:=by
   by_cases c:bS (LX h)=true
   ·exact c
   ·rw [if_neg c] at hd;cases hd
  rw [if_pos hm] at hd;cases hd;have a1:=CO (s:=7) (n:=512) hh (by decide);have a2:=CO (s:=3) (n:=8192) hh (by decide);have b1:h >>> 7 &&& 1<=1:=Nat.and_le_right;have b2:h &&& 7<=7:=Nat.and_le_right;have b3:h >>> 3 &&& 15<=15:=Nat.and_le_right;have b4:(h >>> 7 &&& 1) <<< 3 < 4294967296:=by rw [Nat.shiftLeft_eq];omega
  refine AY (s:=7) rfl (by decide) (aBh (b:=1) rfl (by omega) (by decide) (SB (by omega) (aBf (s:=3) rfl rfl (by omega) (by decide) ?_)));refine aBh (b:=7) rfl hh (by decide) (SB (by omega) (vOr rfl rfl b4 (by omega) ?_));refine AY (s:=3) rfl (by decide) (aBh (b:=15) rfl (by omega) (by decide) (SB (by omega) ?_));refine oD nZ [(0,i64 28),(1,_),(3,_)] rfl rfl ?_;refine rX GJ rfl rfl λw2 h6 x2=>?_;have h6:aY w2 w1.heap.size (LX h).cells:=bO.boxed h6;refine iF h6 nI rfl (uD (i:=LX h) (λ_=>⟨rfl,rfl,rfl⟩) (λe=>by cases e) λw3 x3=>dC.2 ?_);rw [hm];refine aP.2 (iF (h6.ext x3) nI rfl ?_);exact fin (t:=LX h) (x2.trans x3)
 rw [if_neg λq=>e (congrArg Int.ofNat q)] at hd;refine bKz hh (TZ λfv w2 hv x2=>?_);cases hf:cL (opN h) with
 | none=>rw [hf] at hd;cases hd
 | some r=>
 obtain ⟨b,sl⟩:=r;rw [hf] at hd hv;dsimp only at hd;obtain ⟨sv,rfl,hsv⟩:=hv
 have hcond:(sl.foldl (sG h) (⟨opN h,0,0,0,0,0⟩,h)).2=b.toNat/\bS (sl.foldl (sG h) (⟨opN h,0,0,0,0,0⟩,h)).1=true:=by
  by_cases c:(sl.foldl (sG h) (⟨opN h,0,0,0,0,0⟩,h)).2=b.toNat/\bS (sl.foldl (sG h) (⟨opN h,0,0,0,0,0⟩,h)).1=true
  ·exact c
  ·rw [if_neg c] at hd;cases hd
 rw [if_pos hcond] at hd;cases hd;refine hU.2 (hO.2 ?_);refine rX SI rfl (aCe (nU hsv)) λw3 h7 x3=>bJ.2 ?_;have h7:aY w3 w2.heap.size [i64 (opN h),u16 b,sv]:=bO.boxed h7;refine iF h7 aHb rfl ?_;refine bBl hf (aIc hf) (aA.of_own (x3.own hsv)) hh λx w4 hx x4=>?_;rw [hx,decide_eq_true hcond.1,hcond.2,<- hx];refine hU.2 (hO.2 ?_);refine rX GJ rfl rfl λw5 h9 x5=>bJ.2 ?_;have h9:aY w5 w4.heap.size x.1.cells:=bO.boxed h9;refine iF h9 nI rfl ?_;exact fin (t:=x.1) ((x2.trans x3).trans (x4.trans x5))
end Go.Proofs.YtjcmcfidblhnnaaGreatDoor
namespace Go.Proofs.YtjcmcfidblhnnaaGreatDoor
open Tryz
open Go.Vc Go.Tc
variable {w:O} {K:Y->O->Prop}
theorem vQ.inv {l:List Nat} (h:vQ l) (hl:0 < l.length):∃ n,KD l=some n/\1<=n/\n<=l.length/\vQ (l.drop n):=by
 cases h with
 | nil=>simp at hl
 | cons h h1 h2 t=>exact ⟨_,h,h1,h2,t⟩
theorem IG.b {i:iK} {k:Nat} {ap s:Int} {st:Tc.St} {r:List Bool} {of:List Int} {f:List Nat} (h:IG i k ap st r of s f):0<=s/\s<=40:=⟨h.gd.s0,h.gd.s1⟩
theorem bJr {n a b e ap0 at0:Int} {rv:Y} {rl:List Rw} (hr:kL w rv rl) (hb:wU w) (hT:tV w) (rn:rl.length<=5000000000000) :
  aC prog 6 #[i64 n,rv,i64 a,i64 b,i64 e,i64 ap0,i64 at0] w λv w'=>v=.bool true/\aE w w':=by
 apply bKd;suffices key:∀ R:Y->O->Prop,(∀ w',aE w w'->R (.bool true) w')->UX (i64 n) rv (i64 a) (i64 b) (i64 e) (i64 ap0) (i64 at0) w R from key _ λ_ hx=>⟨rfl,hx⟩;intro R hR;unfold UX;refine bLj hr hb hT rn λp i w2 hst hc7 x2=>?_;refine eJ (by decide) (by decide) λ_ _ _=>eJ (by decide) (by decide) λ_ _ _=>?_;refine bJv hst (hT.ext x2) x2.size hc7 λp i w3 hst3 x3=>?_;have x03:=x2.trans x3;have hA3:=hst3.now (hT.ext x03);refine wV aZt rfl hA3.one λb4 w4 hb4 x4=>?_;have hb4:aY w4 b4 (p.cells i):=hb4;have x04:=x03.trans x4;have hA4:=hA3.ext x4;refine iF hb4 lM rfl ?_;refine aEd (p:=p) (i:=i) hA4.at_ hA4.nm λa b er w5 he x5=>?_;refine hU.2 (hO.2 ?_);refine wV aEr rfl rfl λb6 w6 _ x6=>?_;have x46:=x5.trans x6;have x06:=x04.trans x46;have hA6:=hA4.ext x46;have hb6:=hb4.ext x46;have ml:i.methods.length=3:=hA6.ml;refine eJ (by decide) (by decide) λq hq0 hq1=>oS.2 ?_;rw [aM (by omega)];refine ⟨λt k w'=>∃ j:Nat,k=i64 j/\j<=i.methods.length/\t=i64 (rG (i.methods.take j):Nat)/\aE w6 w',λ_ k _=>i.methods.length - (RowKit.intOf k).toNat,⟨0,rfl,Nat.zero_le _,rfl,aE.refl _⟩,?_⟩;rintro _ _ w7 ⟨j,rfl,hj,rfl,x7⟩ _;have hA7:=hA6.ext x7;have hb7:=hb6.ext x7;refine bC hb7 bP dE rfl (yY gO hA7.at_.mt (aW.2 (aB (λhlt=>?_) λhge=>?_)))
 ·obtain ⟨m,hm⟩:=bE (l:=i.methods) (j:=j) (by omega);have hc:=hA6.cl m (List.mem_of_getElem? hm);have hbj:=vI hA6.cl j;refine bA.2 (bC hb7 bP dE rfl ?_);refine oT gO cG iM hA7.at_.mt hm λrow ⟨pv,lv,cv,hrow,_,_,hcv⟩=>⟨cv,by rw [hrow];rfl,by decide,?_⟩;refine fQ jY hcv (oS.2 (bA.2 (bA.2 ?_)));rw [show IntKind.i64.wrap (96*(m.code.length:Int))=96*m.code.length from aM (by omega),show IntKind.i64.wrap (((rG (i.methods.take j):Nat):Int)+512)=(rG (i.methods.take j):Nat)+512 from aM (by omega),aM (by omega),aM (by omega),bK];exact ⟨⟨j+1,rfl,by omega,by rw [vH hm];congr 1;omega,x7⟩,by simp only [aL];omega⟩
 obtain rfl:j=i.methods.length:=by omega
 rw [List.take_length];have hbn:=vI hA6.cl i.methods.length;rw [List.take_length] at hbn;have D7:aE w7 w7.drew:=(aE.refl _).drew;have hA8:=hA7.ext D7;have hb8:=hb7.ext D7;have x08:=x06.trans (x7.trans D7);clear hge hj;refine aK.mk' (λw'=>aE w7.drew w') (aE.refl _) ?_;refine yA (λw' hx=>hb8.ext hx) lM rfl ?_;refine eJ (by decide) (by decide) λap hp0 hp1=>⟨aE.refl _,?_⟩;have kn:∀ {w':O} {K':Y->O->Prop},aE w7.drew w'->(∀ w'',aE w' w''->K' (.bool true) w'')->aC prog 15 #[] w' K':=λhx hk'=>aQl (hT.ext (x08.trans hx)) hk';have nil0:∀ {w':O},aA w' aX 4 0 []:=aA.nil _ _;refine HS (p:=p) (i:=i) (ap:=ap) (a0:=4*q) hA8.at_ hA8.nm hA8.rg ⟨hp0,hp1⟩ ⟨by omega,by omega⟩ (by omega) (λw9 hnt x9=>⟨x9,?_⟩) (λw9 ht hbig x9=>⟨x9,?_⟩) λva la w9 ht hfit hla hlal hoka x9=>⟨x9,?_⟩
 ·refine aD.ok (λ_ _=>BN) (aD.ok (λ_ _=>BM) (aD.ok (λ_ _=>BL) ?_));refine kn x9 λw10 x10=>dC.2 ?_;have hne:er≠0:=λh=>hnt (he.1 h);simp only [hne,aR,Int.reduceEq];refine kn (x9.trans x10) λw11 x11=>?_;simp only [aR];refine fQ oW nil0 (aH.2 ?_);simp only [show ((0:Nat):Int)=0 from rfl,decide_true];exact hR _ (x08.trans ((x9.trans x10).trans x11))
 ·refine aD.ok (λ_ _=>BN) (aD.ok (λ_ _=>BM) (aD.ok (λ_ _=>BL) ?_));refine kn x9 λw10 x10=>dC.2 ?_;have hez:er=0:=he.2 ht;subst hez;simp only [aR,Int.reduceEq];have x9A:=x9.trans x10;refine iF (hb8.ext x9A) lM rfl (BW (p:=p) (i:=i) (hA8.ext x9A).at_ ht λw11 x11=>?_);refine cH.2 ?_;simp only [aR,Int.reduceEq];refine bA.2 (rH.2 ?_);rw [aM (by omega)];simp only [hbig,decide_false];refine V.ok (uY underlying4) ?_;simp only [bne_self_eq_false,aR,Int.reduceEq];refine fQ oW nil0 (aH.2 ?_);simp only [show ((0:Nat):Int)=0 from rfl,aR];exact hR _ (x08.trans (x9A.trans x11))
 refine aD.ok (λ_ _=>BN) (aD.ok (λ_ _=>BM) (aD.ok (λ_ _=>BL) ?_));refine kn x9 λw10 x10=>dC.2 ?_;have hez:er=0:=he.2 ht;subst hez;simp only [aR];have x9A:=x9.trans x10;refine iF (hb8.ext x9A) lM rfl (BW (p:=p) (i:=i) (hA8.ext x9A).at_ ht λw11 x11=>?_);refine cH.2 ?_;simp only [aR];refine bA.2 (rH.2 ?_);rw [aM (by omega)];simp only [hfit,decide_true];refine V.ok (uY underlying4) ?_;simp only [bne_self_eq_false,aR];have x8B:=x9A.trans x11;have hlaB:=hla.ext (x10.trans x11);have hec:=λj hj=>UC ht hoka (by omega) j hj;refine ⟨λt k w'=>∃ (j:Nat) (z:Int),k=i64 j/\j<=la.length/\t=i64 z/\z<=mI (4*q) (la.take j)/\mI (4*q) (la.take j) < z+4/\aE w11 w',λ_ k _=>la.length - (RowKit.intOf k).toNat,⟨0,4*q,rfl,Nat.zero_le _,rfl,by simp [mI],by simp [mI];omega,aE.refl _⟩,?_⟩;rintro _ _ w12 ⟨j,z,rfl,hj,rfl,hz1,hz2,x12⟩ _;have hlaC:=hlaB.ext x12;obtain ⟨g1,g2,g3⟩:=hec j hj;have g3:=g3 (by omega);have hbm:=HU i.methods j;refine yY oW hlaC (aW.2 (aB (λhlt=>?_) λhge=>?_))
 case refine_2=>
  obtain rfl:j=la.length:=by omega
  rw [List.take_length] at g1 g2 g3 hz1 hz2;refine yY oW hlaC (bC (hb8.ext (x8B.trans x12)) bP dE rfl (yY gO (hA8.ext (x8B.trans x12)).at_.mt (aH.2 ?_)));rw [show decide ((la.length:Int)=i.methods.length)=true from decide_eq_true (by omega)];simp only [aR];refine (NI (by decide)).2 (aH.2 ?_);rw [Int.tmod_eq_emod_of_nonneg (by omega),decide_eq_true g3];simp only [aR];rw [show decide (mI (4*q) la>=z)=true from decide_eq_true hz1];simp only [aR];refine bA.2 (aW.2 ?_);rw [aM (by omega),show decide (mI (4*q) la < z+4)=true from decide_eq_true hz2];simp only [aR];refine bA.2 (rH.2 ?_);rw [aM (by omega),show decide (mI (4*q) la<=4*q+((rG i.methods:Nat):Int))=true from decide_eq_true (by omega)];exact hR _ (x08.trans (x8B.trans x12))
 obtain ⟨x,hxj⟩:=bE (l:=la) (j:=j) (by omega);obtain ⟨hat,hcd⟩:=hoka j x hxj;have hjm:j < i.methods.length:=by omega
 obtain ⟨hrd,h65,htop⟩:=hcd.fits ht hjm;obtain ⟨st,r,of,s,f,hcK,hfr,hhw,_⟩:=hcd;have hne:=hcK.ne ht hjm;rw [<- hhw] at hne;obtain ⟨s0,s1⟩:=hcK.b;have hmi:=fY (i:=i) (a:=(j:Int)) (by omega) (by omega);rw [Int.toNat_natCast] at hmi;have hcl:=sC ht _ (List.mem_of_getElem? hmi);refine oT oW nN aG hlaC hxj λrow hrow=>⟨i64 x.at_,by rw [hrow.1];rfl,by decide,?_⟩;refine (NI (by decide)).2 (cH.2 ?_);rw [show decide (x.at_.tmod 4≠0)=false from decide_eq_false λh=>h (by rw [hat,Int.tmod_eq_emod_of_nonneg (by omega)];exact g3)];simp only [aR];refine oT oW nN aG hlaC hxj λrow hrow=>⟨i64 x.at_,by rw [hrow.1];rfl,by decide,?_⟩;refine aW.2 ?_;rw [show decide (x.at_ < z)=false from decide_eq_false (by omega)];simp only [aR];refine oT oW lS DP hlaC hxj λrow hrow=>⟨x.hv,by rw [hrow.1];rfl,by decide,?_⟩;refine fQ tX hrow.2.1 (aH.2 ?_);rw [show decide ((x.hw.length:Int)=0)=false from decide_eq_false (by omega)];simp only [aR];refine oT oW oP aG hlaC hxj λrow hrow=>⟨i64 x.fr,by rw [hrow.1];rfl,by decide,?_⟩;refine (NI (by decide)).2 (cH.2 ?_);rw [show decide (x.fr.tmod 4≠0)=false from decide_eq_false λh=>h (by rw [hfr,Int.tmod_eq_emod_of_nonneg (by omega)];omega)];simp only [aR];refine oT oW oP aG hlaC hxj λrow hrow=>⟨i64 x.fr,by rw [hrow.1];rfl,by decide,?_⟩;refine aW.2 ?_
 rw [show decide (x.fr < 0)=false from decide_eq_false (by omega)];simp only [aR];refine oT oW oP aG hlaC hxj λrow hrow=>⟨i64 x.fr,by rw [hrow.1];rfl,by decide,?_⟩;refine iH.2 ?_;rw [show decide (x.fr > 160)=false from decide_eq_false (by omega)];refine aP.2 ?_;refine ⟨λk w'=>∃ c:Nat,k=i64 c/\c<=x.hw.length/\vQ (x.hw.drop c)/\aE w12 w',λk _=>x.hw.length - (RowKit.intOf k).toNat,⟨0,rfl,Nat.zero_le _,hrd,aE.refl _⟩,?_⟩;rintro _ w13 ⟨c,rfl,hc,hrc,x13⟩ _;have hlaD:=hlaC.ext x13;refine oT oW lS DP hlaD hxj λrow hrow=>⟨x.hv,by rw [hrow.1];rfl,by decide,?_⟩;refine fQ tX hrow.2.1 (aW.2 (aB (λhlt2=>?_) λhge2=>?_))
 ·refine oT oW lS DP hlaD hxj λrow hrow=>⟨x.hv,by rw [hrow.1];rfl,by decide,?_⟩;obtain ⟨v',h1,h2⟩:=aFg underlying59 DY hrow.2.1 (lo:=some (i64 (c:Int))) (hi':=none) (a:=c) (b:=x.hw.length) (.inr rfl) (.inl ⟨rfl,rfl⟩) hc (Nat.le_refl _);refine V.ok (h1 _) ?_;have hsl:=h2 w13 hrow.2.1
  have ec:((hwC x.hw).drop (c*1)).take ((x.hw.length - c)*1)=hwC (x.hw.drop c):=by
   rw [Nat.mul_one,Nat.mul_one,List.take_of_length_le (by unfold hwC;simp)];unfold hwC;rw [List.map_drop]
  rw [ec,<- List.length_drop] at hsl;obtain ⟨n1,hd,n2,n3,hrn⟩:=hrc.inv (by rw [List.length_drop];omega);rw [List.length_drop] at n3;refine aIq hsl (λq hq=>h65 q (List.mem_of_mem_drop hq)) hd λt w14 x14=>?_;refine CC.2 (CB.2 (CA.2 ?_));refine wV GJ rfl rfl λb15 w15 _ x15=>cH.2 ?_;rw [show decide ((0:Int)≠0)=false from rfl];simp only [aR];rw [show decide ((n1:Int) < 1)=false from decide_eq_false (by omega)];refine aP.2 (bA.2 ?_);rw [aM (by omega)];refine ⟨⟨c+n1,by push_cast;rfl,by omega,by rw [<- List.drop_drop];exact hrn,x13.trans (x14.trans x15)⟩,by simp only [aL];omega⟩
 ·have D:aE w13 w13.drew:=(aE.refl _).drew;have hlaE:=hlaD.ext D;refine aK.mk' (λw'=>aE w13.drew w') (aE.refl _) ?_;refine aZk oW nN aG hlaE (λ_ h=>h) hxj λrow hrow=>⟨i64 x.at_,by rw [hrow.1];rfl,by decide,?_⟩;refine aZk oW lS DP hlaE (λ_ h=>h) hxj λrow hrow=>⟨x.hv,by rw [hrow.1];rfl,by decide,?_⟩;refine sS tX hrow.2.1 ?_;refine aD.ok (v:=i64 (2*(x.hw.length:Int))) (λ_ _=>aFl.trans (by rw [aM (by omega)])) ?_;refine aD.ok (v:=i64 (x.at_+2*(x.hw.length:Int))) (λ_ _=>DD.trans (by rw [aM (by omega)])) (bA.2 ?_);rw [aM (by omega),bK];have et:la.take (j+1)=la.take j++[x]:=by rw [List.take_add_one,hxj];rfl
  have hu:=IM (mI (4*q) (la.take j)) x.hw.length;refine ⟨⟨j+1,_,rfl,by omega,rfl,?_,?_,x12.trans (x13.trans D)⟩,by simp only [aL];omega⟩
  iterate 2
   ·rw [et,zV,hat];omega
end Go.Proofs.YtjcmcfidblhnnaaGreatDoor
namespace Go.Vc
open Go.ChangeShapes Go.WideShapes Go.ChangeAt Go.RowKit
variable {H:Type} {enc:TypeId × Y->H} {P:Program}
theorem LO {f:Func} {s:ChangeSpec} {apart fresh handsOn again:Bool} {W W':O} {args:Array Y} {v:Y} {ds gs:List (DataW H)} {pa pv:List MemPlace}
  (hW:DataW.Whole enc P f.params.toList s.vars apart W args.toList ds gs (pa++pv)) (hx:aE W W')
  (hr:∀ b sp hd,DataW.TrodAll enc P W' b sp hd f.resultTypes.toList (v.resultList f.resultTypes.size) (s.fn H (ds++gs)).results [])
  (ha:∀ sp:Nat->Bool,(∀ p∈pa++pv,sp p.block=true)->DataW.TrodAll enc P W' 0 sp true f.params.toList args.toList (s.fn H (ds++gs)).args pa)
  (hv:∀ sp:Nat->Bool,(∀ p∈pa++pv,sp p.block=true)->DataW.TrodVars enc P W' sp s.vars (s.fn H (ds++gs)).vars pv)
  (hok:∀ (j:Nat) (t:TypeId) (r:Y),f.resultTypes[j]?=some t->(v.resultList f.resultTypes.size)[j]?=some r->Value.okWide P W' .any 0 t r) :
  s.post enc P f apart fresh handsOn again W args v W':=by
 have hlt:=hW.lt;have hall:∀ p∈pa++pv,(λb=>decide (b < W.heap.size)) p.block=true:=λp hp=>decide_eq_true (hlt p hp);have hk:=hx.below.frame (·∈pa++pv)
 refine ⟨ds,gs,pa++pv,[],pa,pv,hW,hr _ _ _,ha _ hall,hv _ hall,World.keptBut_mono (λp hp=>⟨hp,.inr (by simpa using hp)⟩) hk,λ_=>?_⟩;obtain ⟨_,_,_,_,_,hz,hn⟩:=hW;have h2:=trodAll_append (ha (λ_=>true) λ_ _=>rfl) (hr 0 (λ_=>true) true);refine ⟨hok,_,_,pa++pv,⟨pa,pv,(by simpa using h2),hv _ λ_ _=>rfl,rfl,λb off hp=>?_,hn⟩,λp hp _=>hp⟩;rw [hx.below.frozen (hlt _ hp)];exact hz b off hp
theorem IB (hl:laidOutB P=true) {W W':O} (hx:aE W W') {sp:Nat->Bool}:∀ {ts:List TypeId} {vs:List Y} {ds:List (DataW H)} {p:List MemPlace},(ts.all λt=>P.readableRec t&&decide (t < P.types.size))=true ->
  DataW.TrodAll enc P W 0 (λ_=>true) true ts vs ds p->(∀ x∈p,x.block < W.heap.size)->(∀ x∈p,sp x.block=true)->DataW.TrodAll enc P W' 0 sp true ts vs ds p
 | [],vs,ds,p,_,h,_,_=>by
  obtain ⟨rfl,rfl,rfl⟩:=trodAll_nil h;exact trodAll_mk0
 | t::ts,vs,ds,p,hr,h,hlt,hs=>by
  simp only [List.all_cons,Bool.and_eq_true,decide_eq_true_eq] at hr;obtain ⟨v,vs',d,ds',p1,p2,rfl,rfl,rfl,h1,h2⟩:=trodAll_cons h
  exact trodAll_cons_mk (WideElems.Trod_stays hl hr.1.1 hr.1.2 h1 (λx hx'=>hx.below.same (hlt x (by simp [hx']))) λx hx'=>hs x (by simp [hx']))
   (IB hl hx (by simpa using hr.2) h2 (λx hx'=>hlt x (by simp [hx'])) λx hx'=>hs x (by simp [hx']))
end Go.Vc
namespace Go.Vc
open Go.ChangeShapes
variable {P:Program} {W:O} {x:String} {ds:List (DataW Unit)} {i m:Nat} {k:IntKind} {laid:List (String × DataW Unit)} {ps:List MemPlace}
theorem zQ {P:Program} {W:O} {x:String} {ds:List (DataW Unit)} {g t e m:Nat} (hg:P.globalNamed x=some g) (ht:(P.globals[g]?).map (·.type)=some t) (hu:P.underlying t=some (.array m e)) {i:Nat} (hi:i < m) :
  ∀ {laid:List (String × DataW Unit)} {ps:List MemPlace},DataW.LaidVars P W laid ps->(x,.agg ds)∈laid->∃ (fuel:Nat) (q:List MemPlace) (cs:List Y) (d:DataW Unit),ds[i]?=some d/\DataW.trod (λ_=>()) P W 0 (λ_=>true) false fuel e ((cs.drop (i*P.cellsOf e)).take (P.cellsOf e))=some (d,q)/\∀ j:Nat,W.cell? ⟨g,j,none⟩=cs[j]?
 | [],_,_,hm=>by cases hm
 | (n',d')::r,ps,h,hm=>by
  obtain ⟨g',t',cs,fuel,p,q,h1,h2,h3,h4,h5,_⟩:=h;rcases List.mem_cons.1 hm with e1|e1
  ·cases e1;obtain rfl:=Option.some.inj (hg.symm.trans h1);obtain rfl:=Option.some.inj (ht.symm.trans h2);obtain ⟨xs,m',_,ex,_,hxl,hel⟩:=DataW.trod_array hu h4;have hE:=hel i hi;rw [List.getElem?_eq_getElem (by omega)] at hE;refine ⟨m',(xs[i]'(by omega)).2,cs.toList,(xs[i]'(by omega)).1,?_,hE,λj=>by rw [World.var?_cell hg h3 j,<- Array.getElem?_toList]⟩;have:ds=xs.map (·.1):=by have:=congrArg Prod.fst ex;simpa using this
   rw [this,List.getElem?_map,List.getElem?_eq_getElem (by omega)];rfl
  ·exact zQ hg ht hu hi h5 e1
theorem MD {g t e:Nat} (hg:P.globalNamed x=some g) (ht:(P.globals[g]?).map (·.type)=some t) (hu:P.underlying t=some (.array m e)) (he:P.underlying e=some (.int k)) (c1:P.cellsOf e=1)
  (h:DataW.LaidVars P W laid ps) (hm:(x,.agg ds)∈laid) (hi:i < m):∃ z,ds[i]?=some (.lit (.int k z))/\W.cell? ⟨g,i,none⟩=some (.int k z):=by
 obtain ⟨fuel,q,cs,d,h1,h2,h3⟩:=zQ hg ht hu hi h hm;rw [c1,Nat.mul_one] at h2;obtain ⟨z,e1,e2,_⟩:=DataW.trod_int he h2;cases e2;refine ⟨z,h1,?_⟩;rw [h3 i];have h0:((cs.drop i).take 1)[0]?=some (.int k z):=by rw [e1];rfl
 simpa using h0
theorem ME {g t e c f o u:Nat} {fs:Array Field} (hg:P.globalNamed x=some g) (ht:(P.globals[g]?).map (·.type)=some t) (hu:P.underlying t=some (.array m e)) (he:P.underlying e=some (.struct fs)) (hc:P.cellsOf e=c)
  (hf:(fs[f]?).map (λy=>(y.type,y.offset))=some (u,o)) (hk:P.underlying u=some (.int k)) (c1:P.cellsOf u=1) (ho:o < c)
  (h:DataW.LaidVars P W laid ps) (hm:(x,.agg ds)∈laid) (hi:i < m):∃ l z,ds[i]?=some (.agg l)/\l[f]?=some (.lit (.int k z))/\W.cell? ⟨g,i*c+o,none⟩=some (.int k z):=by
 obtain ⟨fuel,q,cs,d,h1,h2,h3⟩:=zQ hg ht hu hi h hm;rw [hc] at h2;obtain ⟨xs,n,_,ex,_,hxl,hel⟩:=DataW.trod_struct he h2;obtain ⟨fd,hfd,hfe⟩:=Option.map_eq_some_iff.1 hf;have h4:=hel f fd hfd;have hlt:f < fs.size:=(Array.getElem?_eq_some_iff.1 hfd).1;simp only [Prod.mk.injEq] at hfe;obtain ⟨rfl,rfl⟩:=hfe;rw [c1,List.getElem?_eq_getElem (by omega)] at h4;obtain ⟨z,e1,e2,_⟩:=DataW.trod_int hk h4;have e3:d=.agg (xs.map (·.1)):=congrArg Prod.fst ex
 refine ⟨_,z,by rw [h1,e3],by rw [List.getElem?_map,List.getElem?_eq_getElem (by omega)];simp [e2],?_⟩;rw [h3];have h0:((((cs.drop (i*c)).take c).drop fd.offset).take 1)[0]?=some (.int k z):=by rw [e1];rfl
 simpa [List.getElem?_take,List.getElem?_drop,ho] using h0
end Go.Vc
