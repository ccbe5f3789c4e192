/- Package asm: the code of a load, of a jump; whether all is right. -/
import Derived.Test.YtjcmcfidblhnnaaGreatDoorTh
import Derived.Test.YtjcmcfidblhnnaaGreatDoorTb
import Derived.WalkKit
import Derived.ProofKit
import Derived.OpenShut
import Derived.WideKeyArgs
import Derived.ChangeArms
import Derived.FnData
set_option maxHeartbeats 8000000
namespace Go.Proofs.YtjcmcfidblhnnaaGreatDoor
open Tryz
open Go.Vc
variable {w:O} {K:Y->O->Prop}
variable {B f k:Nat} {a:Int}
def IX (l:List iL):List Y:=l.flatMap iL.cells
theorem iL.len (i:iL):i.cells.length=6:=rfl
theorem aQb (i:iL):i.cells.all bX=true:=rfl
def gU (w:O) (B:Nat) (v:Y) (l:List iL):Prop:=w.ownsRow B 83 6 v l.length (IX l)
theorem BW {l:List iL} {j:Nat} {x:iL} (h:l[j]?=some x):((IX l).drop (((j:Int)).toNat*6)).take 6=x.cells:=by
 rw [Int.toNat_natCast];exact zB iL.len h
theorem aFp (l:List iL):(IX l).all bX=true:=by
 induction l with
 | nil=>rfl
 | cons x l ih=>
  have e:IX (x::l)=x.cells++IX l:=rfl;rw [e,List.all_append,ih,aQb];rfl
theorem TY {i:iL} {v:Y} (hv:v=.agg i.cells.toArray) (hk:∀ u w1,gU w1 w.heap.size u [i]->aG w w1->K u w1):V prog (Instr.buildSlice 230 1 #[(0,v)]) w K:=by
 subst hv;refine xM underlying230 BL rfl (by decide) [.agg i.cells.toArray] rfl rfl (by intro v hv;rw [List.mem_singleton] at hv;subst hv;rfl) (by decide) (by decide) λuv w1 ho1 x1=>?_;exact hk uv w1 ho1 x1
theorem bGc {l m:List iL} {v u:Y} {B':Nat} (h:gU w B v l) (hu:gU w B' u m) (hl:l.length+m.length<=1000) (hB:B<=w.heap.size) (hk:∀ v' w',gU w' B v' (l++m)->(∀ w0,aG w0 w->w0.heap.size<=B->aG w0 w')->K v' w'):V prog (Builtin.append_ #[230,230] 230 #[v,u]) w K:=by
 refine apG underlying230 BL rfl (by decide) h (aA.of_own hu) (aFp m) (by omega) (by unfold maxLen;omega) hB λv' w' ho hg _=>hk v' w' ?_ λw0 hx h0=>hx.grown hg λk hk=>by have:=(h.lt k hk).1;omega
 have e:IX l++IX m=IX (l++m):=by simp [IX]
 rw [e] at ho;unfold gU;rw [List.length_append];exact ho
theorem gU.ext {w':O} {v:Y} {l:List iL} (h:gU w B v l) (hx:aG w w'):gU w' B v l:=hx.own h
theorem WK {i:iL} (hk:∀ w',aG w w'->K (i64 ((i.size:Nat):Int)) w'):aB prog 213 #[.agg i.cells.toArray] w K:=by
 apply aWe;unfold OX;refine bx λb w1 hb x1=>?_;have hb:bF w1 b i.cells:=hb;have:=hk w1 x1;unfold iL.size at this;refine aV hb mU aE rfl (aJ.2 (aC (λe=>?_) λe=>?_))
 ·rw [if_pos e] at this;exact this
 ·rw [if_neg e] at this;exact this
def KF (c:Int):List Int:=if c=14 then [2,4] else [2,4,6]
theorem aJc {c:Int} (hk:∀ v w',aO w' v (KF c)->aG w w'->K v w'):aB prog 216 #[i64 c] w K:=by
 apply aWb;unfold OU;unfold KF at hk;refine aJ.2 (aC (λe=>?_) λe=>?_)
 ·rw [if_pos e] at hk;exact jG bB [i64 2,i64 4] rfl rfl (by simp) rfl λv w1 ho x1=>hk v w1 (aA.of_own ho) x1
 ·rw [if_neg e] at hk;exact jG bB [i64 2,i64 4,i64 6] rfl rfl (by simp) rfl λv w1 ho x1=>hk v w1 (aA.of_own ho) x1
theorem LG (n:Int):IntKind.u32.wrap n=n % 4294967296:=by
 unfold IntKind.wrap;simp only [show IntKind.u32.bits=32 from rfl,show IntKind.u32.signed=false from rfl,Bool.false_and,Bool.false_eq_true,if_false];rfl
theorem bCv {u:Int} (k:Nat) (hk:k<=3):u.fdiv (2 ^ (min (((8*k:Nat):Int)).toNat IntKind.u32.bits))=u / 256 ^ k:=by
 have:k=0\/k=1\/k=2\/k=3:=by omega
 rcases this with rfl|rfl|rfl|rfl<;>exact Int.fdiv_eq_ediv_of_nonneg _ (by decide)
theorem bGf (h0:0<=a) (h1:a < 4294967296):IntKind.u32.wrap (((BitVec.ofInt IntKind.u32.bits a &&& BitVec.ofInt IntKind.u32.bits 255).toNat:Nat):Int)=a % 256:=by
 obtain ⟨n,rfl⟩:=kX h0;have e1:(BitVec.ofInt 32 (n:Int)).toNat=n:=by rw [BitVec.toNat_ofInt];omega
 have e2:(BitVec.ofInt 32 255).toNat=2 ^ 8 - 1:=by decide
 rw [show IntKind.u32.bits=32 from rfl,BitVec.toNat_and,e1,e2,Nat.and_two_pow_sub_one_eq_mod,LG];omega
theorem aIx {u:Int} (hk:k<=3) (hz:∀ j,k < j->j<=3->u / 256 ^ j=0) (hn:k=0\/u / 256 ^ k≠0):tF u=k:=by
 unfold tF;have z3:=hz 3;have z2:=hz 2;have z1:=hz 1;have:k=0\/k=1\/k=2\/k=3:=by omega
 rcases this with rfl|rfl|rfl|rfl
 ·rw [if_neg (by have:=z3 (by decide) (by decide);simpa using this),if_neg (by have:=z2 (by decide) (by decide);simpa using this),if_neg (by have:=z1 (by decide) (by decide);simpa using this)]
 ·rw [if_neg (by have:=z3 (by decide) (by decide);simpa using this),if_neg (by have:=z2 (by decide) (by decide);simpa using this),if_pos (by simpa using hn)]
 ·rw [if_neg (by have:=z3 (by decide) (by decide);simpa using this),if_pos (by simpa using hn)]
 ·rw [if_pos (by simpa using hn)]
theorem aSk {u:Int} (h0:0<=u) (h1:u < 4294967296) (k:Nat):0<=u / 256 ^ k/\u / 256 ^ k < 4294967296:=by
 have hp:(0:Int) < 256 ^ k:=Int.pow_pos (by decide);exact ⟨Int.ediv_nonneg h0 (Int.le_of_lt hp),Int.lt_of_le_of_lt (Int.ediv_le_self _ h0) h1⟩
theorem bCw {u:Int} {A B:O->Prop} (hk:k<=3) (h1:k≠0/\u / 256 ^ k=0->A w) (h2:k=0\/u / 256 ^ k≠0->B w) {x y:Operand} :
  V prog (binOp .gtr 3 (i64 ((8*k:Nat):Int)) (i64 0)) w λt12 w3=>gd t12 true (λK=>K (.int .u32 u) w3) w3 λt14 w4=>gd t12 true (λK=>K (i64 ((8*k:Nat):Int)) w4) w4 λt15 w5=>gd t12 true (λK=>V prog (binOp .shr 264 t14 t15) w5 K) w5 λt16 w6=>
   gd t12 true (λK=>V prog (do eqGuard .eql 264 x y t16 (.int .u32 0);binOp .eql 264 t16 (.int .u32 0)) w6 K) w6 λt17 w7=>aH t12 t17 (.bool false) λt18=>aI t18 (A w7) (B w7):=by
 refine jF.2 ?_;by_cases h0:k=0
 ·rw [decide_eq_false (by omega)];simp only [lY,bA,Bool.false_eq_true,reduceIte,aM];exact h2 (.inl h0)
 ·rw [decide_eq_true (by omega)];refine mD.2 (mD.2 (mD.2 (V.ok (vY (by omega)) (mD.2 (aJ.2 (jL ?_))))));rw [if_pos rfl,bCv k hk];exact aC (λh=>h1 ⟨h0,h⟩) λh=>h2 (.inr h)
theorem aRm {reg n:Int} (hk:∀ v w',gU w' w.heap.size v (tC reg n)->aG w w'->K v w'):aB prog 121 #[i64 reg,i32 n] w K:=by
 apply aZx;unfold SI;refine V.ok (lU underlying21 underlying264) ?_;rw [LG];have hu0:0<=n % 4294967296:=Int.emod_nonneg _ (by decide);have hu1:n % 4294967296 < 4294967296:=Int.emod_lt_of_pos _ (by decide);have hK:tC reg n=⟨8,reg,0,0,n % 4294967296 / 256 ^ tF (n % 4294967296),0⟩::qW reg (n % 4294967296) (tF (n % 4294967296)):=rfl;rw [hK] at hk;generalize n % 4294967296=u at *;refine ⟨λv w'=>∃ k:Nat,v=i64 ((8*k:Nat):Int)/\k<=3/\w'=w/\∀ j,k < j->j<=3->u / 256 ^ j=0,λv _=>(RowKit.intOf v).toNat,⟨3,rfl,by decide,rfl,λj h1 h2=>by omega⟩,?_⟩;rintro _ w1 ⟨k,rfl,hk3,rfl,hz⟩ _;refine bCw hk3 (λh=>?_) λh=>?_
 ·obtain ⟨k,rfl⟩:∃ j,k=j+1:=⟨k - 1,by omega⟩;refine fT.2 ?_;rw [aQ (by omega),show ((8*(k+1):Nat):Int) - 8=((8*k:Nat):Int) from by omega];refine ⟨⟨k,rfl,by omega,rfl,λj h1 h2=>?_⟩,by simp only [aK];omega⟩;by_cases hj:j=k+1
  ·subst hj;exact h.2
  ·exact hz j (by omega) h2
 have hh:=aIx hk3 hz h;rw [hh] at hk;clear hh h hz hK;have hr:=aSk hu0 hu1;refine V.ok (vY (by omega)) ?_;rw [bCv k hk3];refine V.ok (lU underlying264 underlying3) ?_;have hrk:=hr k;rw [aQ (by omega)];refine lF qN [(0,i64 8),(1,i64 reg),(4,i64 (u / 256 ^ k))] rfl rfl ?_;refine TY (i:=⟨8,reg,0,0,u / 256 ^ k,0⟩) rfl λv1 w2 ho x1=>?_;refine ⟨λs v w'=>∃ (j:Nat) (acc:List iL),s=i64 ((8*j:Nat):Int)/\j<=3/\gU w' w1.heap.size v acc/\acc++qW reg u j=⟨8,reg,0,0,u / 256 ^ k,0⟩::qW reg u k/\acc.length+2*j<=7/\aG w1 w',λs _ _=>(RowKit.intOf s).toNat,⟨k,_,rfl,hk3,ho,rfl,by simp;omega,x1⟩,?_⟩;rintro _ v w3 ⟨j,acc,rfl,hj3,hv,hacc,hal,x3⟩ _;refine jF.2 (aC (λhpos=>?_) λhz=>?_)
 ·obtain ⟨j,rfl⟩:∃ q,j=q+1:=⟨j - 1,by omega⟩;have hrj:=hr j;refine fT.2 ?_;rw [aQ (by omega),show ((8*(j+1):Nat):Int) - 8=((8*j:Nat):Int) from by omega];refine lF qN [(0,i64 1),(1,i64 reg),(3,i64 reg),(4,i64 8)] rfl rfl ?_;refine TY (i:=⟨1,reg,0,reg,8,0⟩) rfl λv4 w4 ho4 x4=>?_;have s3:=x3.size;have s4:=x4.size;refine bGc (hv.ext x4) ho4 (by simp;omega) (by omega) λv5 w5 ho5 e5=>?_;have x5:aG w1 w5:=e5 w1 (x3.trans x4) (Nat.le_refl _);refine V.ok (vY (by omega)) ?_;rw [bCv j (by omega)];refine V.ok DN ?_;rw [bGf hrj.1 hrj.2];refine V.ok (lU underlying264 underlying3) ?_;have hm0:0<=u / 256 ^ j % 256:=Int.emod_nonneg _ (by decide);have hm1:u / 256 ^ j % 256 < 256:=Int.emod_lt_of_pos _ (by decide);rw [aQ (by omega)];have s5:=x5.size;refine jF.2 (aC (λhb=>?_) λhb=>?_)
  ·refine lF qN [(0,i64 10),(1,i64 reg),(4,i64 (u / 256 ^ j % 256))] rfl rfl ?_;refine TY (i:=⟨10,reg,0,0,u / 256 ^ j % 256,0⟩) rfl λv6 w6 ho6 x6=>?_;have s6:=x6.size;refine bGc (ho5.ext x6) ho6 (by simp;omega) (by omega) λv7 w7 ho7 e7=>?_;refine ⟨⟨j,_,rfl,by omega,ho7,?_,by simp;omega,e7 w1 (x5.trans x6) (Nat.le_refl _)⟩,by simp only [aK];omega⟩;rw [<- hacc];simp [qW,hb]
  ·refine ⟨⟨j,_,rfl,by omega,ho5,?_,by simp;omega,x5⟩,by simp only [aK];omega⟩;rw [<- hacc];simp [qW,hb]
 ·obtain rfl:j=0:=by omega
  rw [show qW reg u 0=[] from rfl,List.append_nil] at hacc;rw [hacc] at hv;exact hk v w3 hv x3
theorem bMb {c:Int} (h0:0<=c) (h1:c < 14):IntKind.i64.wrap (((BitVec.ofInt IntKind.i64.bits c ^^^ BitVec.ofInt IntKind.i64.bits 1).toNat:Nat):Int)=HV c:=by
 have:c=0\/c=1\/c=2\/c=3\/c=4\/c=5\/c=6\/c=7\/c=8\/c=9\/c=10\/c=11\/c=12\/c=13:=by omega
 rcases this with rfl|rfl|rfl|rfl|rfl|rfl|rfl|rfl|rfl|rfl|rfl|rfl|rfl|rfl<;>decide
def Adr (a:Int):Prop:=-1000000<=a/\a<=1000000
theorem YU {b:Int} (ha:-1000010<=a/\a<=1000010) (hb:Adr b) (hk:∀ v w',gU w' w.heap.size v (pC f a b)->aG w w'->K v w'):aB prog 178 #[i64 14,i64 (f:Int),i64 a,i64 b] w K:=by
 apply aBx;unfold FM;obtain ⟨a1,a2⟩:=ha;obtain ⟨b1,b2⟩:=hb;refine aJ.2 (aC (λ_=>?_) λe=>absurd rfl e);refine ⟨λv w'=>v=i64 (if f > 0 then 43 else 42)/\w'=w,?_,?_⟩
 ·refine jF.2 (aC (λh=>⟨?_,rfl⟩) λh=>⟨?_,rfl⟩)
  ·rw [if_pos (by omega)]
  ·rw [if_neg (by omega)]
 ·rintro _ w1 ⟨rfl,rfl⟩ _;refine fT.2 ?_;rw [aQ (by omega)];refine fT.2 ?_;rw [aQ (by omega)];refine lF qN [(0,i64 (if f > 0 then 43 else 42)),(4,i64 (b - a - 4))] rfl rfl ?_;exact TY (i:=⟨if f > 0 then 43 else 42,0,0,0,b - a - 4,0⟩) rfl hk
theorem aRt {c b:Int} (hc:0<=c/\c<=14) (hf:f<=2) (ha:Adr a) (hb:Adr b) (hk:∀ v w',gU w' w.heap.size v (mZ c f a b)->aG w w'->K v w'):aB prog 178 #[i64 c,i64 (f:Int),i64 a,i64 b] w K:=by
 by_cases h14:c=14
 ·subst h14;have e:mZ 14 f a b=pC f a b:=if_pos rfl;rw [e] at hk;exact YU (by unfold Adr at ha;omega) hb hk
 apply aBx;unfold FM;have hb0:=hb;obtain ⟨a1,a2⟩:=ha;obtain ⟨b1,b2⟩:=hb;refine aJ.2 (aC (λe=>absurd e h14) λ_=>?_);refine aJ.2 (aC (λe=>?_) λe=>?_)
 ·obtain rfl:f=0:=by omega
  have e:mZ c 0 a b=[⟨41,0,0,0,b - a - 4,c⟩]:=if_neg h14;rw [e] at hk;refine fT.2 ?_;rw [aQ (by omega)];refine fT.2 ?_;rw [aQ (by omega)];refine lF qN [(0,i64 41),(5,i64 c),(4,i64 (b - a - 4))] rfl rfl ?_;exact TY (i:=⟨41,0,0,0,b - a - 4,c⟩) rfl hk
 ·obtain ⟨g,rfl⟩:∃ g,f=g+1:=⟨f - 1,by omega⟩;have e:mZ c (g+1) a b=⟨41,0,0,0,(if g > 0 then 4 else 2) - 2,HV c⟩::pC g (a+2) b:=if_neg h14;rw [e] at hk;refine fT.2 ?_;rw [aQ (by omega),show ((g+1:Nat):Int) - 1=(g:Int) from by omega];refine bJ.2 ?_;rw [aQ (by omega)];refine YU (a:=a+2) (by omega) hb0 λv1 w1 ho1 x1=>?_;refine V.ok bBi ?_;rw [bMb hc.1 (by omega)];have hl:(pC g (a+2) b)[0]?=some ⟨if g > 0 then 43 else 42,0,0,0,b - (a+2) - 4,0⟩:=rfl;refine vV wO qX (aA.of_own ho1) (by decide) (show (0:Int) < ((1:Nat):Int) from by decide) (BW (j:=0) hl) rfl ?_;refine WK λw2 x2=>fT.2 ?_
  have hs:(((iL.size ⟨if g > 0 then 43 else 42,0,0,0,b - (a+2) - 4,0⟩:Nat):Int))=if g > 0 then 4 else 2:=by
   unfold iL.size;dsimp only;by_cases hg:g > 0
   ·rw [if_pos hg,if_pos hg,if_pos rfl];rfl
   ·rw [if_neg hg,if_neg hg,if_neg (by decide)];rfl
  rw [hs,lI (by split<;>omega) (by split<;>omega)];refine lF qN [(0,i64 41),(5,i64 (HV c)),(4,i64 ((if g > 0 then 4 else 2) - 2))] rfl rfl ?_;refine TY (i:=⟨41,0,0,0,(if g > 0 then 4 else 2) - 2,HV c⟩) rfl λv3 w3 ho3 x3=>?_;have s1:=x1.size;have s2:=x2.size;have s3:=x3.size;refine bGc (aU ho3 (by omega)) (ho1.ext (x2.trans x3)) (by simp [pC]) (by omega) λv4 w4 ho4 e4=>hk v4 w4 ho4 (e4 w ((x1.trans x2).trans x3) (Nat.le_refl _))
def FV (i:iL):Prop:=(i.op=28->i.n=0/\i.imm=0/\i.cond=0)/\(i.op=43->i.d=0/\i.n=0/\i.m=0/\i.cond=0)
theorem bGi {i:iL} (h:FV i) (hk:∀ w',aG w w'->K (.bool (!dB i)) w'):aB prog 215 #[.agg i.cells.toArray] w K:=by
 apply aWc;unfold OV;refine bx λb w1 hb x1=>?_;have hb:bF w1 b i.cells:=hb;refine iC hb qX rfl ?_;exact DJ h.1 h.2 λw2 x2=>dO.2 (hk w2 (x1.trans x2))
theorem aIv {v:Y} {l:List iL} (hv:gU w B v l) (hl:l.length<=1000000) (h:∀ x∈l,FV x) (hk:∀ (r:Int) w',(l.all dB=true->r=-1)->(l.all dB=false->0<=r)->aG w w'->K (i64 r) w'):aB prog 220 #[v,.func (.func 215) #[] #[]] w K:=by
 apply aVw;unfold OQ;refine gE wO (aA.of_own hv) ?_;refine ⟨λv w'=>∃ j:Nat,v=i64 j/\j<=l.length/\(l.take j).all dB=true/\aG w w',λv _=>l.length - (RowKit.intOf v).toNat,⟨0,rfl,Nat.zero_le _,rfl,aG.refl _⟩,?_⟩;rintro _ w1 ⟨j,rfl,hj,ha,x1⟩ _;refine aZ.2 (aC (λhlt=>?_) λhge=>?_)
 ·obtain ⟨x,hx⟩:=bI (l:=l) (j:=j) (by omega);refine vV wO qX (aA.of_own (hv.ext x1)) (by omega) (by omega) (BW hx) rfl ?_;refine ⟨_,#[],rfl,bGi (h x (List.mem_of_getElem? hx)) λw2 x2=>?_⟩;cases hr:dB x with
  | false=>
   refine bH.2 (hk j w2 (λhall=>?_) (λ_=>by omega) (x1.trans x2));have:=List.all_eq_true.1 hall x (List.mem_of_getElem? hx);rw [hr] at this;cases this
  | true=>
   refine aM.2 (bJ.2 ?_);rw [aQ (by omega),bK];refine ⟨⟨j+1,rfl,by omega,?_,x1.trans x2⟩,by simp only [aK];omega⟩;rw [List.take_add_one,hx,List.all_append,ha];simp [hr]
 ·have e:l.take j=l:=List.take_of_length_le (by omega);rw [e] at ha;exact hk (-1) w1 (λ_=>rfl) (λh=>by rw [ha] at h;cases h) x1
theorem bGj {v:Y} {l:List iL} (hv:gU w B v l) (hl:l.length<=1000000) (h:∀ x∈l,FV x) (hk:∀ w',aG w w'->K (.bool (l.all dB)) w'):aB prog 179 #[v] w K:=by
 apply aXo;unfold QC
 have c:aB prog 214 #[v,.func (.func 215) #[] #[]] w λr w'=>r=.bool (!(l.all dB))/\aG w w':=by
  apply aWd;unfold OW;refine aIv hv hl h λr w1 h1 h2 x1=>fK.2 ⟨?_,x1⟩;cases hr:l.all dB with
  | true=>rw [h1 hr];rfl
  | false=>rw [decide_eq_true (by have:=h2 hr;omega)];rfl
 refine c.mono λr w1 ⟨hr,x1⟩=>?_;subst hr;refine dO.2 ?_;rw [Bool.not_not];exact hk w1 x1
end Go.Proofs.YtjcmcfidblhnnaaGreatDoor
namespace Go.Vc
section
variable {P:Program} {w:O} {K:Y->O->Prop}
theorem cpR {t e by_ ty:Nat} (h:XE P t e by_) {g o R c:Nat} {xs cs:List Y} {te:TypeId} {b off n c':Nat} (hb:bO w g xs te) (hfit:o+R<=xs.length) (hs:aA w (.slice (some ⟨b,off,none⟩) n c') 1 n cs) (h1:cs.all bX=true)
  (hk:∀ w',bO w' g (xs.take o++cs.take (min n R)++xs.drop (o+min n R)) te->Fr (λi=>i=g) w w'->K (i64 ((min n R:Nat):Int)) w') :
  V P (Builtin.copy_ #[t,t] ty #[.slice (some ⟨g,o,none⟩) R c,.slice (some ⟨b,off,none⟩) n c']) w K:=by
 obtain ⟨z,ht,hi,hz⟩:=h;obtain ⟨i,hi',hz',hn,hby⟩:=info_parts hi;have hsz:(P.info? e).map (·.size)=some 1:=by rw [hi'];simp [hn]
 have hcl:cs.length=n:=by have:=hs.1;omega
 rcases hs.2 with ⟨h2,_⟩|⟨b',off',cap',h2,_,_,hc⟩
 ·cases h2
 cases h2;have hlen:(cs.take (min n R)).length=min n R:=by rw [List.length_take];omega
 have hr:=run_copy_row (P:=P) w t t ty e g o R c ⟨b,off,none⟩ n c' xs.toArray te (cs.take (min n R)) ht hsz hb hlen (λj u hj=>by
   rw [List.getElem?_take] at hj;split at hj
   ·rw [mA];exact hc j u hj
   ·cases hj) (by rw [hlen];simp;omega) (λu hu=>by rw [CB];exact List.all_eq_true.1 h1 u (List.mem_of_mem_take hu))
 rw [hlen] at hr;refine V.ok hr (hk _ ?_ ⟨rfl,rfl,rfl,by simp,λi _ hi=>setRow_other _ _ _ _ hi⟩);unfold bO;rw [setRow_heap w g _ _ te (0,0) hb]
theorem nX {n:Int} (h0:0<=n) (h1:n < 18446744073709551616):IntKind.u64.wrap n=n:=by
 have e:n % (2 ^ 64:Int)=n:=by omega
 unfold IntKind.wrap;simp only [show IntKind.u64.bits=64 from rfl,show IntKind.u64.signed=false from rfl,e,Bool.false_and,Bool.false_eq_true,if_false]
theorem aKf {a:Int} (h0:0<=a) (h1:a < 4294967296):IntKind.u64.wrap (((BitVec.ofInt IntKind.u64.bits a &&& BitVec.ofInt IntKind.u64.bits 4294967295).toNat:Nat):Int)=a:=by
 obtain ⟨n,rfl⟩:∃ n:Nat,a=n:=⟨a.toNat,by omega⟩;have e1:(BitVec.ofInt 64 (n:Int)).toNat=n:=by rw [BitVec.toNat_ofInt];omega
 have e2:(BitVec.ofInt 64 4294967295).toNat=2 ^ 32 - 1:=by decide
 rw [show IntKind.u64.bits=64 from rfl,BitVec.toNat_and,e1,e2,Nat.and_two_pow_sub_one_eq_mod,nX (by omega) (by omega)];omega
theorem LQ {a:Int} (h0:0<=a) (h1:a < 4294967296):a.fdiv (2 ^ (min (32:Int).toNat IntKind.u64.bits))=0:=by
 rw [show (2:Int) ^ (min (32:Int).toNat IntKind.u64.bits)=4294967296 from rfl,Int.fdiv_eq_ediv_of_nonneg _ (by decide)];omega
end
end Go.Vc
namespace Go.Proofs.YtjcmcfidblhnnaaGreatDoor
open Tryz
open Go.Vc
variable {w:O} {K:Y->O->Prop}
abbrev LH (n:Int):Y:=.int .u64 n
theorem bDn {c:Int} (h0:0<=c) (h1:c < 4294967296) (hk:K (.tuple #[LH 0,LH c]) w):aB prog 222 #[LH 1,LH c] w K:=by
 apply aVv;unfold OP;refine V.ok DN ?_;rw [aKf (by decide) (by decide)];refine V.ok (vY (by decide)) ?_;rw [LQ (by decide) (by decide)];refine V.ok DN ?_;rw [aKf h0 h1];refine V.ok (vY (by decide)) ?_;rw [LQ h0 h1];refine qP.2 ?_;rw [nX (by omega) (by omega)];refine qP.2 ?_;rw [nX (by omega) (by omega)];refine V.ok (vY (by decide)) ?_;rw [LQ (by omega) (by omega)];refine bJ.2 ?_;rw [nX (by omega) (by omega)];refine V.ok DN ?_;rw [aKf (by omega) (by omega)];refine V.ok (vY (by decide)) ?_;rw [LQ (by omega) (by omega)];refine qP.2 ?_;rw [nX (by omega) (by omega)];refine bJ.2 ?_;rw [nX (by omega) (by omega)];refine qP.2 ?_;rw [nX (by omega) (by omega)];refine bJ.2 ?_;rw [nX (by omega) (by omega)];refine V.ok (vY (by decide)) ?_;rw [LQ (by omega) (by omega)];refine bJ.2 ?_;rw [nX (by omega) (by omega)];refine qP.2 ?_;rw [nX (by omega) (by omega)];rw [show (1:Int)*c=c from by omega];simp only [Int.mul_zero,Int.add_zero];exact hk
theorem bDo {c:Int} (h0:0<=c) (h1:c < 4294967296) (hk:K (.tuple #[LH 0,LH c]) w):aB prog 218 #[LH 1,LH c] w K:=by
 apply aVz;unfold OS;exact aM.2 (bDn h0 h1 (gR.2 (gQ.2 hk)))
theorem aGm {x:Y} {n k m:Nat} (hk:k<=n) (hm:m<=n - k) (hmk:m<=k):(List.replicate k x++List.replicate (n - k) (i64 0)).take k++(List.replicate k x).take m++(List.replicate k x++List.replicate (n - k) (i64 0)).drop (k+m)=List.replicate (k+m) x++List.replicate (n - (k+m)) (i64 0):=by
 rw [List.take_append_of_le_length (by simp),List.take_of_length_le (by simp),List.take_replicate,Nat.min_eq_left hmk,List.drop_append,List.drop_eq_nil_of_le (by simp),List.nil_append,List.length_replicate,Nat.add_sub_cancel_left,List.drop_replicate,List.replicate_append_replicate,Nat.sub_sub]
theorem aCx {v:Y} {x:Int} {n:Nat} (hv:w.ownsRow w.heap.size 3 1 v 1 [i64 x]\/∃ B,w.ownsRow B 3 1 v 1 [i64 x]) (hn:n<=100000) (hk:∀ g w',bO w' g (List.replicate n (i64 x)) 3->w.heap.size<=g->aG w w'->K (.slice (some ⟨g,0,none⟩) n n) w'):aB prog 182 #[v,i64 (n:Int)] w K:=by
 have hv1:aA w v 1 1 [i64 x]:=by rcases hv with h|⟨B,h⟩<;>exact aA.of_own h
 obtain ⟨b,off,cap,rfl,_⟩:=hv1.there (by decide);apply aXk;unfold PZ;refine ⟨λw'=>w=w',aZ.2 (aC (λh=>by omega) λ_=>rfl),?_⟩;rintro _ rfl _;refine gE aP hv1 ?_;refine V.ok (lU underlying3 underlying152) ?_;rw [nX (by decide) (by decide)];refine V.ok (lU underlying3 underlying152) ?_;rw [nX (by omega) (by omega)];refine bDo (by omega) (by omega) (gR.2 (gQ.2 ?_));refine ⟨λw'=>w=w',?_,?_⟩
 ·refine jF.2 ?_;rw [show decide ((0:Int) > 0)=false from rfl];refine pD.2 (pD.2 (jF.2 (jL ?_)));rw [if_neg (by decide),decide_eq_false (by omega)];exact aM.2 rfl
 rintro _ rfl _;refine V.ok (lU underlying152 underlying3) ?_;rw [aQ (by omega)];refine mkB underlying23 bT rfl (by omega) (by omega) λw1 hB x1 _=>?_;have hlt:=hB.lt;generalize hg:w.heap.size=g at hB hlt;have hg0:w.heap.size<=g:=by omega
 refine cpR bB hB (by simp) (hv1.ext x1) rfl λw2 hB2 f2=>?_;have hxx:aG w w2:=f2.ext x1 λi hi=>by omega
 refine ⟨λv w'=>∃ k:Nat,v=i64 (k:Int)/\k<=n/\(0 < n->0 < k)/\bO w' g (List.replicate k (i64 x)++List.replicate (n - k) (i64 0)) 3/\aG w w',λv _=>n - (RowKit.intOf v).toNat,⟨min 1 n,rfl,by omega,by omega,?_,hxx⟩,?_⟩
 ·have e:(List.replicate n (i64 0)).take 0++[i64 x].take (min 1 n)++(List.replicate n (i64 0)).drop (0+min 1 n)=List.replicate (min 1 n) (i64 x)++List.replicate (n - min 1 n) (i64 0):=by
   rw [List.take_zero,List.nil_append,Nat.zero_add,List.drop_replicate]
   congr 1
   by_cases h:n=0
   ·subst h;rfl
   ·rw [show min 1 n=1 by omega];rfl
  rw [e] at hB2;exact hB2
 rintro _ w3 ⟨k,rfl,hkn,hk0,hB3,x3⟩ _;have hlen:(List.replicate k (i64 x)++List.replicate (n - k) (i64 0)).length=n:=by simp;omega
 have hsl:=hB3.slice (n:=n) hlen (by unfold maxLen;omega);refine gE aP hsl (aZ.2 (aC (λhlt2=>?_) λhge=>?_))
 ·have D:aG w3 w3.drew:=(aG.refl _).drew;refine aL.mk' (λ_=>True) trivial ?_
  have lo:∀ w',(Instr.sliceAt 23 (.slice (some ⟨g,0,none⟩) n n) (some (i64 (k:Int))) none none).run prog w'=.ok (.slice (some ⟨g,k,none⟩) (n - k) (n - k)) w':=λw'=>by
   have h1:k<=n:=hkn;have h2:¬ n=k:=by omega
   simp [Instr.sliceAt,Instr.slice,run_underlying underlying23,gW bT,Instr.sliceBounds,Instr.sliceBound,asIntOf,h1,h2,mA]
  have hi:∀ w',(Instr.sliceAt 23 (.slice (some ⟨g,0,none⟩) n n) none (some (i64 (k:Int))) none).run prog w'=.ok (.slice (some ⟨g,0,none⟩) k n) w':=λw'=>by
   have:=bNg (P:=prog) (w:=w') underlying23 bT (a:=some ⟨g,0,none⟩) (n:=n) (c:=n) (k:=k) hkn;rw [if_neg (by omega)] at this;simpa [mA] using this
  refine aF.ok (λw' _=>lo w') (aF.ok (λw' _=>hi w') ?_);have hB4:=hB3.ext D
  have hsrc:aA w3.drew (.slice (some ⟨g,0,none⟩) k n) 1 k (List.replicate k (i64 x)):=⟨by simp,.inr ⟨g,0,n,rfl,hkn,by unfold maxLen;omega,λj u hj=>by
   have hjk:j < k:=by have:=(List.getElem?_eq_some_iff.1 hj).1;simpa using this
   rw [Nat.zero_add,hB4.cell,List.getElem?_append_left (by simpa using hjk)];exact hj⟩⟩
  refine cpR bB hB4 (by rw [hlen];omega) hsrc (by simp [bX]) λw5 hB5 f5=>⟨trivial,?_⟩;rw [aGm hkn (by omega) (by omega)] at hB5;refine aF.ok (λ_ _=>ME) ?_;rw [aQ (by omega)];exact ⟨⟨k+min k (n - k),by simp,by omega,λ_=>by omega,hB5,f5.ext (x3.trans D) λi hi=>by omega⟩,by simp only [RowKit.intOf];omega⟩
 ·obtain rfl:k=n:=by omega
  rw [Nat.sub_self,List.replicate_zero,List.append_nil] at hB3;exact hk g w3 hB3 hg0 x3
end Go.Proofs.YtjcmcfidblhnnaaGreatDoor
namespace Go.Vc
theorem aJd {α:Type} {f:α->List Y} {sz:Nat} (hf:∀ x,(f x).length=sz) {l:List α} {j o:Nat} {x:α} (h:l[j]?=some x) (ho:o < sz):(l.flatMap f)[j*sz+o]?=(f x)[o]?:=by
 rw [<- zB hf h,List.getElem?_take,if_pos ho,List.getElem?_drop]
theorem NU {α:Type} {f:α->List Y} {sz:Nat} (hf:∀ x,(f x).length=sz) {o:Nat} {z:Y} (ho:o < sz):∀ {l:List α} {j:Nat} {x y:α},l[j]?=some x->f y=(f x).set o z->(l.flatMap f).set (j*sz+o) z=(l.set j y).flatMap f
 | [],_,_,_,h,_=>by simp at h
 | a::l,0,x,y,h,he=>by
  simp at h;subst h;rw [Nat.zero_mul,Nat.zero_add,List.flatMap_cons,List.set_cons_zero,List.flatMap_cons,he,List.set_append_left _ _ (by rw [hf];exact ho)]
 | a::l,j+1,x,y,h,he=>by
  rw [List.flatMap_cons,List.set_cons_succ,List.flatMap_cons,<- NU hf ho (l:=l) (j:=j) (by simpa using h) he,List.set_append_right _ _ (by rw [hf,Nat.add_mul];omega),hf]
  congr 2
  rw [Nat.add_mul];omega
end Go.Vc
namespace Go.Proofs.YtjcmcfidblhnnaaGreatDoor
open Tryz
open Go.Vc
variable {w:O} {K:Y->O->Prop}
structure mL where
 x:cO
 f:Nat
 c:List iL
 v:Y
def mL.cells (e:mL):List Y:=e.x.cells++[e.v,i64 (e.f:Int)]
theorem mL.len (e:mL):e.cells.length=13:=by simp [mL.cells,e.x.len]
def UW (l:List mL):List Y:=l.flatMap mL.cells
def lH (l:List mL):List cO:=l.map mL.x
def lP (l:List mL):List Nat:=l.map mL.f
def cO.fix:cO->List iL
 | .one i=>[i]
 | .place _=>[]
 | .jump _ _=>[]
 | .load r n=>tC r n
def cO.isJ:cO->Bool
 | .jump _ _=>true
 | _=>false
structure xQ (w:O) (B:Nat) (u:Y) (l:List mL):Prop where
 row:w.ownsRow B 232 13 u l.length (UW l)
 code:∀ e∈l,gU w B e.v e.c
 fix:∀ e∈l,e.x.isJ=false->e.c=e.x.fix
 few:∀ e∈l,e.c.length<=100
theorem xQ.ext {w':O} {B:Nat} {u:Y} {l:List mL} (h:xQ w B u l) (hx:aG w w'):xQ w' B u l:=⟨hx.own h.row,λe he=>(h.code e he).ext hx,h.fix,h.few⟩
theorem CF {l:List mL} {j:Nat} {e:mL} (h:l[j]?=some e):((UW l).drop (((j:Int)).toNat*13)).take 13=e.cells:=by
 rw [Int.toNat_natCast];exact zB mL.len h
theorem xQ.one {B:Nat} {u:Y} {l:List mL} (h:xQ w B u l) {e:mL} (he:e∈l):e.cells.all bX=true:=by
 unfold mL.cells;rw [List.all_append,tV,Bool.true_and];show (bX e.v&&(bX (i64 (e.f:Int))&&true))=true;rw [oQ (h.code e he)];rfl
theorem aJf {x:cO} {f:Nat} (hj:x.isJ=false):jY x.fix=x.size f:=by
 cases x with
 | one i=>simp [cO.fix,jY,cO.size]
 | place l=>rfl
 | jump c q=>cases hj
 | load r n=>rfl
theorem TD (l:List iL) (i:iL):jY (l++[i])=jY l+i.size:=by simp [jY]
theorem LP:∀ l:List iL,jY l<=4*l.length
 | []=>by simp [jY]
 | i::l=>by
  have h1:=LP l;have h2:i.size<=4:=by unfold iL.size;split<;>omega
  have e:jY (i::l)=i.size+jY l:=by simp [jY]
  rw [e,List.length_cons];omega
theorem aQh {e:mL} {B:Nat} (hc:gU w B e.v e.c) (hf:e.x.isJ=false->e.c=e.x.fix) (hl:e.c.length<=100) (hm:∀ c q,e.x=.jump c q->e.f<=uG c) (hk:∀ w',aG w w'->K (i64 ((e.x.size e.f:Nat):Int)) w'):aB prog 180 #[.agg e.cells.toArray] w K:=by
 apply aXm;unfold QB;refine bx λb w1 hb x1=>?_;have hb:bF w1 b e.cells:=hb
 have go:∀ {k:Int},e.cells[0]?=some (i64 k)->k≠3->e.x.isJ=false->V prog (Instr.fieldAt 232 (.pointer (some ⟨b,0,none⟩)) 1) w1 λt18 w8=>V prog (Instr.loadAt 230 t18) w8 λt19 w9=>V prog (Builtin.len_ #[230] 3 #[t19]) w9 λt20 w10=>
   ∃ (I1:NP 2) (μ1:NF 2),I1 (i64 0) (i64 0) w10/\∀ (t3:Y) (t21:Y),∀ w11:O,I1 t3 t21 w11->∀ _f:bM,V prog (binOp .lss 3 t21 t20) w11 λt22 w12=>aI t22 (
    V prog (Instr.indexAt 230 t19 t21) w12 λt23 w13=>V prog (Instr.loadAt 83 t23) w13 λt24 w14=>V prog (Instr.alloc 83 true (.tuple #[])) w14 λt5 w15=>U prog (Instr.storeAt 83 t5 t24) w15 λ_ w16=>V prog (Instr.loadAt 83 t5) w16 λt26 w17=>
    aB prog 213 #[t26] w17 λt27 w18=>V prog (binOp .add 3 t3 t27) w18 λt28 w19=>V prog (binOp .add 3 t21 (i64 1)) w19 λt29 w20=>I1 t28 t29 w20/\μ1 t28 t29 w20 < μ1 t3 t21 w11) (K t3 w12):=λ{k} hk0 hk3 hj=>by
  have hv:e.cells[11]?=some e.v:=by unfold mL.cells;rw [List.getElem?_append_right (by rw [e.x.len];decide),e.x.len];rfl
  refine aV hb gC jP hv (gE wO (aA.of_own (hc.ext x1)) ?_);refine ⟨λs v w'=>∃ j:Nat,v=i64 j/\j<=e.c.length/\s=i64 ((jY (e.c.take j):Nat):Int)/\aG w w',λ_ v _=>e.c.length - (RowKit.intOf v).toNat,⟨0,rfl,Nat.zero_le _,rfl,x1⟩,?_⟩;rintro _ _ w2 ⟨j,rfl,hj2,rfl,x2⟩ _;refine aZ.2 (aC (λhlt=>?_) λhge=>?_)
  ·obtain ⟨i,hi⟩:=bI (l:=e.c) (j:=j) (by omega);refine vV wO qX (aA.of_own (hc.ext x2)) (by omega) (by omega) (BW hi) rfl ?_;refine tH bBc rfl rfl λw3 h5 x3=>?_;have h5:bF w3 w2.heap.size i.cells:=bO.boxed h5;refine iC h5 qX rfl (WK λw4 x4=>bJ.2 ?_);have hs:=LP (e.c.take j);have hs2:i.size<=4:=by unfold iL.size;split<;>omega
   have hle:(e.c.take j).length<=100:=by rw [List.length_take];omega
   rw [aQ (by omega)];refine jS (by omega) ?_;refine ⟨⟨j+1,rfl,by omega,?_,(x2.trans x3).trans x4⟩,by simp only [aK];omega⟩;rw [List.take_add_one,hi,show (some i).toList=[i] from rfl,TD];simp
  ·have ee:e.c.take j=e.c:=List.take_of_length_le (by omega);rw [ee,hf hj,aJf (f:=e.f) hj];exact hk w2 x2
 cases hx:e.x with
 | jump c q=>
  have hcs:e.cells=[i64 3,i64 0,i64 0,i64 0,i64 0,i64 0,i64 0,i64 q,i64 c,i64 0,i32 0,e.v,i64 (e.f:Int)]:=by unfold mL.cells;rw [hx];rfl
  rw [hcs] at hb;refine sT hb bQ bG aE rfl (aJ.2 (aC (λ_=>?_) λh=>absurd rfl h));have D:aG w1 w1.drew:=(aG.refl _).drew;refine aL.mk' (λw'=>aG w1.drew w') (aG.refl _) ?_;refine yB2 (λw' hx=>(hb.ext D).ext hx) bQ eJ aE rfl ?_;refine iB (λw' hx=>(hb.ext D).ext hx) gJ aE rfl ?_;refine aJc λv w2 hv x2=>⟨x2,?_⟩;have hfm:=hm c q hx
  have hget:∃ z,(KF c)[e.f]?=some z/\z=2+2*(e.f:Int):=by
   unfold uG at hfm;unfold KF;by_cases h14:c=14
   ·rw [if_pos h14] at hfm ⊢;have:e.f=0\/e.f=1:=by omega
    rcases this with h|h<;>rw [h]<;>exact ⟨_,rfl,by decide⟩
   ·rw [if_neg h14] at hfm ⊢;have:e.f=0\/e.f=1\/e.f=2:=by omega
    rcases this with h|h|h<;>rw [h]<;>exact ⟨_,rfl,by decide⟩
  obtain ⟨z,hz,hze⟩:=hget;have hlt:=(List.getElem?_eq_some_iff.1 hz).1;refine ⟨λw'=>aG w2 w',λ_ h=>x2.trans h,aG.refl _,?_⟩;refine nT aP aE hv (λw' h=>h) (by omega) (by omega) (cM hz) ?_;have:=hk w2 ((x1.trans D).trans x2);rw [hx] at this;rw [hze];have e2:((cO.size (.jump c q) e.f:Nat):Int)=2+2*(e.f:Int):=by show ((2+2*e.f:Nat):Int)=_;omega
  rw [e2] at this;exact this
 | one i=>
  have h0:e.cells[0]?=some (i64 1):=by unfold mL.cells;rw [hx];rfl
  refine sT hb bQ bG aE h0 (aJ.2 (aC (λh=>absurd h (by decide)) λ_=>?_));exact go h0 (by decide) (by rw [hx];rfl)
 | place q=>
  have h0:e.cells[0]?=some (i64 2):=by unfold mL.cells;rw [hx];rfl
  refine sT hb bQ bG aE h0 (aJ.2 (aC (λh=>absurd h (by decide)) λ_=>?_));exact go h0 (by decide) (by rw [hx];rfl)
 | load r n=>
  have h0:e.cells[0]?=some (i64 4):=by unfold mL.cells;rw [hx];rfl
  refine sT hb bQ bG aE h0 (aJ.2 (aC (λh=>absurd h (by decide)) λ_=>?_));exact go h0 (by decide) (by rw [hx];rfl)
def lJ (l:List mL) (n:Nat):List Int:=(List.range n).map λ(k:Nat)=>((tI (lH l) (lP l) k:Nat):Int)
theorem wQ {l:List mL} {n k:Nat} (h:k < n):(lJ l n)[k]?=some ((tI (lH l) (lP l) k:Nat):Int):=by
 unfold lJ;rw [List.getElem?_map,List.getElem?_range h];rfl
theorem qJ (l:List mL) (n:Nat):(lJ l n).length=n:=by simp [lJ]
theorem AW {l:List mL} {j:Nat} {e:mL} (h:l[j]?=some e):(lH l)[j]?=some e.x/\(lP l).getD j 0=e.f:=by
 unfold lH lP;rw [List.getElem?_map,h,List.getD_eq_getElem?_getD,List.getElem?_map,h];exact ⟨rfl,rfl⟩
theorem AV.most {l:List mL} (h:AV (lH l) (lP l)) {j:Nat} {e:mL} (he:l[j]?=some e):∀ c q,e.x=.jump c q->e.f<=uG c:=λc q hx=>by
 obtain ⟨h1,h2⟩:=AW he;rw [<- h2];exact h.jump j c q (by rw [h1,hx])
theorem GN {B:Nat} {u:Y} {l:List mL} (h:xQ w B u l) (hf:AV (lH l) (lP l)) (hl:l.length<=6000) (hk:∀ v w',w'.ownsRow w.heap.size 3 1 v (l.length+1) ((lJ l (l.length+1)).map i64)->aG w w'->K v w'):aB prog 123 #[u] w K:=by
 apply aZv;unfold SG;have hxl:(lH l).length=l.length:=by simp [lH]
 have hfl:(lP l).length=(lH l).length:=by simp [lH,lP]
 refine jG bB [i64 0] rfl rfl (by simp) rfl λv0 w1 ho x1=>?_;refine gE sQ (aA.of_own (h.ext x1).row) ?_;refine ⟨λv a k w'=>∃ j:Nat,k=i64 j/\j<=l.length/\a=i64 ((tI (lH l) (lP l) j:Nat):Int)/\w'.ownsRow w.heap.size 3 1 v (j+1) ((lJ l (j+1)).map i64)/\aG w w',λ_ _ k _=>l.length - (RowKit.intOf k).toNat,⟨0,rfl,Nat.zero_le _,rfl,ho,x1⟩,?_⟩;rintro v _ _ w2 ⟨j,rfl,hj,rfl,hv,x2⟩ _;refine aZ.2 (aC (λhlt=>?_) λhge=>?_)
 ·obtain ⟨e,he⟩:=bI (l:=l) (j:=j) (by omega);have hem:=List.mem_of_getElem? he;have h2:=h.ext x2;refine vV sQ AK (aA.of_own h2.row) (by omega) (by omega) (CF he) e.len ?_;refine tH DC (by simpa [Value.cells] using e.len) (by simpa [Value.cells] using h.one hem) λw3 h6 x3=>?_;have h6:bF w3 w2.heap.size e.cells:=bO.boxed h6;refine iC h6 AK e.len ?_;refine aQh ((h2.code e hem).ext x3) (h.fix e hem) (h.few e hem) (hf.most he) λw4 x4=>bJ.2 ?_;obtain ⟨q1,q2⟩:=AW he;have ha:=zL hfl q1;rw [q2] at ha;have hb:=hf.at_le (j+1);rw [aQ (by omega)];have ea:((tI (lH l) (lP l) j:Nat):Int)+((e.x.size e.f:Nat):Int)=((tI (lH l) (lP l) (j+1):Nat):Int):=by rw [ha];omega
  rw [ea];refine jG bB [i64 ((tI (lH l) (lP l) (j+1):Nat):Int)] rfl rfl (by simp) rfl λv5 w5 ho5 x5=>?_;have x25:=(x3.trans x4).trans x5;have s2:=x2.size;have s25:=x25.size;refine apG underlying23 bT rfl (by decide) (x25.own hv) (aA.of_own ho5) rfl (by omega) (by unfold maxLen;omega) (by omega) λv6 w6 ho6 hg6 _=>bJ.2 ?_;rw [aQ (by omega),bK];refine ⟨⟨j+1,rfl,by omega,rfl,?_,(x2.trans x25).grown hg6 λk hk=>(hv.lt k hk).1⟩,by simp only [aK];omega⟩
  have es:(lJ l (j+1)).map i64++[i64 ((tI (lH l) (lP l) (j+1):Nat):Int)]=(lJ l (j+1+1)).map i64:=by
   unfold lJ;rw [List.range_succ (n:=j+1),List.map_append,List.map_append];rfl
  rw [es] at ho6;exact ho6
 ·obtain rfl:j=l.length:=by omega
  exact hk v w2 hv x2
def oT (l:List cO) (f:List Nat) (n j:Nat):List Y:=(List.range n).map λ(q:Nat)=>i64 (yT l f (q:Int) j)
theorem pM (l:List cO) (f:List Nat) (n j:Nat):(oT l f n j).length=n:=by simp [oT]
theorem vP {l:List cO} {f:List Nat} {n j q:Nat} (h:q < n):(oT l f n j)[q]?=some (i64 (yT l f (q:Int) j)):=by
 unfold oT;rw [List.getElem?_map,List.getElem?_range h];rfl
theorem JU {l:List cO} {f:List Nat} {n j q:Nat} (hx:l[j]?=some (.place q)) (hq:q < n):(oT l f n j).set q (i64 (tI l f j:Int))=oT l f n (j+1):=by
 apply List.ext_getElem?;intro k;by_cases hk:k < n
 ·rw [List.getElem?_set,vP hk,vP hk];have e:yT l f (k:Int) (j+1)=if (q:Int)=(k:Int) then (tI l f j:Int) else yT l f (k:Int) j:=by rw [yT,hx]
  rw [e];by_cases hqk:q=k
  ·subst hqk;rw [if_pos rfl,if_pos (by rw [pM];exact hq),if_pos rfl]
  ·rw [if_neg hqk,if_neg (by omega)]
 ·rw [List.getElem?_eq_none (by rw [List.length_set,pM];omega),List.getElem?_eq_none (by rw [pM];omega)]
theorem tS {l:List cO} {f:List Nat} {n j:Nat} {x:cO} (hx:l[j]?=some x) (hp:x.pl=[]):oT l f n (j+1)=oT l f n j:=by
 unfold oT;refine List.map_congr_left λq _=>?_;rw [yT,hx];cases x with
 | place q'=>simp [cO.pl] at hp
 | _=>rfl
theorem MY (l:List cO) (f:List Nat) (n:Nat):oT l f n 0=List.replicate n (i64 (-1)):=by
 apply List.ext_getElem?;intro k;by_cases hk:k < n
 ·rw [vP hk,List.getElem?_replicate_of_lt hk];rfl
 ·rw [List.getElem?_eq_none (by rw [pM];omega),List.getElem?_eq_none (by rw [List.length_replicate];omega)]
theorem HK {B:Nat} {u atv:Y} {l:List mL} (h:xQ w B u l) (hl:l.length<=6000) (hok:∀ x∈lH l,x.okI) (ha:aO w atv (lJ l (l.length+1)))
  (hk:∀ g (n:Nat) w',w.heap.size<=g->(∀ q:Nat,(q:Int)∈kH (lH l)->q < n)->n<=2001->bO w' g (oT (lH l) (lP l) n l.length) 3->aG w w'->K (.slice (some ⟨g,0,none⟩) n n) w'):aB prog 125 #[u,atv] w K:=by
 apply aZt;unfold SE;have xtake:∀ {j:Nat} {e:mL},l[j]?=some e->(lH l).take (j+1)=(lH l).take j++[e.x]:=λ{j e} he=>by rw [List.take_add_one,(AW he).1];rfl
 refine gE sQ (aA.of_own h.row) ?_;refine ⟨λm k w'=>∃ (j:Nat) (mx:Int),k=i64 j/\m=i64 mx/\j<=l.length/\-1<=mx/\mx<=2000/\(∀ q∈kH ((lH l).take j),q<=mx)/\aG w w',λ_ k _=>l.length - (RowKit.intOf k).toNat,⟨0,-1,rfl,rfl,Nat.zero_le _,by decide,by decide,λq hq=>by simp [kH] at hq,aG.refl _⟩,?_⟩;rintro _ _ w1 ⟨j,mx,rfl,rfl,hj,hm1,hm2,hmx,x1⟩ _;refine aZ.2 (aC (λhlt=>?_) λhge=>?_)
 ·obtain ⟨e,he⟩:=bI (l:=l) (j:=j) (by omega);have hem:=List.mem_of_getElem? he;have h1:=h.ext x1;refine vV sQ AK (aA.of_own h1.row) (by omega) (by omega) (CF he) e.len ?_;refine tH DC (by simpa [Value.cells] using e.len) (by simpa [Value.cells] using h.one hem) λw2 h7 x2=>?_;have h7:bF w2 w1.heap.size e.cells:=bO.boxed h7;have hoi:=hok e.x (List.mem_map.2 ⟨e,hem,rfl⟩)
  have nx:∀ {m':Int},-1<=m'->m'<=2000->(∀ q∈kH ((lH l).take (j+1)),q<=m')->V prog (binOp .add 3 (i64 j) (i64 1)) w2 λt w3=>(∃ (j:Nat) (mx:Int),t=i64 j/\i64 m'=i64 mx/\j<=l.length/\-1<=mx/\mx<=2000/\(∀ q∈kH ((lH l).take j),q<=mx)/\aG w w3)/\l.length - (RowKit.intOf t).toNat < l.length - (RowKit.intOf (i64 (j:Int))).toNat:=λh1 h2 h3=>by
   refine jS (by omega) ?_;exact ⟨⟨j+1,_,rfl,rfl,by omega,h1,h2,h3,x1.trans x2⟩,by simp only [aK];omega⟩
  have oth:e.x.pl=[]->∀ q∈kH ((lH l).take (j+1)),q<=mx:=λhp q hq=>by
   rw [xtake he,rP,show kH [e.x]=[] from by simp [kH,hp],List.append_nil] at hq;exact hmx q hq
  cases hx:e.x with
  | place q=>
   have hcs:e.cells=[i64 2,i64 0,i64 0,i64 0,i64 0,i64 0,i64 0,i64 q,i64 0,i64 0,i32 0,e.v,i64 (e.f:Int)]:=by unfold mL.cells;rw [hx];rfl
   rw [hcs] at h7;rw [hx] at hoi;have hq:0<=q/\q<=2000:=hoi;refine sT h7 bQ bG aE rfl (aJ.2 (aC (λ_=>?_) λh=>absurd rfl h));refine sT h7 bQ cD aE rfl (mx2 λc hc h1 h2=>?_);refine nx (by omega) (by omega) λq' hq'=>?_;rw [xtake he,rP,hx,show kH [cO.place q]=[q] from rfl] at hq';rcases List.mem_append.1 hq' with h|h
   ·have:=hmx q' h;omega
   ·rw [List.mem_singleton] at h;omega
  | one i=>
   have h0:e.cells[0]?=some (i64 1):=by unfold mL.cells;rw [hx];rfl
   refine sT h7 bQ bG aE h0 (aJ.2 (aC (λh=>absurd h (by decide)) λ_=>nx hm1 hm2 (oth (by rw [hx];rfl))))
  | jump c q=>
   have h0:e.cells[0]?=some (i64 3):=by unfold mL.cells;rw [hx];rfl
   refine sT h7 bQ bG aE h0 (aJ.2 (aC (λh=>absurd h (by decide)) λ_=>nx hm1 hm2 (oth (by rw [hx];rfl))))
  | load r n=>
   have h0:e.cells[0]?=some (i64 4):=by unfold mL.cells;rw [hx];rfl
   refine sT h7 bQ bG aE h0 (aJ.2 (aC (λh=>absurd h (by decide)) λ_=>nx hm1 hm2 (oth (by rw [hx];rfl))))
 have ee:(lH l).take j=lH l:=List.take_of_length_le (by simp [lH];omega);rw [ee] at hmx;clear hge ee;refine jG bB [i64 (-1)] rfl rfl (by simp) rfl λv2 w2 ho2 x2=>bJ.2 ?_;rw [aQ (by omega)];obtain ⟨n,hn⟩:∃ n:Nat,mx+1=n:=⟨(mx+1).toNat,by omega⟩;rw [hn];refine aCx (.inr ⟨_,ho2⟩) (by omega) λg w3 hB hg x3=>?_;rw [<- MY (lH l) (lP l)] at hB;have x13:=x2.trans x3;have x03:=x1.trans x13;have hgw:w.heap.size<=g:=by have:=x1.size;have:=x2.size;omega
 refine gE sQ (aA.of_own (h.ext x03).row) ?_;refine ⟨λk w'=>∃ j:Nat,k=i64 j/\j<=l.length/\bO w' g (oT (lH l) (lP l) n j) 3/\aG w w',λk _=>l.length - (RowKit.intOf k).toNat,⟨0,rfl,Nat.zero_le _,hB,x03⟩,?_⟩;rintro _ w4 ⟨j,rfl,hj,hB4,x4⟩ _;refine aZ.2 (aC (λhlt=>?_) λhge=>?_)
 ·obtain ⟨e,he⟩:=bI (l:=l) (j:=j) (by omega);have hem:=List.mem_of_getElem? he;have hxe:=(AW he).1;have h4:=h.ext x4;refine vV sQ AK (aA.of_own h4.row) (by omega) (by omega) (CF he) e.len ?_;refine tH DC (by simpa [Value.cells] using e.len) (by simpa [Value.cells] using h.one hem) λw5 h10 x5=>?_;have h10:bF w5 w4.heap.size e.cells:=bO.boxed h10;have x05:=x4.trans x5;have hB5:=hB4.ext x5
  have nx:∀ {w'},aG w w'->bO w' g (oT (lH l) (lP l) n (j+1)) 3->V prog (binOp .add 3 (i64 j) (i64 1)) w' λt w3=>(∃ j:Nat,t=i64 j/\j<=l.length/\bO w3 g (oT (lH l) (lP l) n j) 3/\aG w w3)/\l.length - (RowKit.intOf t).toNat < l.length - (RowKit.intOf (i64 (j:Int))).toNat:=λh1 h2=>by
   refine jS (by omega) ?_;exact ⟨⟨j+1,rfl,by omega,h2,h1⟩,by simp only [aK];omega⟩
  cases hx:e.x with
  | place q=>
   rw [hx] at hxe;have hcs:e.cells=[i64 2,i64 0,i64 0,i64 0,i64 0,i64 0,i64 0,i64 q,i64 0,i64 0,i32 0,e.v,i64 (e.f:Int)]:=by unfold mL.cells;rw [hx];rfl
   rw [hcs] at h10;have hqm:q∈kH (lH l):=List.mem_flatMap.2 ⟨_,List.mem_of_getElem? hxe,List.mem_singleton.2 rfl⟩;have hq0:0<=q/\q<=2000:=by have:=hok e.x (List.mem_map.2 ⟨e,hem,rfl⟩);rw [hx] at this;exact this
   obtain ⟨q,rfl⟩:=kX hq0.1;have hqn:q < n:=by have:=hmx _ hqm;omega
   refine sT h10 bQ bG aE rfl (aJ.2 (aC (λ_=>?_) λh=>absurd rfl h));have D:aG w5 w5.drew:=(aG.refl _).drew;refine aL.mk' (λw'=>aG w5.drew w') (aG.refl _) ?_;refine yB2 (λw' hx=>(h10.ext D).ext hx) bQ cD aE rfl ?_;refine nT aP aE (ha.ext (x05.trans D)) (λ_ h=>h) (by omega) (by rw [qJ];omega) (cM (wQ (by omega))) ?_;refine aF.ok (λw' _=>jZ underlying23 bT (by omega) (by omega)) ?_;rw [Int.toNat_natCast];refine LM bT (hB5.ext D) (by rw [pM];exact hqn) rfl ?_;have hs:=(hB5.ext D).set q (i64 ((tI (lH l) (lP l) j:Nat):Int));rw [JU hxe hqn] at hs;exact nx ((x05.trans D).setCell hgw _) hs
  | one i=>
   have h0:e.cells[0]?=some (i64 1):=by unfold mL.cells;rw [hx];rfl
   refine sT h10 bQ bG aE h0 (aJ.2 (aC (λh=>absurd h (by decide)) λ_=>nx x05 (by rw [tS hxe (by rw [hx];rfl)];exact hB5)))
  | jump c q=>
   have h0:e.cells[0]?=some (i64 3):=by unfold mL.cells;rw [hx];rfl
   refine sT h10 bQ bG aE h0 (aJ.2 (aC (λh=>absurd h (by decide)) λ_=>nx x05 (by rw [tS hxe (by rw [hx];rfl)];exact hB5)))
  | load r n'=>
   have h0:e.cells[0]?=some (i64 4):=by unfold mL.cells;rw [hx];rfl
   refine sT h10 bQ bG aE h0 (aJ.2 (aC (λh=>absurd h (by decide)) λ_=>nx x05 (by rw [tS hxe (by rw [hx];rfl)];exact hB5)))
 ·obtain rfl:j=l.length:=by omega
  exact hk g n w4 hgw (λq hq=>by have:=hmx _ hq;omega) (by omega) hB4 x4
theorem xQ.at_ {B g cap:Nat} {l:List mL} (h:xQ w B (.slice (some ⟨g,0,none⟩) l.length cap) l) {j o:Nat} {e:mL} {z:Y} (he:l[j]?=some e) (hz:e.cells[o]?=some z):w.cell? ⟨g,j*13+o,none⟩=some z:=by
 have ho:o < 13:=by have:=(List.getElem?_eq_some_iff.1 hz).1;rw [e.len] at this;exact this
 have hj:=(List.getElem?_eq_some_iff.1 he).1;rw [h.row.cellAt (j*13+o) (by have:(j+1)*13<=l.length*13:=Nat.mul_le_mul_right _ hj;omega)];unfold UW;rw [aJd mL.len he ho];exact hz
theorem xQ.put {B g cap:Nat} {l:List mL} (h:xQ w B (.slice (some ⟨g,0,none⟩) l.length cap) l) {t j o by_:Nat} {e e':mL} {zz z:Y} {K':O->Prop} (hi:cZ prog t zz 1 by_) (he:l[j]?=some e) (hc:e'.cells=e.cells.set o z) (ho:o < 13) (hz:bX z=true) (h2:gU w B e'.v e'.c) (h3:e'.x.isJ=false->e'.c=e'.x.fix) (h4:e'.c.length<=100)
  (hk:∀ w',xQ w' B (.slice (some ⟨g,0,none⟩) l.length cap) (l.set j e')->Fr (λk=>k=g) w w'->K' w'):U prog (Instr.storeAt t (.pointer (some ⟨g,j*13+o,none⟩)) z) w λ_ w'=>K' w':=by
 have hu:∃ u,e.cells[o]?=some u:=bI (by rw [e.len];exact ho);obtain ⟨u,hu⟩:=hu;have hold:=h.at_ he hu;obtain ⟨s1,s2⟩:=h.row.stored (j*13+o) z;have f:Fr (λk=>k=g) w (w.setCell ⟨g,j*13+o,none⟩ z):=Fr.of_grown s2 λk hk=>by cases hk;rfl
 have kp:∀ {v:Y} {c:List iL},gU w B v c->gU (w.setCell ⟨g,j*13+o,none⟩ z) B v c:=λ{v c} ht=>f.own ht λk hk hS=>by
  rcases uT ht h.row (by decide) with h1|h1
  ·rw [h1] at hk;cases hk
  ·exact h1 (by rw [hk,hS];rfl)
 refine U.ok (nF hi hz hold (h.row.frozenAt _)) (hk _ ⟨?_,λx hx=>?_,λx hx=>?_,λx hx=>?_⟩ f)
 ·rw [List.length_set];unfold UW at s1 ⊢;rw [NU mL.len ho he hc] at s1;exact s1
 ·rcases List.mem_or_eq_of_mem_set hx with hx|rfl
  ·exact kp (h.code x hx)
  ·exact kp h2
 ·rcases List.mem_or_eq_of_mem_set hx with hx|rfl
  ·exact h.fix x hx
  ·exact h3
 ·rcases List.mem_or_eq_of_mem_set hx with hx|rfl
  ·exact h.few x hx
  ·exact h4
theorem UE {c a b:Int} {f:Nat}:∀ i∈mZ c f a b,FV i:=by
 intro i hi
 have aw:∀ {f:Nat} {a b:Int},∀ i∈pC f a b,FV i:=λ{f a b} i hi=>by
  unfold pC at hi;rw [List.mem_singleton] at hi;subst hi;refine ⟨λe=>?_,λ_=>⟨rfl,rfl,rfl,rfl⟩⟩;dsimp only at e;split at e<;>omega
 unfold mZ at hi;split at hi
 ·exact aw i hi
 ·split at hi
  ·rw [List.mem_singleton] at hi;subst hi;exact ⟨λe=>by dsimp only at e;omega,λe=>by dsimp only at e;omega⟩
  ·rcases List.mem_cons.1 hi with rfl|hi
   ·exact ⟨λe=>by dsimp only at e;omega,λe=>by dsimp only at e;omega⟩
   ·exact aw i hi
theorem vQ {c a b:Int} {f:Nat}:(mZ c f a b).length<=2:=by
 unfold mZ;split
 ·simp [pC]
 ·split<;>simp [pC]
structure uN (l l':List mL) (j:Nat):Prop where
 len:l'.length=l.length
 at_:∀ (k:Nat) e,l[k]?=some e->∃ e',l'[k]?=some e'/\e'.x=e.x/\(k < j->e'.f=(sK (lH l) (lP l)).getD k 0/\e'.c=e.x.codeK e.f (tI (lH l) (lP l) k) (EA (lH l) (lP l)))/\(j<=k->e'=e)
theorem uN.zero (l:List mL):uN l l 0:=⟨rfl,λk e he=>⟨e,he,rfl,λh=>by omega,λ_=>rfl⟩⟩
theorem uN.xs {l l':List mL} {j:Nat} (h:uN l l' j):lH l'=lH l:=by
 apply List.ext_getElem?;intro k;unfold lH;rw [List.getElem?_map,List.getElem?_map];cases he:l[k]? with
 | none=>
  have:=h.len;rw [List.getElem?_eq_none (by have:=List.getElem?_eq_none_iff.1 he;omega)]
 | some e=>
  obtain ⟨e',h1,h2,_⟩:=h.at_ k e he;rw [h1];simp [h2]
theorem uN.fs {l l':List mL} (h:uN l l' l.length):lP l'=sK (lH l) (lP l):=by
 apply List.ext_getElem
 ·rw [nK];simp [lP,h.len]
 ·intro k h1 h2;have hk:k < l.length:=by have:=h.len;simp [lP] at h1;omega
  obtain ⟨e,he⟩:=bI hk;obtain ⟨e',q1,_,q3,_⟩:=h.at_ k e he;have q4:=(q3 hk).1;rw [List.getD_eq_getElem?_getD,List.getElem?_eq_getElem h2] at q4;have q5:=(AW q1).2;rw [List.getD_eq_getElem?_getD,List.getElem?_eq_getElem h1] at q5;simp only [Option.getD_some] at q4 q5;rw [q5,q4]
theorem uN.next {l l':List mL} {j:Nat} (h:uN l l' j) {e e':mL} (he:l[j]?=some e) (h1:e'.x=e.x) (h2:e'.f=(sK (lH l) (lP l)).getD j 0) (h3:e'.c=e.x.codeK e.f (tI (lH l) (lP l) j) (EA (lH l) (lP l))):uN l (l'.set j e') (j+1):=by
 refine ⟨by rw [List.length_set];exact h.len,λk y hy=>?_⟩;have hj:j < l'.length:=by rw [h.len];exact (List.getElem?_eq_some_iff.1 he).1
 rw [List.getElem?_set];by_cases hk:j=k
 ·subst hk;rw [if_pos rfl,if_pos hj];rw [he] at hy;cases hy;exact ⟨e',rfl,h1,λ_=>⟨h2,h3⟩,λhh=>by omega⟩
 ·rw [if_neg hk];obtain ⟨y',q1,q2,q3,q4⟩:=h.at_ k y hy;exact ⟨y',q1,q2,λhh=>q3 (by omega),λhh=>q4 (by omega)⟩
theorem uN.skip {l l':List mL} {j:Nat} (h:uN l l' j) {e:mL} (he:l[j]?=some e) (h2:e.f=(sK (lH l) (lP l)).getD j 0) (h3:e.c=e.x.codeK e.f (tI (lH l) (lP l) j) (EA (lH l) (lP l))):uN l l' (j+1):=by
 refine ⟨h.len,λk y hy=>?_⟩;obtain ⟨y',q1,q2,q3,q4⟩:=h.at_ k y hy;refine ⟨y',q1,q2,λhh=>?_,λhh=>q4 (by omega)⟩;by_cases hk:k=j
 ·subst hk;rw [he] at hy;cases hy;obtain rfl:=q4 (Nat.le_refl _);exact ⟨h2,h3⟩
 ·exact q3 (by omega)
theorem bEz {B:Nat} {u:Y} {l:List mL} (h:xQ w B u l) (ho:uK (lH l)) (hf:AV (lH l) (lP l)) (hB:B<=w.heap.size)
  (hk:∀ (b:Bool) l' w',xQ w' B u l'->uN l l' l.length->(b=true↔∃ k,k < l.length/\jH (lH l) (lP l) k=false)->(∀ w0,aG w0 w->w0.heap.size<=B->aG w0 w')->K (.bool b) w'):aB prog 122 #[u] w K:=by
 apply aZw;unfold SH;have hlx:(lH l).length=l.length:=by simp [lH]
 have hl:l.length<=6000:=by have:=ho.len;omega
 refine GN h hf hl λatv w1 hat x1=>?_;have hatI:aO w1 atv (lJ l (l.length+1)):=by unfold aO;rw [qJ];exact aA.of_own hat
 refine HK (h.ext x1) hl ho.ok hatI λgL n w2 hgL hqn hn hL x2=>?_;have x02:=x1.trans x2;have h2:=h.ext x02;have hat2:=x2.own hat;refine gE sQ (aA.of_own h2.row) ?_;have hs1:=x1.size;have hs2:=x2.size;refine ⟨λb k w'=>∃ (j:Nat) (bb:Bool) (l':List mL),k=i64 j/\b=.bool bb/\j<=l.length/\xQ w' B u l'/\uN l l' j/\(bb=true↔∃ k,k < j/\jH (lH l) (lP l) k=false)/\Fr (λk=>u.ownBlock=some k) w2 w',λ_ k _=>l.length - (RowKit.intOf k).toNat,⟨0,false,l,rfl,rfl,Nat.zero_le _,h2,uN.zero l,⟨λh=>(by cases h),λ⟨k,hk,_⟩=>(by omega)⟩,Fr.refl _ _⟩,?_⟩;rintro _ _ w3 ⟨j,bb,l',rfl,rfl,hj,h3,hfit,hbb,f3⟩ _;have x3:∀ w0,aG w0 w->w0.heap.size<=B->aG w0 w3:=λw0 hx hs=>f3.ext (hx.trans x02) λi hi=>by have:=(h.row.lt i hi).1;omega
 refine aZ.2 (aC (λhlt=>?_) λhge=>?_)
 ·obtain ⟨e,he⟩:=bI (l:=l) (j:=j) (by omega);obtain ⟨e1,he1,_,_,hsame⟩:=hfit.at_ j e he;obtain rfl:=hsame (Nat.le_refl _);obtain ⟨hxe,hfe⟩:=AW he;have hem:=List.mem_of_getElem? he;have hll:=hfit.len
  obtain ⟨g,cap,rfl⟩:∃ g cap,u=.slice (some ⟨g,0,none⟩) l'.length cap:=by
   rcases h3.row.2 with ⟨_,e0⟩|⟨g',c',_,rfl,_⟩
   ·omega
   ·exact ⟨g',c',rfl⟩
  have hgB:=h3.row.lt g rfl
  have hgw:g < w.heap.size:=by
   have:=h.row.2;rcases this with ⟨e0,_⟩|⟨g',c',_,e0,_⟩
   ·cases e0
   ·exact (h.row.lt g rfl).2
  have hgk:sK (lH l) (lP l)=sK (lH l) (lP l):=rfl;have hgr:(sK (lH l) (lP l)).getD j 0=if jH (lH l) (lP l) j then e1.f else e1.f+1:=by rw [pO _ _ (by simp [lP];omega),hfe]
  refine V.ok (jZ underlying229 xG (by omega) (by rw [hll];omega)) ?_;rw [show (0+((j:Int)).toNat*13:Nat)=j*13 from by simp];obtain ⟨d,hd,had⟩:=aE.ex;obtain ⟨d2,hd2,had2⟩:=jP.ex
  have step:∀ {w':O} {b':Bool} {l2:List mL},xQ w' B (.slice (some ⟨g,0,none⟩) l'.length cap) l2->uN l l2 (j+1)->b'=(bb||!jH (lH l) (lP l) j)->Fr (λk=>k=g) w2 w'->V prog (binOp .add 3 (i64 j) (i64 1)) w' λt w4=>(∃ (j:Nat) (bb:Bool) (l2:List mL),t=i64 j/\Value.bool b'=.bool bb/\j<=l.length/\xQ w4 B (.slice (some ⟨g,0,none⟩) l'.length cap) l2/\uN l l2 j/\(bb=true↔∃ k,k < j/\jH (lH l) (lP l) k=false)/\Fr (λk=>(Value.slice (some ⟨g,0,none⟩) l'.length cap).ownBlock=some k) w2 w4)/\l.length - (RowKit.intOf t).toNat < l.length - (RowKit.intOf (i64 (j:Int))).toNat:=λq1 q2 q3 q4=>by
   refine jS (by omega) ?_;refine ⟨⟨j+1,_,_,rfl,rfl,by omega,q1,q2,?_,q4.mono λk hk=>by subst hk;rfl⟩,by simp only [aK];omega⟩;rw [q3,Bool.or_eq_true,hbb];constructor
   ·rintro (⟨k,hk,hr⟩|hr)
    ·exact ⟨k,by omega,hr⟩
    ·exact ⟨j,by omega,by simpa using hr⟩
   ·rintro ⟨k,hk,hr⟩;by_cases hkj:k=j
    ·subst hkj;right;simp [hr]
    ·exact .inl ⟨k,by omega,hr⟩
  have f3':Fr (λk=>k=g) w2 w3:=f3.mono λk hk=>by cases hk;rfl
  have skip:e1.x.isJ=false->uN l l' (j+1)/\jH (lH l) (lP l) j=true:=λhj0=>by
   have hr:jH (lH l) (lP l) j=true:=by
    unfold jH;rw [hxe];cases hx:e1.x with
    | jump c q=>rw [hx] at hj0;cases hj0
    | _=>rfl
   refine ⟨hfit.skip he (by rw [hgr,hr];rfl) ?_,hr⟩;rw [h.fix e1 hem hj0];cases hx:e1.x with
   | jump c q=>rw [hx] at hj0;cases hj0
   | _=>rfl
  cases hx:e1.x with
  | one i=>
   obtain ⟨q1,q2⟩:=skip (by rw [hx];rfl);have h0:e1.cells[0]?=some (i64 1):=by unfold mL.cells;rw [hx];rfl
   refine ⟨.inl ⟨_,rfl⟩,EW bQ (EW bG (V.ok (jN hd had (h3.at_ (o:=0) he1 h0)) (cL.2 (aC (λ_=>?_) λhh=>absurd (by decide) hh))))⟩;exact step h3 q1 (by rw [q2];simp) f3'
  | place q=>
   obtain ⟨q1,q2⟩:=skip (by rw [hx];rfl);have h0:e1.cells[0]?=some (i64 2):=by unfold mL.cells;rw [hx];rfl
   refine ⟨.inl ⟨_,rfl⟩,EW bQ (EW bG (V.ok (jN hd had (h3.at_ (o:=0) he1 h0)) (cL.2 (aC (λ_=>?_) λhh=>absurd (by decide) hh))))⟩;exact step h3 q1 (by rw [q2];simp) f3'
  | load r n=>
   obtain ⟨q1,q2⟩:=skip (by rw [hx];rfl);have h0:e1.cells[0]?=some (i64 4):=by unfold mL.cells;rw [hx];rfl
   refine ⟨.inl ⟨_,rfl⟩,EW bQ (EW bG (V.ok (jN hd had (h3.at_ (o:=0) he1 h0)) (cL.2 (aC (λ_=>?_) λhh=>absurd (by decide) hh))))⟩;exact step h3 q1 (by rw [q2];simp) f3'
  | jump c q=>
   rw [hx] at hxe;have hcs:e1.cells=[i64 3,i64 0,i64 0,i64 0,i64 0,i64 0,i64 0,i64 q,i64 c,i64 0,i32 0,e1.v,i64 (e1.f:Int)]:=by unfold mL.cells;rw [hx];rfl
   have hoi:cO.okI (.jump c q):=ho.ok _ (List.mem_of_getElem? hxe);obtain ⟨hq0,hc0⟩:(0<=q/\q<=2000)/\(0<=c/\c<=14):=hoi;have hqm:q∈kH (lH l):=ho.jl q (List.mem_flatMap.2 ⟨_,List.mem_of_getElem? hxe,List.mem_singleton.2 rfl⟩);obtain ⟨lb0,lb1,lb2⟩:=aIf hf hqm;have hat0:=hf.at_le j;obtain ⟨q,rfl⟩:=kX hq0.1;have hqL:=hqn q hqm;have hfm:=hf.le2 j;rw [hfe] at hfm;have hrb:jH (lH l) (lP l) j=(mZ c e1.f (tI (lH l) (lP l) j) (EA (lH l) (lP l) q)).all dB:=by unfold jH;rw [hxe];dsimp only;rw [hfe]
   have ld:∀ {w':O} {l2:List mL} {e2:mL} {o:Nat} {n:Int},xQ w' B (.slice (some ⟨g,0,none⟩) l2.length cap) l2->l2[j]?=some e2->e2.cells[o]?=some (i64 n)->(Instr.loadAt 3 (.pointer (some ⟨g,j*13+o,none⟩))).run prog w'=.ok (i64 n) w':=λq1 q2 q3=>jN hd had (q1.at_ q2 q3);refine ⟨.inl ⟨_,rfl⟩,EW bQ (EW bG (V.ok (ld (o:=0) h3 he1 (by rw [hcs];rfl)) (cL.2 (aC (λhh=>absurd rfl hh) λ_=>?_))))⟩;have D:aG w3 w3.drew:=(aG.refl _).drew;have hgL':g < gL:=by omega
   have hL3:=(f3'.blk hL (by omega)).ext D
   have hat3:aO w3.drew atv (lJ l (l.length+1)):=by
    unfold aO;rw [qJ];exact aA.of_own (D.own (f3'.own hat2 λk hk hS=>by have:=(hat2.lt k hk).1;omega))
   have hx3:∀ {w'},aG w3.drew w'->xQ w' B (.slice (some ⟨g,0,none⟩) l'.length cap) l':=λhx=>h3.ext (D.trans hx);refine aL.mk' (λw'=>aG w3.drew w') (aG.refl _) ?_;refine ⟨.inl ⟨_,rfl⟩,yfA bQ (yfA eJ (aF.ok (λw' hw=>ld (o:=8) (hx3 hw) he1 (by rw [hcs];rfl)) ?_))⟩;refine ⟨.inl ⟨_,rfl⟩,yfA gJ (aF.ok (λw' hw=>ld (o:=12) (hx3 hw) he1 (by rw [hcs];rfl)) ?_)⟩;refine nT aP aE hat3 (λ_ h=>h) (by omega) (by rw [qJ];omega) (cM (wQ (by omega))) ?_;refine ⟨.inl ⟨_,rfl⟩,yfA bQ (yfA cD (aF.ok (λw' hw=>ld (o:=7) (hx3 hw) he1 (by rw [hcs];rfl)) ?_))⟩;refine nT aP aE (hL3.slice (pM _ _ _ _) (by unfold maxLen;omega)) (λ_ h=>h) (by omega) (by omega) (by rw [Int.toNat_natCast];exact vP hqL) ?_;have hlab:yT (lH l) (lP l) (q:Int) l.length=EA (lH l) (lP l) q:=by unfold EA;rw [hlx]
   rw [hlab];refine aRt hc0 hfm (by unfold Adr;omega) (by unfold Adr;omega) λv4 w4 hv4 x4=>⟨x4,.inl ⟨_,rfl⟩,?_⟩;refine yfA gC ?_;have x34:=D.trans x4;have s3:=f3.size;have s34:=x34.size;have sD:=D.size;have h4:xQ w4 B (.slice (some ⟨g,0,none⟩) l'.length cap) l':=h3.ext x34;have hown:gU w4 B v4 (mZ c e1.f (tI (lH l) (lP l) j) (EA (lH l) (lP l) q)):=aU hv4 (by omega);refine h4.put (o:=11) (e':=⟨e1.x,e1.f,mZ c e1.f (tI (lH l) (lP l) j) (EA (lH l) (lP l) q),v4⟩) UH he1 (by rw [hcs];unfold mL.cells;dsimp only;rw [hx];rfl) (by decide) (oQ hv4) hown (λhj0=>by dsimp only at hj0;rw [hx] at hj0;cases hj0) (Nat.le_trans vQ (by decide)) λw5 h5 f5=>?_;have he5:(l'.set j ⟨e1.x,e1.f,mZ c e1.f (tI (lH l) (lP l) j) (EA (lH l) (lP l) q),v4⟩)[j]?=some ⟨e1.x,e1.f,mZ c e1.f (tI (lH l) (lP l) j) (EA (lH l) (lP l) q),v4⟩:=by rw [List.getElem?_set_self (by omega)]
   have hl5:(l'.set j ⟨e1.x,e1.f,mZ c e1.f (tI (lH l) (lP l) j) (EA (lH l) (lP l) q),v4⟩).length=l'.length:=List.length_set;rw [<- hl5] at h5
   have c5:∀ {o:Nat} {z:Y},(e1.cells.set 11 v4)[o]?=some z->(mL.cells ⟨e1.x,e1.f,mZ c e1.f (tI (lH l) (lP l) j) (EA (lH l) (lP l) q),v4⟩)[o]?=some z:=λ{o z} hz=>by
    rw [hcs] at hz;unfold mL.cells;dsimp only;rw [hx];exact hz
   refine ⟨.inl ⟨_,rfl⟩,EW gC (V.ok (jN hd2 had2 (h5.at_ (o:=11) he5 (c5 (by rw [hcs];rfl)))) ?_)⟩;have hl2:=vQ (c:=c) (a:=(tI (lH l) (lP l) j:Int)) (b:=EA (lH l) (lP l) q) (f:=e1.f);refine bGj (h5.code _ (List.mem_of_getElem? he5)) (by dsimp only;omega) UE λw6 x6=>dO.2 ?_;dsimp only;rw [<- hrb];have h6:=h5.ext x6;have f26:Fr (λk=>k=g) w2 w6:=((f3'.trans (Fr.of_ext x34) λ_ _ h=>h).trans f5 λ_ _ h=>h).trans (Fr.of_ext x6) λ_ _ h=>h;cases hr:jH (lH l) (lP l) j with
   | true=>
    refine aM.2 ?_;rw [hl5] at h6;refine step h6 (hfit.next he rfl (by rw [hgr,hr];rfl) (by rw [hx];rfl)) (by rw [hr];simp) f26
   | false=>
    refine bH.2 ⟨.inl ⟨_,rfl⟩,EW gJ (V.ok (ld (o:=12) h6 he5 (c5 (by rw [hcs];rfl))) (bJ.2 ?_))⟩;rw [aQ (by omega),bK];refine ⟨.inl ⟨_,rfl⟩,EW gJ ?_⟩;refine h6.put (o:=12) (e':=⟨e1.x,e1.f+1,mZ c e1.f (tI (lH l) (lP l) j) (EA (lH l) (lP l) q),v4⟩) bT he5 (by unfold mL.cells;dsimp only;rw [hx];rfl) (by decide) rfl ((h5.code _ (List.mem_of_getElem? he5)).ext x6) (λhj0=>by dsimp only at hj0;rw [hx] at hj0;cases hj0) (Nat.le_trans vQ (by decide)) λw7 h7 f7=>?_;rw [hl5,List.set_set] at h7;refine step h7 (hfit.next he rfl (by rw [hgr,hr];rfl) (by rw [hx];rfl)) (by rw [hr];simp) (f26.trans f7 λ_ _ h=>h)
 ·obtain rfl:j=l.length:=by omega
  exact hk bb l' w3 h3 hfit hbb x3
theorem BV {a:Nat} (h:a < 18446744073709551616):(BitVec.ofInt 64 (a:Int)).toNat=a:=by rw [BitVec.toNat_ofInt];omega
theorem bNh {a b:Nat} (ha:a < 4294967296) (hb:b < 4294967296):IntKind.i64.wrap (((BitVec.ofInt IntKind.i64.bits (a:Int) ||| BitVec.ofInt IntKind.i64.bits (b:Int)).toNat:Nat):Int)=((a ||| b:Nat):Int):=by
 have h:a ||| b < 4294967296:=Nat.or_lt_two_pow (n:=32) ha hb;rw [show IntKind.i64.bits=64 from rfl,BitVec.toNat_or,BV (by omega),BV (by omega)];exact aQ (by omega)
theorem bMj {a b:Nat} (ha:a < 4294967296) (hb:b < 4294967296):IntKind.i64.wrap (((BitVec.ofInt IntKind.i64.bits (a:Int) &&& BitVec.ofInt IntKind.i64.bits (b:Int)).toNat:Nat):Int)=((a &&& b:Nat):Int):=by
 have h:a &&& b<=a:=Nat.and_le_left;rw [show IntKind.i64.bits=64 from rfl,BitVec.toNat_and,BV (by omega),BV (by omega)];exact aQ (by omega)
theorem bKl {a b:Nat} (ha:a < 2) (hb:b < 2):IntKind.i64.wrap (((BitVec.ofInt IntKind.i64.bits (a:Int) ^^^ BitVec.ofInt IntKind.i64.bits (b:Int)).toNat:Nat):Int)=((a ^^^ b:Nat):Int):=by
 have:(a=0\/a=1)/\(b=0\/b=1):=by omega
 rcases this with ⟨rfl|rfl,rfl|rfl⟩<;>decide
theorem bBb {a s:Nat} (h:a*2 ^ s < 4294967296) (hs:s<=64):IntKind.i64.wrap ((a:Int)*2 ^ (min (s:Int).toNat IntKind.i64.bits))=((a <<< s:Nat):Int):=by
 rw [Int.toNat_natCast,show IntKind.i64.bits=64 from rfl,Nat.min_eq_left hs,Nat.shiftLeft_eq];have e:(a:Int)*2 ^ s=((a*2 ^ s:Nat):Int):=by push_cast;rfl
 rw [e];exact aQ (by omega)
theorem bKs {a:Int} {s:Nat} (hs:s<=64):a.fdiv (2 ^ (min (s:Int).toNat IntKind.i64.bits))=a / ((2 ^ s:Nat):Int):=by
 rw [Int.toNat_natCast,show IntKind.i64.bits=64 from rfl,Nat.min_eq_left hs,Int.fdiv_eq_ediv_of_nonneg _ (Int.le_of_lt (Int.pow_pos (by decide)))]
 push_cast;rfl
theorem bKt {a s:Nat} (hs:s<=64):(a:Int).fdiv (2 ^ (min (s:Int).toNat IntKind.i64.bits))=((a >>> s:Nat):Int):=by
 rw [bKs hs,Nat.shiftRight_eq_div_pow];push_cast;rfl
section
variable {P:Program} {t:TypeId} {k':IntKind} {x y:Int} {a b s:Nat}
theorem vOr (hx:x=a) (hy:y=b) (ha:a < 4294967296) (hb:b < 4294967296) (hk:K (i64 ((a ||| b:Nat):Int)) w):V P (binOp .or t (i64 x) (i64 y)) w K:=by
 subst hx hy;refine V.ok bLb ?_;rw [bNh ha hb];exact hk
theorem bNc (hx:x=a) (hy:y=b) (ha:a < 4294967296) (hb:b < 4294967296) (hk:K (i64 ((a &&& b:Nat):Int)) w):V P (binOp .and t (i64 x) (i64 y)) w K:=by
 subst hx hy;refine V.ok DN ?_;rw [bMj ha hb];exact hk
theorem bKp (hx:x=a) (hy:y=b) (ha:a < 2) (hb:b < 2) (hk:K (i64 ((a ^^^ b:Nat):Int)) w):V P (binOp .xor t (i64 x) (i64 y)) w K:=by
 subst hx hy;refine V.ok bBi ?_;rw [bKl ha hb];exact hk
theorem aFl (hx:x=a) (hy:y=s) (h:a*2 ^ s < 4294967296) (hs:s<=64) (hk:K (i64 ((a <<< s:Nat):Int)) w):V P (binOp .shl t (i64 x) (.int k' y)) w K:=by
 subst hx hy;refine V.ok (LZ (by omega)) ?_;rw [bBb h hs];exact hk
theorem bNb (hx:x=a) (hy:y=s) (hs:s<=64) (hk:K (i64 ((a >>> s:Nat):Int)) w):V P (binOp .shr t (i64 x) (.int k' y)) w K:=by
 subst hx hy;refine V.ok (vY (by omega)) ?_;rw [bKt hs];exact hk
theorem WA (hy:y=s) (hs:s<=64) (hk:K (i64 (x / ((2 ^ s:Nat):Int))) w):V P (binOp .shr t (i64 x) (.int k' y)) w K:=by
 subst hy;refine V.ok (vY (by omega)) ?_;rw [bKs hs];exact hk
theorem WB (hy:y=((2 ^ b - 1:Nat):Int)) (hb:b<=32) (hx:x % ((2 ^ b:Nat):Int)=a) (hk:K (i64 (a:Int)) w):V P (binOp .and t (i64 x) (i64 y)) w K:=by
 subst hy;refine V.ok DN ?_;rw [show IntKind.i64.wrap (((BitVec.ofInt IntKind.i64.bits x &&& BitVec.ofInt IntKind.i64.bits ((2 ^ b - 1:Nat):Int)).toNat:Nat):Int)=(a:Int) from (aHy (n:=x) hb).trans hx];exact hk
end
def hwC (l:List Nat):List Y:=l.map λ(h:Nat)=>u16 (h:Int)
def sP (w:O) (B:Nat) (v:Y) (l:List Nat):Prop:=w.ownsRow B 151 1 v l.length (hwC l)
theorem aSe {b:Bool} (hk:K (i64 ((if b then 1 else 0:Nat):Int)) w):aB prog 217 #[.bool b] w K:=by
 apply aWa;unfold OT;cases b with
 | true=>exact bH.2 hk
 | false=>exact aM.2 hk
theorem vN {a:Int} {m:Nat} (hm:0 < m):∃ x:Nat,x < m/\a % (m:Int)=x/\(a % (m:Int)).toNat=x:=by
 have h0:0<=a % (m:Int):=Int.emod_nonneg _ (by omega);have h1:a % (m:Int) < m:=Int.emod_lt_of_pos _ (by omega);exact ⟨(a % (m:Int)).toNat,by omega,by omega,rfl⟩
theorem aRk {imm:Int} (hk:∀ v w',sP w' w.heap.size v (blN imm)->aG w w'->K v w'):aB prog 181 #[i64 imm] w K:=by
 apply aXl;unfold QA;refine aZ.2 (aSe ?_);have hs:(if decide (imm < 0) then 1 else 0:Nat)=if imm < 0 then 1 else 0:=by by_cases h:imm < 0<;>simp [h]
 rw [hs];have hN:blN imm=[aEp (if imm < 0 then 1 else 0) ((imm / 4096) % 1024).toNat,aEo (1 - (KL imm 23 ^^^ if imm < 0 then 1 else 0)) (1 - (KL imm 22 ^^^ if imm < 0 then 1 else 0)) ((imm / 2) % 2048).toNat]:=rfl;rw [hN] at hk;unfold KL at hk;have hs2:(if imm < 0 then 1 else 0:Nat) < 2:=by split<;>decide
 generalize (if imm < 0 then 1 else 0:Nat)=s at hk hs2;obtain ⟨b23,l23,m23,n23⟩:=vN (a:=imm / ((2 ^ 23:Nat):Int)) (m:=2) (by decide);obtain ⟨b22,l22,m22,n22⟩:=vN (a:=imm / ((2 ^ 22:Nat):Int)) (m:=2) (by decide);obtain ⟨x,lx,mx,nx⟩:=vN (a:=imm / 4096) (m:=1024) (by decide);obtain ⟨y,ly,my,ny⟩:=vN (a:=imm / 2) (m:=2048) (by decide);have nx':(imm / 4096 % 1024).toNat=x:=nx;have ny':(imm / 2 % 2048).toNat=y:=ny;have n23':(imm / ((2 ^ 23:Nat):Int) % 2).toNat=b23:=n23;have n22':(imm / ((2 ^ 22:Nat):Int) % 2).toNat=b22:=n22;rw [nx',ny',n23',n22'] at hk;have x23:=Nat.xor_lt_two_pow (n:=1) l23 hs2;have x22:=Nat.xor_lt_two_pow (n:=1) l22 hs2;refine WA (s:=23) rfl (by decide) (WB (b:=1) rfl (by decide) m23 ?_);refine bKp rfl rfl l23 hs2 (fT.2 ?_);rw [aQ (by omega),show (1:Int) - ((b23 ^^^ s:Nat):Int)=((1 - (b23 ^^^ s):Nat):Int) from by omega];refine WA (s:=22) rfl (by decide) (WB (b:=1) rfl (by decide) m22 ?_);refine bKp rfl rfl l22 hs2 (fT.2 ?_);rw [aQ (by omega),show (1:Int) - ((b22 ^^^ s:Nat):Int)=((1 - (b22 ^^^ s):Nat):Int) from by omega];generalize hj:1 - (b23 ^^^ s)=j at hk;generalize hkk:1 - (b22 ^^^ s)=k at hk;have j2:j < 2:=by omega
 have k2:k < 2:=by omega
 have c1:=kC cHi hs2 lx;have c2:=oR (kC cLo j2 k2) ly;simp only [Bool.and_eq_true,decide_eq_true_eq] at c1 c2;have hs10:s <<< 10 < 4294967296:=by rw [Nat.shiftLeft_eq];omega
 have hj13:j <<< 13 < 4294967296:=by rw [Nat.shiftLeft_eq];omega
 have hk11:k <<< 11 < 4294967296:=by rw [Nat.shiftLeft_eq];omega
 have o1:61440 ||| s <<< 10 < 4294967296:=Nat.or_lt_two_pow (n:=32) (by decide) hs10;have o2:53248 ||| j <<< 13 < 4294967296:=Nat.or_lt_two_pow (n:=32) (by decide) hj13;have o3:53248 ||| j <<< 13 ||| k <<< 11 < 4294967296:=Nat.or_lt_two_pow (n:=32) o2 hk11;refine aFl (s:=10) rfl rfl (by omega) (by decide) (vOr (a:=61440) rfl rfl (by decide) hs10 ?_);refine WA (s:=12) rfl (by decide) (WB (b:=10) rfl (by decide) mx (vOr rfl rfl o1 (by omega) ?_));refine V.ok (lU underlying3 underlying151) ?_;have e1:61440 ||| s <<< 10 ||| x=aEp s x:=rfl;rw [e1,vX (by omega) (by omega)];refine aFl (s:=13) rfl rfl (by omega) (by decide) (vOr (a:=53248) rfl rfl (by decide) hj13 ?_);refine aFl (s:=11) rfl rfl (by omega) (by decide) (vOr rfl rfl o2 hk11 ?_);refine WA (s:=1) rfl (by decide) (WB (b:=11) rfl (by decide) my (vOr rfl rfl o3 (by omega) ?_));refine V.ok (lU underlying3 underlying151) ?_;have e2:53248 ||| j <<< 13 ||| k <<< 11 ||| y=aEo j k y:=rfl;rw [e2,vX (by omega) (by omega)];exact jG aFd [u16 (aEp s x:Int),u16 (aEo j k y:Int)] rfl rfl (by simp) rfl λv w1 ho x1=>hk v w1 ho x1
structure AU (s:jX):Prop where
 b0:0<=s.bits
 s0:0<=s.shift
 bs:s.bits+s.shift<=16
 st:1<=s.step
 p0:0<=s.part
 p4:s.part<=4
 l0:-4096<=s.least
 m0:s.most<=4096
 b1:s.bits<=11
 s4:s.step<=4
def JB (s:jX):Bool:=decide (0<=s.bits)&&decide (0<=s.shift)&&decide (s.bits+s.shift<=16)&&decide (1<=s.step)&&decide (0<=s.part)&&decide (s.part<=4)&&decide (-4096<=s.least)&&decide (s.most<=4096)&&decide (s.bits<=11)&&decide (s.step<=4)
theorem AU.of {s:jX} (h:JB s=true):AU s:=by
 simp only [JB,Bool.and_eq_true,decide_eq_true_eq] at h;obtain ⟨⟨⟨⟨⟨⟨⟨⟨⟨h1,h2⟩,h3⟩,h4⟩,h5⟩,h6⟩,h7⟩,h8⟩,h9⟩,h10⟩:=h;exact ⟨h1,h2,h3,h4,h5,h6,h7,h8,h9,h10⟩
theorem NV {op b:Int} {sl:List jX} (h:dH op=some (b,sl)):0<=b/\b < 65536/\sl.all JB=true:=by
 unfold dH at h;by_cases c:12<=op/\op<=27
 ·rw [if_pos c] at h;cases h;exact ⟨by omega,by omega,by decide⟩
 rw [if_neg c] at h;clear c;by_cases c:8<=op/\op<=11
 ·rw [if_pos c] at h;cases h;exact ⟨by omega,by omega,by decide⟩
 rw [if_neg c] at h;clear c;by_cases c:op=1
 ·rw [if_pos c] at h;cases h;exact ⟨by omega,by omega,by decide⟩
 rw [if_neg c] at h;clear c;by_cases c:op=2
 ·rw [if_pos c] at h;cases h;exact ⟨by omega,by omega,by decide⟩
 rw [if_neg c] at h;clear c;by_cases c:op=3
 ·rw [if_pos c] at h;cases h;exact ⟨by omega,by omega,by decide⟩
 rw [if_neg c] at h;clear c;by_cases c:op=4
 ·rw [if_pos c] at h;cases h;exact ⟨by omega,by omega,by decide⟩
 rw [if_neg c] at h;clear c;by_cases c:op=5
 ·rw [if_pos c] at h;cases h;exact ⟨by omega,by omega,by decide⟩
 rw [if_neg c] at h;clear c;by_cases c:op=6
 ·rw [if_pos c] at h;cases h;exact ⟨by omega,by omega,by decide⟩
 rw [if_neg c] at h;clear c;by_cases c:op=7
 ·rw [if_pos c] at h;cases h;exact ⟨by omega,by omega,by decide⟩
 rw [if_neg c] at h;clear c;by_cases c:op=30
 ·rw [if_pos c] at h;cases h;exact ⟨by omega,by omega,by decide⟩
 rw [if_neg c] at h;clear c;by_cases c:op=29
 ·rw [if_pos c] at h;cases h;exact ⟨by omega,by omega,by decide⟩
 rw [if_neg c] at h;clear c;by_cases c:op=32
 ·rw [if_pos c] at h;cases h;exact ⟨by omega,by omega,by decide⟩
 rw [if_neg c] at h;clear c;by_cases c:op=31
 ·rw [if_pos c] at h;cases h;exact ⟨by omega,by omega,by decide⟩
 rw [if_neg c] at h;clear c;by_cases c:op=34
 ·rw [if_pos c] at h;cases h;exact ⟨by omega,by omega,by decide⟩
 rw [if_neg c] at h;clear c;by_cases c:op=33
 ·rw [if_pos c] at h;cases h;exact ⟨by omega,by omega,by decide⟩
 rw [if_neg c] at h;clear c;unfold mQ at h;by_cases c:op=36
 ·rw [if_pos c] at h;cases h;exact ⟨by omega,by omega,by decide⟩
 rw [if_neg c] at h;clear c;by_cases c:op=35
 ·rw [if_pos c] at h;cases h;exact ⟨by omega,by omega,by decide⟩
 rw [if_neg c] at h;clear c;by_cases c:op=37
 ·rw [if_pos c] at h;cases h;exact ⟨by omega,by omega,by decide⟩
 rw [if_neg c] at h;clear c;by_cases c:op=38
 ·rw [if_pos c] at h;cases h;exact ⟨by omega,by omega,by decide⟩
 rw [if_neg c] at h;clear c;by_cases c:op=39
 ·rw [if_pos c] at h;cases h;exact ⟨by omega,by omega,by decide⟩
 rw [if_neg c] at h;clear c;by_cases c:op=40
 ·rw [if_pos c] at h;cases h;exact ⟨by omega,by omega,by decide⟩
 rw [if_neg c] at h;clear c;by_cases c:op=41
 ·rw [if_pos c] at h;cases h;exact ⟨by omega,by omega,by decide⟩
 rw [if_neg c] at h;clear c;by_cases c:op=42
 ·rw [if_pos c] at h;cases h;exact ⟨by omega,by omega,by decide⟩
 rw [if_neg c] at h;clear c;by_cases c:op=44
 ·rw [if_pos c] at h;cases h;exact ⟨by omega,by omega,by decide⟩
 rw [if_neg c] at h;clear c;by_cases c:op=45
 ·rw [if_pos c] at h;cases h;exact ⟨by omega,by omega,by decide⟩
 rw [if_neg c] at h;clear c;cases h
theorem aQs {h:Nat} {s:jX} {n:Int} (hs:AU s) (hh:h < 65536):TO h s n < 65536:=by
 have h1:=hs.b0;have h2:=hs.s0;have h3:=hs.bs;unfold TO;refine Nat.or_lt_two_pow (n:=16) hh ?_;obtain ⟨x,lx,_,nx⟩:=vN (a:=n.tdiv s.step) (m:=2 ^ s.bits.toNat) (Nat.pow_pos (by decide));rw [nx,Nat.shiftLeft_eq]
 calc x*2 ^ s.shift.toNat < 2 ^ s.bits.toNat*2 ^ s.shift.toNat:=Nat.mul_lt_mul_of_pos_right lx (Nat.pow_pos (by decide))
  _=2 ^ (s.bits.toNat+s.shift.toNat):=(Nat.pow_add 2 _ _).symm
  _<=2 ^ 16:=Nat.pow_le_pow_right (by decide) (by omega)
theorem rQ {sl:List jX} {i:iL} {k:Int} (hp:jW sl i k=true) (hs:∀ s∈sl,AU s):-4096<=i.part k/\i.part k<=4096:=by
 cases hf:sl.find? (λs=>decide (s.part=k)) with
 | none=>rw [gF hp hf];exact ⟨by decide,by decide⟩
 | some s=>
  obtain ⟨h1,h2,_⟩:=kB hp hf;have ho:=hs s (List.mem_of_find?_eq_some hf);have:=ho.l0;have:=ho.m0;exact ⟨by omega,by omega⟩
theorem UU {α β:Type} (f:β->α->β) (b:β) (l:List α) {j:Nat} {x:α} (h:l[j]?=some x):(l.take (j+1)).foldl f b=f ((l.take j).foldl f b) x:=by
 rw [List.take_add_one,h,List.foldl_append];rfl
theorem TC {a b:Int} (hb:1<=b) (h0:-4096<=a) (h1:a<=4096):-4096<=a.tdiv b/\a.tdiv b<=4096:=by
 have h2:(a.tdiv b).natAbs<=a.natAbs:=by
  rw [Int.natAbs_tdiv];exact Nat.div_le_self _ _
 omega
theorem aEb {i:iL} (hr:dB i=true) (ho:zS i.op) (hb:FV i) (hk:∀ v w',sP w' w.heap.size v (GC i)->aG w w'->K (.tuple #[v,i64 0]) w'):aB prog 124 #[.agg i.cells.toArray] w K:=by
 apply aZu;unfold SF;refine bx λb w1 hbx x1=>?_;have hbx:bF w1 b i.cells:=hbx;refine iC hbx qX rfl ?_;refine DJ hb.1 hb.2 λw2 x2=>dO.2 ?_;rw [hr];refine aM.2 ?_;have x02:=x1.trans x2;have hb2:=hbx.ext x2;have fi:∀ {R:Y->O->Prop} {f:Nat} {v:Y},FA prog 83 f f->i.cells[f]?=some v->R v w2->V prog (Instr.fieldAt 83 (.pointer (some ⟨b,0,none⟩)) f) w2 λq w2=>V prog (Instr.loadAt 3 q) w2 R:=λhf hv hr=>aV hb2 hf aE hv hr;refine fi mU rfl (aJ.2 (aC (λe=>?_) λe28=>?_))
 ·obtain ⟨p,q,hp,hq,rfl⟩:=zZ hr e;have hN:GC ⟨28,p,0,q,0,0⟩=[TV p q]:=rfl;rw [hN] at hk;have c:=kC c28 hp hq;simp only [bDq,Bool.and_eq_true,decide_eq_true_eq] at c;have e0:TV (p:Int) (q:Int)=17920 ||| p >>> 3 <<< 7 ||| q <<< 3 ||| (p &&& 7):=rfl;have a1:p >>> 3<=p:=by rw [Nat.shiftRight_eq_div_pow];exact Nat.div_le_self _ _
  have a2:p >>> 3 <<< 7 < 4294967296:=by rw [Nat.shiftLeft_eq];omega
  have a3:q <<< 3 < 4294967296:=by rw [Nat.shiftLeft_eq];omega
  have a4:p &&& 7<=p:=Nat.and_le_left;have o1:17920 ||| p >>> 3 <<< 7 < 4294967296:=Nat.or_lt_two_pow (n:=32) (by decide) a2;have o2:17920 ||| p >>> 3 <<< 7 ||| q <<< 3 < 4294967296:=Nat.or_lt_two_pow (n:=32) o1 a3;refine fi mI rfl (bNb (a:=p) (s:=3) rfl rfl (by decide) (aFl (s:=7) rfl rfl (by omega) (by decide) (vOr (a:=17920) rfl rfl (by decide) a2 ?_)));refine fi nL rfl (aFl (a:=q) (s:=3) rfl rfl (by omega) (by decide) (vOr rfl rfl o1 a3 ?_));refine fi mI rfl (bNc (a:=p) (b:=7) rfl rfl (by omega) (by decide) (vOr rfl rfl o2 (by omega) ?_));refine V.ok (lU underlying3 underlying151) ?_;rw [<- e0,vX (by omega) (by omega)];refine jG aFd [u16 (TV p q:Int)] rfl rfl (by simp) rfl λv w3 ho3 x3=>?_;exact hk v w3 (aU ho3 x02.size) (x02.trans x3)
 refine aJ.2 (aC (λe=>?_) λe43=>?_)
 ·have hN:GC i=blN i.imm:=by unfold GC;rw [if_neg e28,if_pos e]
  rw [hN] at hk;refine fi mT rfl (aRk λv w3 ho3 x3=>?_);exact hk v w3 (aU ho3 x02.size) (x02.trans x3)
 have hao:vH i.op:=by
  rcases ho with h|h|h
  ·exact h
  ·exact absurd h e28
  ·exact absurd h e43
 obtain ⟨⟨base,sl⟩,hf,hback⟩:=YT hr hao;have hN:GC i=[BT (base,sl) i]:=by unfold GC;rw [if_neg e28,if_neg e43,hf]
 rw [hN] at hk;obtain ⟨fb0,fb1,hsl⟩:=NV hf;have hso:∀ s∈sl,AU s:=λs hs=>AU.of (List.all_eq_true.1 hsl s hs);obtain ⟨p0,p1,p2,p3,p4⟩:=kS hr hf e28 e43
 have hpart:∀ s∈sl,-4096<=i.part s.part/\i.part s.part<=4096:=λs hs=>by
  have h0:=(hso s hs).p0;have h4:=(hso s hs).p4;have:s.part=0\/s.part=1\/s.part=2\/s.part=3\/s.part=4:=by omega
  rcases this with h|h|h|h|h<;>rw [h]
  ·exact rQ p0 hso
  ·exact rQ p1 hso
  ·exact rQ p2 hso
  ·exact rQ p3 hso
  ·exact rQ p4 hso
 have hll:=(NW hf).1;refine fi mU rfl (aJh λv w3 hv x3=>?_);rw [hf] at hv;obtain ⟨sv,rfl,hsv⟩:=hv;refine gR.2 (gQ.2 ?_);refine tH aGb rfl (aHh (oQ hsv)) λw4 h4 x4=>?_;have h4:bF w4 w3.heap.size [i64 i.op,u16 base,sv]:=bO.boxed h4;refine aV h4 eZ iY rfl (aV h4 eM iN rfl (gE IP (aA.of_own (x4.own hsv)) ?_));have x04:=(x02.trans x3).trans x4;have x24:=x3.trans x4;obtain ⟨bn,rfl⟩:=kX fb0;refine ⟨λh k w'=>∃ (j hn:Nat),k=i64 j/\h=u16 (hn:Int)/\j<=sl.length/\hn < 65536/\hn=(sl.take j).foldl (λh s=>TO h s (i.part s.part)) bn/\aG w4 w',λ_ k _=>sl.length - (RowKit.intOf k).toNat,⟨0,bn,rfl,rfl,Nat.zero_le _,by omega,rfl,aG.refl _⟩,?_⟩;rintro _ _ w5 ⟨j,hn,rfl,rfl,hj,hlt,hfold,x5⟩ _;refine aZ.2 (aC (λhjl=>?_) λhge=>?_)
 ·obtain ⟨s,hs⟩:=bI (l:=sl) (j:=j) (by omega);have hsm:=List.mem_of_getElem? hs;have so:=hso s hsm;have b0:=so.b0;have s0:=so.s0;have bs:=so.bs;have st:=so.st;obtain ⟨q1,q2⟩:=hpart s hsm;refine vV IP fM (aA.of_own ((x4.trans x5).own hsv)) (by omega) (by omega) (aFx hs) rfl ?_;refine tH JE rfl rfl λw6 h8 x6=>?_;have h8:bF w6 w5.heap.size s.cells:=bO.boxed h8;have D:aG w6 w6.drew:=(aG.refl _).drew;have hb6:bF w6.drew b i.cells:=(((hb2.ext x24).ext x5).ext x6).ext D;refine aL.mk' (λw'=>aG w6.drew w') (aG.refl _) ?_;refine iB (λw' hx=>(h8.ext D).ext hx) iJ aE rfl ?_;refine iB (λw' hx=>(h8.ext D).ext hx) iI aE rfl ?_;refine aHe ⟨aG.refl _,.inl ⟨_,rfl⟩,?_⟩;obtain ⟨d,hd,had⟩:=aE.ex;refine aF.ok (λw' hx=>jN hd had (v:=i64 (i.part s.part)) (by have:=(hb6.ext hx) _ _ (WW i s.part);rwa [Nat.zero_add] at this)) ?_;refine aF.ok (λw' _=>WM (by omega)) ?_;obtain ⟨t1,t2⟩:=TC st q1 q2;rw [aQ (by omega)];have D2:aG w6.drew w6.drew.drew:=(aG.refl _).drew;have h82:=(h8.ext D).ext D2;obtain ⟨nb,hnb⟩:=kX b0;obtain ⟨ns,hns⟩:=kX s0;have hpw:(2:Nat) ^ nb<=65536:=Nat.pow_le_pow_right (n:=2) (by decide) (show nb<=16 by omega);have hpp:0 < (2:Nat) ^ nb:=Nat.pow_pos (by decide);obtain ⟨x,lx,mx,nx⟩:=vN (a:=(i.part s.part).tdiv s.step) (m:=2 ^ nb) hpp
  have hput:TO hn s (i.part s.part)=hn ||| x <<< ns:=by
   unfold TO;rw [hnb,hns,Int.toNat_natCast,Int.toNat_natCast,nx]
  have hmul:x*2 ^ ns < 65536:=by
   calc x*2 ^ ns < 2 ^ nb*2 ^ ns:=Nat.mul_lt_mul_of_pos_right lx (Nat.pow_pos (by decide))
    _=2 ^ (nb+ns):=(Nat.pow_add 2 _ _).symm
    _<=2 ^ 16:=Nat.pow_le_pow_right (by decide) (by omega)
  have hxs:x <<< ns < 65536:=by rw [Nat.shiftLeft_eq];exact hmul
  refine aL.mk' (λw'=>aG w6.drew.drew w') (aG.refl _) ?_;refine iB (λw' hx=>h82.ext hx) jB aE rfl ?_
  refine aF.ok (v:=i64 ((1 <<< nb:Nat):Int)) (λw' _=>by
   rw [hnb];exact (LZ (by omega)).trans (congrArg (λz=>Result.ok (Value.int .i64 z) w') (bBb (a:=1) (s:=nb) (by omega) (by omega)))) ?_
  refine aF.ok (v:=i64 ((2 ^ nb - 1:Nat):Int)) (λw' _=>fG.trans (by rw [show (((1 <<< nb:Nat):Int) - 1)=((2 ^ nb - 1:Nat):Int) from by rw [Nat.one_shiftLeft];omega,aQ (by omega)])) ?_;refine aF.ok (v:=i64 (x:Int)) (λw' _=>DN.trans (congrArg (λz=>Result.ok (Value.int .i64 z) w') ((aHy (n:=(i.part s.part).tdiv s.step) (b:=nb) (by omega)).trans mx))) ?_;refine aF.ok (v:=u16 (x:Int)) (λw' _=>(lU underlying3 underlying151).trans (congrArg (λz=>Result.ok (Value.int .u16 z) w') (vX (by omega) (by omega)))) ?_;refine iB (λw' hx=>h82.ext hx) jC aE rfl ?_
  refine aF.ok (v:=u16 ((x <<< ns:Nat):Int)) (λw' _=>by
   rw [hns];refine (LZ (by omega)).trans (congrArg (λz=>Result.ok (Value.int .u16 z) w') ?_);rw [Int.toNat_natCast];exact bKu hmul (by omega)) ?_
  refine aF.ok (v:=u16 ((TO hn s (i.part s.part):Nat):Int)) (λw' _=>bLb.trans (congrArg (λz=>Result.ok (Value.int .u16 z) w') ((bNi hlt hxs).trans (by rw [hput])))) ?_;refine jS (by omega) ?_;refine ⟨⟨j+1,_,rfl,rfl,by omega,aQs so hlt,?_,(x5.trans x6).trans (D.trans D2)⟩,by simp only [aK];omega⟩;rw [UU _ _ _ hs,<- hfold]
 ·have ee:sl.take j=sl:=List.take_of_length_le (by omega);rw [ee] at hfold;have hen:BT ((bn:Int),sl) i=hn:=by unfold BT;rw [Int.toNat_natCast];exact hfold.symm
  rw [hen] at hk;refine jG aFd [u16 (hn:Int)] rfl rfl (by simp) rfl λv w6 ho6 x6=>?_;have x06:=(x04.trans x5);exact hk v w6 (aU ho6 x06.size) (x06.trans x6)
def bAu:List Y:=bCj++[bC,i64 0]
theorem bFq:BG prog 232 bAu [(0,11),(11,1),(12,1)]:=⟨_,_,_,underlying232,xG,λw=>by kernel_rfl⟩
theorem aJi (x:cO):Instr.fill (([(0,11),(11,1),(12,1)]:List (Nat × Nat)).toArray[·]?) bAu.toArray [(0,.agg x.cells.toArray)]=some (x.cells++[bC,i64 0]).toArray:=by cases x<;>kernel_rfl
theorem xQ.fr {B B' t s n:Nat} {u v:Y} {xs:List Y} {l:List mL} {w':O} (h:xQ w B u l) (hv:w.ownsRow B' t s v n xs) (h1:t≠232) (h2:t≠83) (f:Fr (λk=>v.ownBlock=some k) w w'):xQ w' B u l:=by
 have off:∀ {e':Nat} {B2 s2 n2:Nat} {v2:Y} {xs2:List Y},w.ownsRow B2 e' s2 v2 n2 xs2->e'≠t->∀ k,v2.ownBlock=some k->¬ v.ownBlock=some k:=λh3 hne k hk hk'=>by
  rcases uT h3 hv hne with h4|h4
  ·rw [h4] at hk;cases hk
  ·exact h4 (by rw [hk,hk'])
 exact ⟨f.own h.row (off h.row (Ne.symm h1)),λe he=>f.own (h.code e he) (off (h.code e he) (Ne.symm h2)),h.fix,h.few⟩
theorem xQ.push {B:Nat} {u cv:Y} {l:List mL} {x:cO} {es:Array Y} (h:xQ w B u l) (hB:B<=w.heap.size) (he:es=(x.cells++[cv,i64 0]).toArray) (hc:gU w B cv x.fix) (hl:l.length<=6000) (hf:x.fix.length<=100)
  (hk:∀ u' w',xQ w' B u' (l++[⟨x,0,x.fix,cv⟩])->(∀ w0,aG w0 w->w0.heap.size<=B->aG w0 w')->K u' w') :
  V prog (Instr.buildSlice 229 1 #[(0,.agg es)]) w λt w1=>V prog (Builtin.append_ #[229,229] 229 #[u,t]) w1 K:=by
 subst he;have hcl:(x.cells++[cv,i64 0]).length=13:=by simp [x.len]
 have h1:(x.cells++[cv,i64 0]).all bX=true:=by
  rw [List.all_append,tV,Bool.true_and];show (bX cv&&(bX (i64 0)&&true))=true;rw [oQ hc];rfl
 refine xM underlying229 xG rfl (by decide) [.agg (x.cells++[cv,i64 0]).toArray] rfl rfl (by intro v hv;rw [List.mem_singleton] at hv;subst hv;simpa [Value.cells] using hcl) (by decide) (by decide) λt w1 ho1 x1=>?_;have ho1:w1.ownsRow w.heap.size 232 13 t 1 (x.cells++[cv,i64 0]):=by simpa [Value.cells] using ho1
 have s1:=x1.size;refine apG underlying229 xG rfl (by decide) (h.ext x1).row (aA.of_own ho1) h1 (by omega) (by unfold maxLen;omega) (by omega) λu' w2 ho2 hg2 _=>?_;have f2:Fr (λk=>u.ownBlock=some k) w1 w2:=Fr.of_grown hg2 λk hk=>hk
 have kp:∀ {v:Y} {c:List iL},gU w B v c->gU w2 B v c:=λ{v c} ht=>f2.own (x1.own ht) λk hk hk'=>by
  rcases uT ht h.row (by decide) with h4|h4
  ·rw [h4] at hk;cases hk
  ·exact h4 (by rw [hk,hk'])
 refine hk u' w2 ⟨?_,λe he=>?_,λe he hj=>?_,λe he=>?_⟩ λw0 hx hs=>f2.ext (hx.trans x1) λi hi=>by have:=(h.row.lt i hi).1;omega
 ·rw [List.length_append];have e1:UW l++(x.cells++[cv,i64 0])=UW (l++[⟨x,0,x.fix,cv⟩]):=by simp [UW,mL.cells]
  rw [e1] at ho2;exact ho2
 ·rcases List.mem_append.1 he with he|he
  ·exact kp (h.code e he)
  ·rw [List.mem_singleton] at he;subst he;exact kp hc
 ·rcases List.mem_append.1 he with he|he
  ·exact h.fix e he hj
  ·rw [List.mem_singleton] at he;subst he;rfl
 ·rcases List.mem_append.1 he with he|he
  ·exact h.few e he
  ·rw [List.mem_singleton] at he;subst he;exact hf
theorem KH (x:cO):x.fix.length<=100:=by
 cases x with
 | load r n=>
  have hb:∀ u k,(qW r u k).length<=2*k:=λu k=>by
   induction k with
   | zero=>exact Nat.le_refl _
   | succ k ih=>unfold qW;split<;>simp<;>omega
  have:=hb (n % 4294967296) (tF (n % 4294967296));have h2:=NN (n % 4294967296);show (tC r n).length<=100;simp [tC];omega
 | _=>simp [cO.fix]
theorem GE {i:iL} (h:dB i=true):FV i:=by
 refine ⟨λe=>?_,λe=>?_⟩
 ·obtain ⟨a,b,_,_,rfl⟩:=zZ h e;exact ⟨rfl,rfl,rfl⟩
 ·unfold dB at h;rw [if_neg (by omega),if_pos e] at h;simp only [Bool.and_eq_true,decide_eq_true_eq] at h;exact h.1.1.1
theorem XU (i:iL):(GC i).length<=2:=by
 unfold GC;split
 ·simp
 ·split
  ·simp [blN]
  ·split<;>simp
theorem XT (a b:List iL):zT (a++b)=zT a++zT b:=by simp [zT]
theorem UP:∀ l:List iL,(zT l).length<=2*l.length
 | []=>by simp [zT]
 | i::l=>by
  have:=UP l;have:=XU i;have e:zT (i::l)=GC i++zT l:=rfl;rw [e,List.length_append,List.length_cons];omega
def muF (u:Y) (n:Nat) (w:O):Nat:=match u with
 | .slice (some a) _ _=>((List.range n).map λk=>3 - (RowKit.intOf ((w.cell? ⟨a.block,k*13+12,none⟩).getD undef)).toNat).sum
 | _=>0
theorem aHq {B:Nat} {u:Y} {l:List mL} (h:xQ w B u l):muF u l.length w=MV (lP l):=by
 by_cases h0:l.length=0
 ·obtain rfl:=List.length_eq_zero_iff.1 h0;unfold muF MV lP;split<;>rfl
 ·obtain ⟨g,cap,rfl⟩:∃ g cap,u=.slice (some ⟨g,0,none⟩) l.length cap:=by
   rcases h.row.2 with ⟨_,e0⟩|⟨g',c',_,rfl,_⟩
   ·omega
   ·exact ⟨g',c',rfl⟩
  unfold muF MV lP;dsimp only
  congr 1
  rw [List.map_map];apply List.ext_getElem?;intro k;rw [List.getElem?_map,List.getElem?_map];by_cases hk:k < l.length
  ·obtain ⟨e,he⟩:=bI hk;have hc:e.cells[12]?=some (i64 (e.f:Int)):=by unfold mL.cells;rw [List.getElem?_append_right (by rw [e.x.len];decide),e.x.len];rfl
   rw [List.getElem?_range hk,he];simp only [Option.map_some,Function.comp_apply,h.at_ he hc,Option.getD_some];rfl
  ·rw [List.getElem?_eq_none (by simp;omega),List.getElem?_eq_none (by omega)];rfl
theorem aIy {l:List cO} {f:List Nat} (h:∀ k,k < f.length->jH l f k=true):sK l f=f:=by
 apply List.ext_getElem
 ·rw [nK]
 ·intro k h1 h2;have:=pO l f h2;rw [h k h2,if_pos rfl,List.getD_eq_getElem?_getD,List.getElem?_eq_getElem h1,List.getD_eq_getElem?_getD,List.getElem?_eq_getElem h2] at this;simpa using this
theorem ID {l:List cO} {f:List Nat} {k:Nat} {x:cO} (hx:l[k]?=some x):pF l f (k+1)=pF l f k++x.codeK (f.getD k 0) (tI l f k) (EA l f):=by rw [pF,hx]
theorem aKb {l:List cO} {f:List Nat} {k n:Nat} (hkn:k<=n) {i:iL} (h:i∈pF l f k):i∈pF l f n:=by
 induction n with
 | zero => obtain rfl : k = 0 := by omega
           exact h
 | succ n ih=>
  by_cases hk:k=n+1
  ·subst hk;exact h
  ·rw [pF];exact List.mem_append_left _ (ih (by omega))
theorem aEk {l:List cO} {f:List Nat} {k:Nat} {x:cO} (hx:l[k]?=some x) {i:iL} (h:i∈x.codeK (f.getD k 0) (tI l f k) (EA l f)):i∈pF l f l.length:=by
 have hk:=(List.getElem?_eq_some_iff.1 hx).1;exact aKb (k:=k+1) hk (by rw [ID hx];exact List.mem_append_right _ h)
theorem aPx {l:List cO} {es:List mL} {j:Nat} {x:cO} {cv:Y} (h:lH es=l.take j) (hx:l[j]?=some x):lH (es++[⟨x,0,x.fix,cv⟩])=l.take (j+1):=by
 rw [List.take_add_one,hx,<- h];simp [lH]
theorem bNm {l:List cO} {f:List Nat} (hl:f.length=l.length) (h:∀ g∈f,g=0):AV l f:=by
 have hz:∀ k,f.getD k 0=0:=λk=>by
  rw [List.getD_eq_getElem?_getD];cases hk:f[k]? with
  | none=>rfl
  | some g=>exact h g (List.mem_of_getElem? hk)
 exact ⟨hl,λk c q _=>by rw [hz];exact Nat.zero_le _,λk _=>hz k⟩
theorem bNr {l m:List Nat} {v u:Y} {B B':Nat} (h:sP w B v l) (hu:sP w B' u m) (hl:l.length+m.length<=100000000) (hB:B<=w.heap.size) (hk:∀ v' w',sP w' B v' (l++m)->Fr (λk=>v.ownBlock=some k) w w'->K v' w'):V prog (Builtin.append_ #[59,59] 59 #[v,u]) w K:=by
 refine apG underlying59 JY rfl (by decide) h (aA.of_own hu) (by simp [hwC,bX]) (by omega) (by unfold maxLen;omega) hB λv' w' ho hg _=>hk v' w' ?_ (Fr.of_grown hg λk hk=>hk);unfold sP;rw [List.length_append];simpa [hwC] using ho
theorem sP.ext' {w':O} {B:Nat} {v:Y} {l:List Nat} (h:sP w B v l) (hx:aG w w'):sP w' B v l:=hx.own h
theorem OI (l:List cO) (f:List Nat):∀ k,(pF l f k).length<=100*k
 | 0=>Nat.le_refl _
 | k+1=>by
  have ih:=OI l f k;rw [pF];cases hx:l[k]? with
  | none=>simp;omega
  | some x=>
   have:(x.codeK (f.getD k 0) (tI l f k) (EA l f)).length<=100:=by
    cases x with
    | jump c q=>exact Nat.le_trans vQ (by decide)
    | one i=>exact KH (.one i)
    | place q=>exact Nat.zero_le _
    | load r n=>exact KH (.load r n)
   rw [List.length_append];dsimp only;omega
theorem VJ {v:Y} {l:List cO} (hv:uF w v l) (ho:uK l) (htop:oL l<=16384)
  (hk:∀ hv lv f w',AV l f->(∀ k,k < l.length->jH l f k=true)->sP w' w.heap.size hv (zT (pF l f l.length))->aG w w'->K (.tuple #[hv,lv,i64 0]) w'):aB prog 59 #[v] w K:=by
 apply bId;unfold aAo;have hl:=ho.len;refine bCy hv ho λw1 x1=>dO.2 (aM.2 ?_);refine gE xS (hv.ext x1) ?_;refine ⟨λu k w'=>∃ (j:Nat) (es:List mL),k=i64 j/\j<=l.length/\es.length=j/\xQ w' w.heap.size u es/\lH es=l.take j/\(∀ e∈es,e.f=0)/\aG w w',λ_ k _=>l.length - (RowKit.intOf k).toNat,⟨0,[],rfl,Nat.zero_le _,rfl,⟨World.ownsRow_nil _ _ _ _,λe he=>(by cases he),λe he=>(by cases he),λe he=>(by cases he)⟩,rfl,λe he=>(by cases he),x1⟩,?_⟩;rintro u _ w4 ⟨j,es,rfl,hj,hel,hL,hxs,hf0,x4⟩ _;refine aZ.2 (aC (λhlt=>?_) λhge=>?_)
 ·obtain ⟨x,hx⟩:=bI (l:=l) (j:=j) (by omega);refine vV xS sU (hv.ext x4) (by omega) (by omega) (JW hx) x.len ?_;refine tH TH (by simpa [Value.cells] using x.len) (by simpa [Value.cells] using tV x) λw9 h7 x9=>?_;have h7:bO w9 w4.heap.size x.cells 180:=h7;refine iC h7.boxed sU x.len ?_;refine KK bFq (aJi x) ?_;have hc13:(x.cells++[bC,i64 0]).length=13:=by simp [x.len]
  refine tH DC (by simpa [Value.cells] using hc13) (by simp only [Value.cells];rw [List.all_append,tV];rfl) λw13 h8 x13=>?_;have h8:bO w13 w9.heap.size (x.cells++[bC,i64 0]) 232:=h8;have x413:=x9.trans x13;have s9:=x9.size;have s13:=x13.size;have s4:=x4.size;have h7':=h7.ext x13;have hset:∀ cv,(x.cells++[bC,i64 0]).set 11 cv=x.cells++[cv,i64 0]:=λcv=>by cases x<;>rfl
  refine ⟨λw'=>∃ cv,bO w' w9.heap.size (x.cells++[cv,i64 0]) 232/\gU w' w.heap.size cv x.fix/\aG w4 w',?_,?_⟩
  ·have sto:∀ {cv:Y} {w':O},gU w' w13.heap.size cv x.fix->aG w13 w'->V prog (Instr.fieldAt 232 (.pointer (some ⟨w9.heap.size,0,none⟩)) 1) w' λq w2=>U prog (Instr.storeAt 230 q cv) w2 λ_ w3=>∃ cv,bO w3 w9.heap.size (x.cells++[cv,i64 0]) 232/\gU w3 w.heap.size cv x.fix/\aG w4 w3:=λ{cv w'} ht hx'=>by
    have hb:=h8.ext hx';refine FZ gC UH hb (n:=13) hc13 (by decide) (oQ ht) ?_;have hbs:=hb.set 11 cv;rw [hset cv] at hbs;have f:Fr (λk=>k=w9.heap.size) w' (w'.setCell ⟨w9.heap.size,11,none⟩ cv):=Fr.of_set rfl;have hb13:=h8.lt;exact ⟨cv,hbs,aU (f.own ht λk hk hS=>by have:=(ht.lt k hk).1;omega) (by omega),f.ext (x413.trans hx') λi hi=>by omega⟩
   cases x with
   | one i=>
    have h7':bO w13 w4.heap.size [i64 1,i64 i.op,i64 i.d,i64 i.n,i64 i.m,i64 i.imm,i64 i.cond,i64 0,i64 0,i64 0,i32 0] 180:=h7';refine aV h7'.boxed bG aE rfl (aJ.2 (aC (λ_=>?_) λh=>absurd rfl h));refine EW eX (aIe h7'.boxed qX rfl (l:=i.cells) rfl ?_);exact TY (i:=i) rfl λcv w' hcv hx'=>sto hcv hx'
   | load r n=>
    have h7':bO w13 w4.heap.size [i64 4,i64 0,i64 0,i64 0,i64 0,i64 0,i64 0,i64 0,i64 0,i64 r,i32 n] 180:=h7';refine aV h7'.boxed bG aE rfl (aJ.2 (aC (λh=>absurd h (by decide)) λ_=>aJ.2 (aC (λ_=>?_) λh=>absurd rfl h)));refine aV h7'.boxed eW aE rfl (aV h7'.boxed fR kT rfl ?_);exact aRm λcv w' hcv hx'=>sto hcv hx'
   | place q=>
    have h7':bO w13 w4.heap.size [i64 2,i64 0,i64 0,i64 0,i64 0,i64 0,i64 0,i64 q,i64 0,i64 0,i32 0] 180:=h7';refine aV h7'.boxed bG aE rfl (aJ.2 (aC (λh=>absurd h (by decide)) λ_=>aJ.2 (aC (λh=>absurd h (by decide)) λ_=>?_)));exact ⟨bC,h8,World.ownsRow_nil _ _ _ _,x413⟩
   | jump c q=>
    have h7':bO w13 w4.heap.size [i64 3,i64 0,i64 0,i64 0,i64 0,i64 0,i64 0,i64 q,i64 c,i64 0,i32 0] 180:=h7';refine aV h7'.boxed bG aE rfl (aJ.2 (aC (λh=>absurd h (by decide)) λ_=>aJ.2 (aC (λh=>absurd h (by decide)) λ_=>?_)));exact ⟨bC,h8,World.ownsRow_nil _ _ _ _,x413⟩
  ·rintro w30 ⟨cv,hb30,hc30,x30⟩ _;refine iC hb30.boxed AK (by simp [x.len]) ?_;have s30:=x30.size;refine (hL.ext x30).push (by omega) rfl hc30 (by omega) (KH x) λu' w33 hL' e33=>bJ.2 ?_;rw [aQ (by omega),bK];refine ⟨⟨j+1,_,rfl,by omega,by simp [hel],hL',aPx hxs hx,λe he=>?_,e33 w (x4.trans x30) (Nat.le_refl _)⟩,by simp only [aK];omega⟩;rcases List.mem_append.1 he with he|he
   ·exact hf0 e he
   ·rw [List.mem_singleton] at he;subst he;rfl
 obtain rfl:j=l.length:=by omega
 have hxl:lH es=l:=by rw [hxs];exact List.take_of_length_le (Nat.le_refl _)
 have hfl:(lP es).length=l.length:=by simp [lP,hel]
 have hF0:AV l (lP es):=bNm hfl λg hg=>by obtain ⟨e,he,rfl⟩:=List.mem_map.1 hg;exact hf0 e he
 clear hge hxs;refine ⟨λw'=>∃ es,es.length=l.length/\xQ w' w.heap.size u es/\lH es=l/\AV l (lP es)/\aG w w',λw'=>muF u l.length w',⟨es,hel,hL,hxl,hF0,x4⟩,?_⟩;clear hF0 hxl hfl hf0 hL hel es;rintro w35 ⟨es,hel,hL,hxl,hF,x35⟩ _;have s35:=x35.size;refine bEz hL (by rw [hxl];exact ho) (by rw [hxl];exact hF) s35 λb es' w36 hL' hfit hb e36=>?_;have x36:=e36 w x35 (Nat.le_refl _);have hel':es'.length=l.length:=by rw [hfit.len,hel]
 have hxl':lH es'=l:=by rw [hfit.xs,hxl]
 have hfs':=hfit.fs;rw [hxl] at hfs' hb;have hfl:(lP es).length=l.length:=by simp [lP,hel]
 cases b with
 | true=>
  refine bH.2 ⟨⟨es',hel',hL',hxl',by rw [hfs'];exact hF.grow ho,x36⟩,?_⟩;have e1:=aHq hL';have e2:=aHq hL;rw [hel'] at e1;rw [hel] at e2;show muF u l.length w36 < muF u l.length w35;rw [e1,e2,hfs'];obtain ⟨k,hk1,hk2⟩:=hb.1 rfl;exact aIb ho hF ⟨k,by omega,hk2⟩
 | false=>
  refine aM.2 ?_
  have hreach:∀ k,k < l.length->jH l (lP es) k=true:=λk hk=>by
   cases hr:jH l (lP es) k with
   | true=>rfl
   | false=>exact absurd (hb.2 ⟨k,by omega,hr⟩) (by decide)
  rw [aIy λk hk=>hreach k (by omega)] at hfs';have hF':AV l (lP es'):=by rw [hfs'];exact hF
  have hreach':∀ k,k < l.length->jH l (lP es') k=true:=by rw [hfs'];exact hreach
  have hcode:∀ (k:Nat) e',es'[k]?=some e'->e'.c=e'.x.codeK ((lP es').getD k 0) (tI l (lP es') k) (EA l (lP es')):=λk e' he'=>by
   have hk:k < es.length:=by have:=(List.getElem?_eq_some_iff.1 he').1;omega
   obtain ⟨e,he⟩:=bI hk;obtain ⟨e2,q1,q2,q3,_⟩:=hfit.at_ k e he;rw [he'] at q1;cases q1;rw [(q3 hk).2,hxl,hfs',q2,(AW he).2]
  clear hb hfs' hreach hF hfit hL hxl hfl hel e36 s35 x35;have s36:=x36.size;refine GN hL' (by rw [hxl'];exact hF') (by omega) λatv w37 hat x37=>?_;refine gE sQ (aA.of_own (hL'.ext x37).row) ?_;refine mH aP aE (aA.of_own hat) (by omega) (by omega) (cM (wQ (by omega))) (jF.2 ?_);have htk:=AV.at_top ho hF' l.length;rw [decide_eq_false (by rw [hxl',hel'];omega)];refine aM.2 ?_;refine gE sQ (aA.of_own (hL'.ext x37).row) ?_;have goodA:=IC ho hreach'
  have kint:∀ {t:Y} {n:Nat} {xs:List Y} {wa wb:O},wa.ownsRow w36.heap.size 3 1 atv (es'.length+1) ((lJ es' (es'.length+1)).map i64)->wa.ownsRow w.heap.size 151 1 t n xs->Fr (λk=>t.ownBlock=some k) wa wb->wb.ownsRow w36.heap.size 3 1 atv (es'.length+1) ((lJ es' (es'.length+1)).map i64):=λh1 h2 f=>f.own h1 λk hk hk'=>by
   rcases uT h1 h2 (by decide) with h4|h4
   ·rw [h4] at hk;cases hk
   ·exact h4 (by rw [hk,hk'])
  refine ⟨λt k w'=>∃ j:Nat,k=i64 j/\j<=es'.length/\sP w' w.heap.size t (zT (pF l (lP es') j))/\xQ w' w.heap.size u es'/\w'.ownsRow w36.heap.size 3 1 atv (es'.length+1) ((lJ es' (es'.length+1)).map i64)/\aG w w',λ_ k _=>es'.length - (RowKit.intOf k).toNat,⟨0,rfl,Nat.zero_le _,World.ownsRow_nil _ _ _ _,hL'.ext x37,hat,x36.trans x37⟩,?_⟩;clear hat hL' htk x37 w37 x36 s36;rintro t _ w43 ⟨j,rfl,hj,ht,hL,hat,x43⟩ _;refine aZ.2 (aC (λhlt=>?_) λhge=>?_)
  ·obtain ⟨e,he⟩:=bI (l:=es') (j:=j) (by omega);have hem:=List.mem_of_getElem? he;have hxe:=(AW he).1;rw [hxl'] at hxe;have hce:=hcode j e he;have hfew:=hL.few e hem;refine vV sQ AK (aA.of_own hL.row) (by omega) (by omega) (CF he) e.len ?_;refine tH DC (by simpa [Value.cells] using e.len) (by simpa [Value.cells] using hL.one hem) λw48 h12 x48=>?_;have h12:bF w48 w43.heap.size e.cells:=bO.boxed h12;have hv11:e.cells[11]?=some e.v:=by unfold mL.cells;rw [List.getElem?_append_right (by rw [e.x.len];decide),e.x.len];rfl
   refine aV h12 gC jP hv11 (gE wO (aA.of_own ((hL.code e hem).ext x48)) ?_);have s43:=x43.size;refine ⟨λt k w'=>∃ q:Nat,k=i64 q/\q<=e.c.length/\sP w' w.heap.size t (zT (pF l (lP es') j)++zT (e.c.take q))/\xQ w' w.heap.size u es'/\w'.ownsRow w36.heap.size 3 1 atv (es'.length+1) ((lJ es' (es'.length+1)).map i64)/\aG w w',λ_ k _=>e.c.length - (RowKit.intOf k).toNat,⟨0,rfl,Nat.zero_le _,by rw [List.take_zero,show zT []=[] from rfl,List.append_nil];exact ht.ext' x48,hL.ext x48,x48.own hat,x43.trans x48⟩,?_⟩;rintro t2 _ w52 ⟨q,rfl,hq,ht2,hL2,hat2,x52⟩ _;refine aZ.2 (aC (λhql=>?_) λhqg=>?_)
   ·obtain ⟨i,hi⟩:=bI (l:=e.c) (j:=q) (by omega);have him:i∈pF l (lP es') l.length:=aEk hxe (by rw [<- hce];exact List.mem_of_getElem? hi);obtain ⟨g1,g2⟩:=goodA i him;refine vV wO qX (aA.of_own (hL2.code e hem)) (by omega) (by omega) (BW hi) rfl ?_;refine tH bBc rfl rfl λw57 h14 x57=>?_;have h14:bF w57 w52.heap.size i.cells:=bO.boxed h14;refine iC h14 qX rfl ?_;refine aEb g1 g2 (GE g1) λv5 w59 hv5 x59=>gR.2 (gQ.2 ?_);have x79:=x57.trans x59;have s52:=x52.size;have s79:=x79.size;have b1:=UP (pF l (lP es') j);have b2:=UP (e.c.take q);have b3:=OI l (lP es') j;have b4:=XU i;have b5:(e.c.take q).length<=100:=by rw [List.length_take];omega
    refine bNr (ht2.ext' x79) hv5 (by rw [List.length_append];omega) (by omega) λv6 w6 hv6 f6=>bJ.2 ?_;rw [aQ (by omega),bK];refine ⟨⟨q+1,rfl,by omega,?_,(hL2.ext x79).fr (x79.own ht2) (by decide) (by decide) f6,kint (x79.own hat2) (x79.own ht2) f6,f6.ext (x52.trans x79) λk hk=>(ht2.lt k hk).1⟩,by simp only [aK];omega⟩;rw [List.take_add_one,hi,show (some i).toList=[i] from rfl,XT,<- List.append_assoc,show zT [i]=GC i from by simp [zT]];exact hv6
   ·obtain rfl:q=e.c.length:=by omega
    refine jS (by omega) ?_;refine ⟨⟨j+1,rfl,by omega,?_,hL2,hat2,x52⟩,by simp only [aK];omega⟩;rw [ID hxe,XT,<- hce];rw [List.take_of_length_le (Nat.le_refl _)] at ht2;exact ht2
  ·obtain rfl:j=es'.length:=by omega
   have hatI:aO w43 atv (lJ es' (es'.length+1)):=by unfold aO;rw [qJ];exact aA.of_own hat
   refine HK hL (by omega) (by rw [hxl'];exact ho.ok) hatI λgL n w5 _ _ _ _ x5=>?_;rw [hel'] at ht;exact hk t _ (lP es') w5 hF' hreach' (x5.own ht) (x43.trans x5)
end Go.Proofs.YtjcmcfidblhnnaaGreatDoor
namespace Go.Proofs.YtjcmcfidblhnnaaGreatDoor
open Tryz
open Go.Vc Go.Tc
variable {w:O} {K:Y->O->Prop}
def uB (l:List jR):Nat:=(l.map λm=>512+96*m.code.length).sum
theorem AP {l:List jR} {j:Nat} {m:jR} (h:l[j]?=some m):uB (l.take (j+1))=uB (l.take j)+(512+96*m.code.length):=by
 unfold uB;rw [List.take_add_one,h];simp
theorem zK {l:List jR} {c:Nat} (h:∀ m∈l,m.code.length<=c):∀ j,uB (l.take j)<=(512+96*c)*j
 | 0=>by simp [uB]
 | j+1=>by
  have ih:=zK h j;rw [Nat.mul_succ];cases hm:l[j]? with
  | none=>
   rw [List.take_add_one,hm];simp only [Option.toList_none,List.append_nil];omega
  | some m=>
   have:=h m (List.mem_of_getElem? hm);rw [AP hm];omega
theorem tA {i:iA} (ht:mE i):∀ m∈i.methods,m.code.length<=120:=λm hm=>(ht.1.2.2.1.2.1 m hm).2.2.2.1.2
theorem YL {p:iE} {i:iA} (h:kF w p i) (ht:mE i) (hk:∀ w',aG w w'->K (i64 (uB i.methods:Nat)) w'):aB prog 22 #[p.val i] w K:=by
 apply bJl;unfold aBs iE.val;have hm8:=ht.1.2.2.1.1.2;refine bx λb1 w1 hb1 x1=>?_;refine aV hb1 bP dN rfl (yR iF (h.mt.ext x1) ?_);refine ⟨λn k w'=>∃ j:Nat,k=i64 j/\j<=i.methods.length/\n=i64 (uB (i.methods.take j):Nat)/\aG w1 w',λ_ k _=>i.methods.length - (RowKit.intOf k).toNat,⟨0,rfl,Nat.zero_le _,rfl,aG.refl _⟩,?_⟩;rintro _ _ w2 ⟨j,rfl,hj,rfl,x2⟩ _;refine aZ.2 (aC (λhlt=>?_) λhge=>?_)
 ·obtain ⟨m,hm⟩:=bI (l:=i.methods) (j:=j) (by omega);have hc:=(tA ht) m (List.mem_of_getElem? hm);have hb:=zK (tA ht) j;refine XL iF nW ((h.mt.ext x1).ext x2) hm (λ_ row e hT=>by obtain ⟨_,_,_,rfl,_⟩:=hT;rfl) λrow hrow=>?_;obtain ⟨pv,lv,cv,rfl,hp,hl,hcv⟩:=hrow;refine sG DB rfl (by obtain ⟨a,c,rfl⟩:=aA.shape hp;obtain ⟨a,c,rfl⟩:=aA.shape hl;obtain ⟨a,c,rfl⟩:=aA.shape hcv;rfl) λb3 w3 hb3 x3=>?_;have hb3:bF w3 b3 [pv,i64 m.result,lv,cv]:=hb3;refine aV hb3 cC hU rfl (gE kQ (aA.ext hcv x3) ?_);refine qP.2 (bJ.2 (bJ.2 (bJ.2 ?_)));rw [show IntKind.i64.wrap (96*(m.code.length:Int))=96*m.code.length from aQ (by omega),show IntKind.i64.wrap (512+96*(m.code.length:Int))=512+96*m.code.length from aQ (by omega),aQ (by omega),aQ (by omega),bK];exact ⟨⟨j+1,rfl,by omega,by rw [AP hm];congr 1,x2.trans x3⟩,by simp only [aK];omega⟩
 ·have hjl:j=i.methods.length:=by omega
  rw [hjl,List.take_length];exact hk _ (x1.trans x2)
inductive AlR (p:fU) (R:Nat):Nat->List Int->Int->Prop
 | z:AlR p R 0 (List.replicate R 0) 0
 | s (i:Nat) (of:List Int) (slots:Int) (r:Nat) (at':Int):AlR p R i of slots->(fJ [] (qS p R))[i]?=some (r:Int)->sX p of r at'->(at'=5\/(at'=6/\¬ sX p of r 5)\/(16<=at'/\¬ sX p of r 5/\¬ sX p of r 6))->(∀ x,16<=x->x < at'->¬ sX p of r x)->AlR p R (i+1) (of.set r at') (max slots (at' - 15))
theorem pV.al {n:aD} {k r c:Int} (h:pV n k r c):n.args.length<=5:=by
 have hf:=h.f;cases n with
 | serve op a b d l=>
  have hf:nO op=l.length:=hf;unfold nO at hf;show l.length<=5;split at hf
  ·omega
  ·split at hf
   ·omega
   ·split at hf
    ·omega
    ·split at hf<;>omega
 | call m d l=>have:=hf.2;show l.length<=5;omega
 | callX m d l=>have:=hf.2;show l.length<=5;omega
 | _=>exact Nat.zero_le _
theorem VQ.fr {B:Nat} {w':O} {v:Y} {l:List aD} {S:Nat->Prop} (h:VQ B w v l) (f:Fr S w w') (hS:∀ k,B<=k->k < w.heap.size->¬ S k):VQ B w' v l:=by
 obtain ⟨xs,h1,h2⟩:=h;refine ⟨xs,f.own h1 λk hk=>hS k (h1.lt k hk).1 (h1.lt k hk).2,λk n hn=>?_⟩;obtain ⟨u,h3,h4⟩:=h2 k n hn;exact ⟨u,h3,h4.fr f hS⟩
def kA (i:iA) (k:Nat) (st:Tc.St) (r:List Bool):fU:=⟨(i.meth k).params.length,18,lS i (i.meth k) st r⟩
structure aCg (i:iA) (k:Nat) (ap:Int) (st:Tc.St) (r:List Bool) (of:List Int) (s:Int) (f:List Nat):Prop where
 wk:qO i (i.meth k) (some st)
 rc:IL i (i.meth k) st [] r
 gd:pJ (kA i k st r) 18 of s
 al:AlR (kA i k st r) 18 (fJ [] (qS (kA i k st r) 18)).length of s
 fo:AV (nB (kA i k st r) of ap) f
 re:∀ q,q < (nB (kA i k st r) of ap).length->jH (nB (kA i k st r) of ap) f q=true
def hwK (i:iA) (k:Nat) (ap:Int) (st:Tc.St) (r:List Bool) (of:List Int) (f:List Nat):List Nat:=zT (pF (nB (kA i k st r) of ap) f (nB (kA i k st r) of ap).length)
theorem bKz {T:Y->aD->Prop} {P:fU} {g n:Nat} {ap:Int} {xs:List Y} {na:Option Addr} {nc:Nat} {J:NP 2} (hok:lA P) (hR:P.regs=18) (ha:0<=ap/\ap < 4) (hn:P.nodes.length=n)
  (hb:bF w g [i64 P.params,i64 P.regs,.slice na n nc]) (hps:aA w (.slice na n nc) 1 n xs) (hvn:∀ (q:Nat) m,P.nodes[q]?=some m->∃ u,xs[q]?=some u/\iO w u m/\T u m)
  (hJ:∀ of s gB iv ta tc ys w',pJ P 18 of s->AlR P 18 (fJ [] (qS P 18)).length of s->bO w' gB [iv,.slice ta (kG P).length tc,i64 (4*s)] 68->aA w' iv 11 (nB P of ap).length (itC (nB P of ap))->w'.ownsRow w.heap.size 43 1 (.slice ta (kG P).length tc) (kG P).length ys->(∀ (q:Nat) m,(kG P)[q]?=some m->∃ u,ys[q]?=some u/\T u m)->aG w w'->J (.pointer (some ⟨gB,0,none⟩)) (i64 0) w') :
  aL w λS2 w10=>
 aF prog S2 (Instr.loadAt 33 (.pointer (some ⟨g,0,none⟩))) λt25=>
 aF prog S2 (Instr.loadAt 33 (.pointer (some ⟨g,0,none⟩))) λt26=>
 (aB prog 18 #[t26] w10 λt27 w11=>
 S2 w11 /\
 (aB prog 17 #[t25,t27,i64 ap] w11 λt29 w12=>
 S2 w12 /\
 aF prog S2 (Instr.extract t29 0) λt30=>
 aF prog S2 (Instr.extract t29 1) λt31=>
 V prog (Instr.alloc 68 true (.tuple #[])) w12 λt13 w13=>
 S2 w13 /\
 U prog (Instr.storeAt 68 t13 t30) w13 λ_ w14=>
 S2 w14 /\
 J t13 t31 w14) /\
 (V prog (Instr.alloc 68 true (.tuple #[])) w11 λt13 w15=>
 S2 w15 /\
 aB prog 17 #[t25,t27,i64 ap] w15 λt29 w16=>
 S2 w16 /\
 aF prog S2 (Instr.extract t29 0) λt30=>
 aF prog S2 (Instr.extract t29 1) λt31=>
 U prog (Instr.storeAt 68 t13 t30) w16 λ_ w17=>
 S2 w17 /\
 J t13 t31 w17)) /\
 (V prog (Instr.alloc 68 true (.tuple #[])) w10 λt13 w18=>
 S2 w18 /\
 aB prog 18 #[t26] w18 λt27 w19=>
 S2 w19 /\
 aB prog 17 #[t25,t27,i64 ap] w19 λt29 w20=>
 S2 w20 /\
 aF prog S2 (Instr.extract t29 0) λt30=>
 aF prog S2 (Instr.extract t29 1) λt31=>
 U prog (Instr.storeAt 68 t13 t30) w20 λ_ w21=>
 S2 w21 /\
 J t13 t31 w21):=by
 have D:aG w w.drew:=(aG.refl _).drew
 have hP:pW w (.agg #[i64 P.params,i64 P.regs,.slice na n nc]) P:=by
  refine ⟨_,rfl,⟨xs,by rw [hn];exact hps,λq m hq=>?_⟩,λm hm=>?_⟩
  ·obtain ⟨u,h1,h2,_⟩:=hvn q m hq;exact ⟨u,h1,h2⟩
  ·obtain ⟨a,ha⟩:=List.getElem?_of_mem hm;have:=(hok.nodes a m ha).al;omega
 have sz:=D.size
 have A:∀ {w':O} {K':Y->O->Prop},aG w.drew w'->(∀ ov of s w'',aO w'' ov of->pJ P 18 of s->AlR P 18 (fJ [] (qS P 18)).length of s->aG w' w''->K' (.agg #[ov,i64 s]) w'')->aB prog 18 #[.agg #[i64 P.params,i64 P.regs,.slice na n nc]] w' K':=by
  intro w' K' hx hk';refine (aKg (p:=P) (R:=18) ((hP.ext D).ext hx) hok hR (Q:=λa of s=>AlR P 18 a of s) AlR.z (λa of s q at' _ hq hi _ hm ha hn=>.s a of s q at' hq hi hm ha hn)).mono λv w'' ⟨⟨ov,of,s,hr,ho,hg,hq⟩,x⟩=>?_;subst hr;exact hk' ov of s w'' ho hg hq x
 have E:∀ {w':O} {K':Y->O->Prop} {ov:Y} {of:List Int} {s:Int},aG w.drew w'->aO w' ov of->pJ P 18 of s->(∀ iv ta tc ys w'',w''.ownsRow w'.heap.size 180 11 iv (nB P of ap).length (itC (nB P of ap))->w''.ownsRow w'.heap.size 43 1 (.slice ta (kG P).length tc) (kG P).length ys->(∀ (q:Nat) m,(kG P)[q]?=some m->∃ u,ys[q]?=some u/\T u m)->bX iv=true->aG w' w''->K' (.tuple #[.agg #[iv,.slice ta (kG P).length tc,i64 (4*s)],i64 0]) w'')->aB prog 17 #[.agg #[i64 P.params,i64 P.regs,.slice na n nc],.agg #[ov,i64 s],i64 ap] w' K':=by
  intro w' K' ov of s hx ho hgd hk';refine bFc (T:=T) (vs0:=xs) ((hP.ext D).ext hx) (by rw [hn];exact (hps.ext D).ext hx) (λq m hq=>?_) hok (R:=18) hR ho hgd ha λiv tv ys w'' i1 i2 i3 x=>?_
  ·obtain ⟨u,h1,h2,h3⟩:=hvn q m hq;exact ⟨u,h1,(h2.ext D).ext hx,h3⟩
  ·obtain ⟨ta,tc,rfl⟩:=(aA.of_own i2).shape;refine hk' iv ta tc ys w'' i1 i2 (λq m hq=>?_) (oQ i1) x;obtain ⟨u,h1,_,h3⟩:=i3 q m hq;exact ⟨u,h1,h3⟩
 have Lp:∀ w',aG w.drew w'->bF w' g _:=λw' hx=>(hb.ext D).ext hx;have one:∀ {iv:Y} {ta tc:_} {s:Int},bX iv=true->([iv,.slice ta (kG P).length tc,i64 (4*s)]:List Y).all bX=true:=λh=>by show (bX _&&_)=true;rw [h];rfl
 refine aL.mk' (λw'=>aG w.drew w') (aG.refl _) ?_;refine yA Lp qY rfl (yA Lp qY rfl ⟨A (aG.refl _) λov of s w5 ho hgd hal x5=>⟨x5,?_,?_⟩,?_⟩)
 ·refine E x5 ho hgd λiv ta tc ys w6 i1 i2 i3 i4 x6=>?_;have x56:=x5.trans x6;refine ⟨x56,aF.ok (λ_ _=>nQ) (aF.ok (λ_ _=>nP) (zU uZ λw7 h7 x7=>?_))⟩;have h7:bO w7 w6.heap.size [bC,bC,i64 0] 68:=h7;have x57:=x56.trans x7;refine ⟨x57,wR uZ h7 (l:=[iv,.slice ta (kG P).length tc,i64 (4*s)]) rfl rfl rfl (one i4) λw8 h8 hc=>?_⟩;have x68:=hc.ext _ x7 (Nat.le_refl _);have x58:=x56.trans x68;exact ⟨x58,hJ of s _ iv ta tc ys w8 hgd hal h8 (aA.of_own (x68.own i1)) (aU (x68.own i2) (Nat.le_trans sz x5.size)) i3 (D.trans x58)⟩
 ·refine zU uZ λw6 h6 x6=>⟨x5.trans x6,E (x5.trans x6) (ho.ext x6) hgd λiv ta tc ys w7 i1 i2 i3 i4 x7=>?_⟩;have h6:bO w6 w5.heap.size [bC,bC,i64 0] 68:=h6;have x57:=x6.trans x7;refine ⟨x5.trans x57,aF.ok (λ_ _=>nQ) (aF.ok (λ_ _=>nP) ?_)⟩;refine wR uZ (h6.ext x7) (l:=[iv,.slice ta (kG P).length tc,i64 (4*s)]) rfl rfl rfl (one i4) λw8 h8 hc=>?_;have x58:=x5.trans (hc.ext _ x57 (Nat.le_refl _));have hlt:=h6.lt;have f8:=pR hc;have ne:∀ q,w6.heap.size<=q->¬ q=w5.heap.size:=λq _ _=>by omega
  exact ⟨x58,hJ of s _ iv ta tc ys w8 hgd hal h8 (aA.of_own (f8.own i1 λq hq=>ne q (i1.lt q hq).1)) (aU (f8.own i2 λq hq=>ne q (i2.lt q hq).1) (Nat.le_trans sz (x5.trans x6).size)) i3 (D.trans x58)⟩
 ·refine zU uZ λw5 h5 x5=>⟨x5,A x5 λov of s w6 ho hgd hal x6=>⟨x5.trans x6,E (x5.trans x6) ho hgd λiv ta tc ys w7 i1 i2 i3 i4 x7=>?_⟩⟩;have h5:bO w5 w.drew.heap.size [bC,bC,i64 0] 68:=h5;have x57:=x5.trans (x6.trans x7);refine ⟨x57,aF.ok (λ_ _=>nQ) (aF.ok (λ_ _=>nP) ?_)⟩;refine wR uZ (h5.ext (x6.trans x7)) (l:=[iv,.slice ta (kG P).length tc,i64 (4*s)]) rfl rfl rfl (one i4) λw8 h8 hc=>?_;have x58:=hc.ext _ x57 (Nat.le_refl _);have hlt:=h5.lt;have s6:=x6.size;have f8:=pR hc;have ne:∀ q,w6.heap.size<=q->¬ q=w.drew.heap.size:=λq _ _=>by omega
  exact ⟨x58,hJ of s _ iv ta tc ys w8 hgd hal h8 (aA.of_own (f8.own i1 λq hq=>ne q (i1.lt q hq).1)) (aU (f8.own i2 λq hq=>ne q (i2.lt q hq).1) (Nat.le_trans sz (x5.trans x6).size)) i3 (D.trans x58)⟩
theorem aHv {p:iE} {i:iA} {k:Nat} {ap at':Int} (h:kF w p i) (hn:lO w i) (hrg:i.rg) (ht:mE i) (hkl:k < i.methods.length) (ha:0<=ap/\ap < 4)
  (hK:∀ st r of s f hv tv w',aCg i k ap st r of s f->sP w' w.heap.size hv (hwK i k ap st r of f)->VQ w.heap.size w' tv (kG (kA i k st r))->aG w w'->K (.tuple #[.agg #[i64 at',i64 (4*s),hv,tv],i64 0]) w') :
  aB prog 29 #[p.val i,i64 k,i64 ap,i64 at'] w K:=by
 apply bJf;unfold aBn iE.val;have m8:=ht.1.2.2.1.1.2;refine bx λb1 w1 hb1 x1=>?_;have hb1:bF w1 b1 [.string i.name,p.fv,p.iv,p.mv,p.xv]:=hb1;refine zU yW λw2 hB x2=>?_;have hB:bO w2 w1.heap.size [i64 0,i64 0,bC,bC] 61:=hB;have x02:=x1.trans x2;have hg:=x1.size;have hg2:=hB.lt;refine iC (hb1.ext x2) kJ rfl ?_;generalize w1.heap.size=g at hB hg hg2;refine aRn (p:=p) (i:=i) (k:=k) (h.ext x02) (hn.ext x02) hrg (λst r nv sv w3 _ _ _ hw Rc hN hS x3=>?_) λw3 hne x3=>absurd ⟨ht,by omega,by omega⟩ hne;have hok:lA (kA i k st r):=sI ht hkl hw Rc;obtain ⟨xs,ho3,hx3⟩:=hN;obtain ⟨na,nc,rfl⟩:=(aA.of_own ho3).shape
 have hvn:∀ (q:Nat) n,(kA i k st r).nodes[q]?=some n->∃ u,xs[q]?=some u/\iO w3 u n/\kE w2.heap.size w3 u n:=λq n hq=>by
  obtain ⟨u,h1,h2⟩:=hx3 q n hq;exact ⟨u,h1,h2.is,h2⟩
 refine CM.2 (CL.2 (CK.2 ?_));refine tH bBf rfl rfl λw4 hp4 x4=>?_;have hp4:bO w4 w3.heap.size [i64 (kA i k st r).params,i64 (kA i k st r).regs,.slice na (lS i (i.meth k) st r).length nc] 33:=hp4
 refine ⟨λbp ev w'=>∃ of s gB iv ta tc ys,bp=.pointer (some ⟨gB,0,none⟩)/\ev=i64 0/\pJ (kA i k st r) 18 of s/\AlR (kA i k st r) 18 (fJ [] (qS (kA i k st r) 18)).length of s/\bO w' gB [iv,.slice ta (kG (kA i k st r)).length tc,i64 (4*s)] 68 /\
  aA w' iv 11 (nB (kA i k st r) of ap).length (itC (nB (kA i k st r) of ap))/\w'.ownsRow w4.heap.size 43 1 (.slice ta (kG (kA i k st r)).length tc) (kG (kA i k st r)).length ys/\(∀ (q:Nat) n,(kG (kA i k st r))[q]?=some n->∃ u,ys[q]?=some u/\kE w2.heap.size w3 u n)/\aG w4 w',
  bKz (T:=λu n=>kE w2.heap.size w3 u n) hok rfl ha rfl hp4.boxed (aA.ext (aA.of_own ho3) x4) (λq n hq=>?_) λof s gB iv ta tc ys w' a b c d e f x=>⟨of,s,gB,iv,ta,tc,ys,rfl,rfl,a,b,c,d,e,f,x⟩,?_⟩
 ·obtain ⟨u,h1,h2,h3⟩:=hvn q n hq;exact ⟨u,h1,h2.ext x4,h3⟩
 rintro _ _ w5 ⟨of,s,gB,iv,ta,tc,ys,rfl,rfl,hgd,hal,hb5,hi5,ht5,hy5,x5⟩ _;refine cL.2 (aC (λh=>absurd rfl h) λ_=>?_);have hasm:=zD (applet:=ap) hok (R:=18) rfl hgd.ofOk;have htop:=aEc (of:=of) (applet:=ap) hok (R:=18) rfl;refine aV hb5.boxed mK MZ rfl ?_;refine VJ hi5 hasm.1 htop λhv lv f w6 hf hre hhv x6=>?_;refine CM.2 (CL.2 (CK.2 ?_));obtain ⟨va,vc,rfl⟩:=(aA.of_own hhv).shape;refine aV (hb5.ext x6).boxed qA aE rfl (aV (hb5.ext x6).boxed nZ kY rfl ?_);refine lF bMf [(0,i64 at'),(1,i64 (4*s)),(2,_),(3,.slice ta (kG (kA i k st r)).length tc)] rfl rfl ?_;have x26:=x3.trans (x4.trans (x5.trans x6));have s2:=x3.size;have sD:=x4.size;have s5:=x5.size;have x56:=x5.trans x6;refine wR yW (hB.ext x26) (l:=[i64 at',i64 (4*s),_,.slice ta (kG (kA i k st r)).length tc]) rfl rfl rfl rfl λw7 hB7 hc=>?_;have f7:=pR hc;have k7:∀ {B:Nat} {e:TypeId} {v:Y} {n:Nat} {zs:List Y},w2.heap.size<=B->w6.ownsRow B e 1 v n zs->w7.ownsRow w.heap.size e 1 v n zs:=λhB' ho=>aU (f7.own ho λq hq hS=>by have:=(ho.lt q hq).1;have hS:q=g:=hS;omega) (by omega);refine ⟨_,oF underlying61 rfl yW hB7 rfl,⟨_,rfl⟩,hK st r of s f _ _ w7 ⟨hw,Rc,hgd,hal,hf,hre⟩ (k7 (by omega) hhv) ⟨ys,k7 (by omega) (x6.own ht5),λq n hq=>?_⟩ (hc.ext _ (x02.trans x26) hg)⟩;obtain ⟨u,h1,sv,h2,h3⟩:=hy5 q n hq
 exact ⟨u,h1,sv,h2,k7 (Nat.le_refl _) ((x4.trans x56).own h3)⟩
structure FX where
 at_:Int
 fr:Int
 hw:List Nat
 tab:List aD
 hv:Y
 tv:Y
def FX.cells (x:FX):List Y:=[i64 x.at_,i64 x.fr,x.hv,x.tv]
def FX.lies (w:O) (x:FX):Prop:=aA w x.hv 1 x.hw.length (hwC x.hw)/\sC w x.tv x.tab
def aCi (w:O) (row:List Y) (x:FX):Prop:=row=x.cells/\x.lies w
def CP (w:O) (v:Y) (l:List FX):Prop:=bR aCi 4 w v l
theorem aCi.ext {w':O} {row:List Y} {x:FX} (h:aCi w row x) (hx:aG w w'):aCi w' row x:=⟨h.1,aA.ext h.2.1 hx,h.2.2.ext hx⟩
theorem CP.ext {w':O} {v:Y} {l:List FX} (h:CP w v l) (hx:aG w w'):CP w' v l:=bR.ext (λh k=>h.ext k) h hx
def cdC (l:List FX):List Y:=l.flatMap FX.cells
theorem YK:∀ {l:List FX} {k:Nat} {x:FX},l[k]?=some x->((cdC l).drop (k*4)).take 4=x.cells
 | [],_,_,h=>by simp at h
 | y::l,0,x,h=>by simp at h;subst h;simp [cdC,FX.cells]
 | y::l,k+1,x,h=>by
  have:=YK (l:=l) (k:=k) (by simpa using h);simp only [cdC,List.flatMap_cons] at this ⊢;rw [show (k+1)*4=4+k*4 by omega,<- List.drop_drop,List.drop_left' (by rfl)];exact this
def aCh (i:iA) (k:Nat) (ap:Int) (x:FX):Prop:=∃ st r of s f,aCg i k ap st r of s f/\x.fr=4*s/\x.hw=hwK i k ap st r of f/\x.tab=kG (kA i k st r)
def IW (a:Int) (n:Nat):Int:=(a+2*n+3) / 4*4
def pE (a:Int) (l:List FX):Int:=l.foldl (λa x=>IW a x.hw.length) a
theorem HW {a:Int} {l:List FX} {x:FX}:pE a (l++[x])=IW (pE a l) x.hw.length:=by simp [pE]
def VS (i:iA) (ap a:Int) (l:List FX):Prop:=∀ (j:Nat) x,l[j]?=some x->x.at_=pE a (l.take j)/\aCh i j ap x
theorem aCh.fits {i:iA} {k:Nat} {ap:Int} {x:FX} (ht:mE i) (hk:k < i.methods.length) (h:aCh i k ap x):IK x.hw/\(∀ q∈x.hw,q < 65536)/\2*x.hw.length+4<=512+96*(i.meth k).code.length:=by
 obtain ⟨st,r,of,s,f,h,_,e,_⟩:=h;have hok:lA (kA i k st r):=sI ht hk h.wk h.rc;have ha:=OH (zD (applet:=ap) hok (R:=18) rfl h.gd.ofOk).1 h.fo h.re;have hl:=aDq i (i.meth k) st r;have hmi:=gI (i:=i) (a:=(k:Int)) (by omega) (by omega);rw [Int.toNat_natCast] at hmi;have hlo:=(ht.1.2.2.1.2.1 _ (List.mem_of_getElem? hmi)).2.2.1.2;have htop:=aDp (of:=of) (applet:=ap) hok (R:=18) rfl hl (by omega);rw [e];exact ⟨ha.1,ha.2.1,by have:=ha.2.2.2;unfold hwK;omega⟩
theorem TB (a:Int) (n:Nat):a+2*n<=IW a n/\IW a n<=a+2*n+3/\IW a n % 4=0:=by unfold IW;omega
theorem aEn (l:List jR) (j:Nat):uB (l.take j)<=uB l:=by
 have h:uB l=uB (l.take j)+uB (l.drop j):=by
  unfold uB;rw [<- List.sum_append,<- List.map_append,List.take_append_drop]
 omega
theorem aJm {i:iA} {ap a:Int} {l:List FX} (ht:mE i) (h:VS i ap a l) (hl:l.length<=i.methods.length):∀ j,j<=l.length->a<=pE a (l.take j)/\pE a (l.take j)<=a+uB (i.methods.take j)/\(a % 4=0->pE a (l.take j) % 4=0)
 | 0,_=>⟨by simp [pE],by simp [pE,uB],λh=>by simpa [pE] using h⟩
 | j+1,hj=>by
  obtain ⟨h1,h2,h3⟩:=aJm ht h hl j (by omega);obtain ⟨x,hx⟩:=bI (l:=l) (j:=j) (by omega);have hmi:=gI (i:=i) (a:=(j:Int)) (by omega) (by omega);rw [Int.toNat_natCast] at hmi;have hf:=((h j x hx).2.fits ht (by omega)).2.2;have e:l.take (j+1)=l.take j++[x]:=by rw [List.take_add_one,hx];rfl
  rw [e,HW,AP hmi];have:=TB (pE a (l.take j)) x.hw.length;exact ⟨by omega,by omega,λ_=>this.2.2⟩
theorem HY {p:iE} {i:iA} {ap a0:Int} (h:kF w p i) (hn:lO w i) (hrg:i.rg) (ha:0<=ap/\ap < 4) (h0:0<=a0/\a0 % 4=0) (h1:a0<=10000000)
  (no1:∀ w',¬ mE i->aG w w'->K (.tuple #[bC,i64 0,i64 1]) w') (no2:∀ w',mE i->¬ (a0+uB i.methods<=131072)->aG w w'->K (.tuple #[bC,i64 0,i64 16]) w')
  (yes:∀ v l w',mE i->a0+uB i.methods<=131072->CP w' v l->l.length=i.methods.length->VS i ap a0 l->aG w w'->K (.tuple #[v,i64 (pE a0 l),i64 0]) w') :
  aB prog 11 #[p.val i,i64 ap,i64 a0] w K:=by
 apply bJv;unfold aCe;refine bx λb1 w1 hb1 x1=>?_;have hb1:bF w1 b1 [.string i.name,p.fv,p.iv,p.mv,p.xv]:=hb1;refine iC hb1 kJ rfl ?_;refine GI (p:=p) (i:=i) (h.ext x1) (hn.ext x1) hrg λa b e w2 he x2=>?_;refine gR.2 (gQ.2 ?_);refine sG LT rfl rfl λb3 w3 _ x3=>?_;have x13:=x2.trans x3;have x03:=x1.trans x13;refine cL.2 ?_;by_cases ht:mE i
 case neg=>
  have hne:e≠0:=λhz=>ht (he.1 hz);simp only [hne,aR];exact no1 w3 ht x03
 have hez:e=0:=he.2 ht;subst hez;have c1:¬ ap < 0:=by omega
 have c2:¬ ap>=4:=by omega
 have c3:¬ a0 < 0:=by omega
 simp only [c1,c2,c3,aR];refine (bCf (by decide)).2 ?_;rw [show a0.tmod 4=0 by rw [Int.tmod_eq_emod_of_nonneg (by omega)];omega];refine cL.2 ?_;simp only [aR];have m8:=ht.1.2.2.1.1.2;by_cases c4:a0 > 131072
 ·simp only [c4,aR];exact no2 w3 ht (by omega) x03
 simp only [c4,aR];have hb3:=hb1.ext x13;refine iC hb3 kJ rfl ?_;refine YL (p:=p) (i:=i) (h.ext x03) ht λw4 x4=>?_;have hbl:=zK (tA ht) i.methods.length;rw [List.take_length] at hbl;refine fT.2 (jF.2 ?_);rw [aQ (by omega)];by_cases c5:(uB i.methods:Int) > 131072 - a0
 ·simp only [c5,aR];exact no2 w4 ht (by omega) (x03.trans x4)
 simp only [c5,aR];have x04:=x03.trans x4;have hb4:=hb3.ext x4;refine aV hb4 bP dN rfl (yR iF (h.ext x04).mt ?_);refine ⟨λt u k w'=>∃ (j:Nat) (l:List FX),k=i64 j/\j<=i.methods.length/\l.length=j/\t=i64 (pE a0 l)/\VS i ap a0 l/\aG w4 w'/\w'.ownsRow w4.heap.size 61 4 u l.length (cdC l)/\∀ x∈l,∀ w'',Fr (λk=>u.ownBlock=some k) w' w''->x.lies w'',λ_ _ k _=>i.methods.length - (RowKit.intOf k).toNat,⟨0,[],rfl,Nat.zero_le _,rfl,rfl,λj x hx=>by simp at hx,aG.refl _,World.ownsRow_nil _ _ _ _,λ_ hx=>by simp at hx⟩,?_⟩;rintro _ u _ w5 ⟨j,l,rfl,hj,hl,rfl,hok,x5,ho,hst⟩ _;have x05:=x04.trans x5;have heb:=aJm ht hok (by omega) j (by omega);rw [<- hl,List.take_length] at heb;have hbm:=aEn i.methods l.length;refine aZ.2 (aC (λhlt=>?_) λhge=>?_)
 case refine_2=>
  exact yes u l w5 ht (by omega) ⟨cdC l,aA.of_own ho,λk x hx=>⟨_,YK hx,rfl,hst x (List.mem_of_getElem? hx) w5 (Fr.refl _ _)⟩⟩ (by omega) hok x05
 refine iC (hb4.ext x5) kJ rfl ?_;refine aHv (p:=p) (i:=i) (k:=j) (h.ext x05) (hn.ext x05) hrg ht (by omega) ha λst r of s f hv tv w6 hc hhv htv x6=>?_;obtain ⟨x,hx⟩:∃ x:FX,x=⟨pE a0 l,4*s,hwK i j ap st r of f,kG (kA i j st r),hv,tv⟩:=⟨_,rfl⟩;have hxo:aCh i j ap x:=⟨st,r,of,s,f,hc,by rw [hx],by rw [hx],by rw [hx]⟩;have hxf:=(hxo.fits ht (by omega)).2.2;have hmi:=gI (i:=i) (a:=(j:Int)) (by omega) (by omega);rw [Int.toNat_natCast] at hmi;have hcl:=(tA ht) _ (List.mem_of_getElem? hmi);refine gR.2 (gQ.2 ?_)
 have one:x.cells.all bX=true:=by
  obtain ⟨xs,ht1,_⟩:=htv;rw [hx];show (bX _&&(bX _&&(bX hv&&(bX tv&&true))))=true;rw [oQ hhv,oQ ht1];rfl
 rw [show (Value.agg #[i64 (pE a0 l),i64 (4*s),hv,tv])=.agg x.cells.toArray by rw [hx];rfl];refine tH bKx (by rw [hx];rfl) one λw7 hB7 x7=>?_;have hB7:bO w7 w6.heap.size x.cells 61:=hB7;refine cL.2 (aC (λh=>absurd rfl h) λ_=>?_);have x57:=x6.trans x7;refine iC (cs:=x.cells) hB7.boxed bLt (by rw [hx];rfl) ?_;refine xM underlying48 yW rfl (by decide) [.agg x.cells.toArray] rfl rfl (by intro v hv';rw [List.mem_singleton] at hv';subst hv';rw [hx];rfl) (by decide) (by decide) λv8 w8 ho8 x8=>?_;have e8:([Value.agg x.cells.toArray].flatMap λv=>v.cells.toList)=x.cells:=by rw [hx];rfl
 rw [e8] at ho8;have x48:=x5.trans (x57.trans x8);refine apG underlying48 yW rfl (by decide) ((x57.trans x8).own ho) (aA.of_own ho8) one (by omega) (by unfold maxLen;omega) x48.size λv9 w9 ho9 hg9 hl9=>?_;have x49:aG w4 w9:=x48.grown hg9 λk hk=>(ho.lt k hk).1;have f9:Fr (λk=>u.ownBlock=some k) w8 w9:=Fr.of_grown hg9 λk hk=>hk;have s78:=x8.size;have s57:=x57.size;have s5:=x6.size;have hB9:=f9.blk (hB7.ext x8) λhk=>by have:=(ho.lt _ hk).2;omega
 have hhv9:sP w9 w5.heap.size hv (hwK i j ap st r of f):=f9.own ((x7.trans x8).own hhv) λq hq hS=>by have:=(hhv.lt q hq).1;have:=(ho.lt q hS).2;omega
 refine aV (cs:=[i64 (pE a0 l),i64 (4*s),hv,tv]) (by rw [hx] at hB9;exact hB9.boxed) oY aIj rfl (gE aFf (aA.of_own hhv9) ?_);have hlen:(hwK i j ap st r of f).length=x.hw.length:=by rw [hx]
 rw [hlen];have hbj:=zK (tA ht) j
 have e1:(pE a0 l+2*x.hw.length+4 - 1).tdiv 4*4=IW (pE a0 l) x.hw.length:=by
  rw [Int.tdiv_eq_ediv_of_nonneg (by omega)];unfold IW;omega
 have e2:=TB (pE a0 l) x.hw.length;refine qP.2 (bJ.2 (bJ.2 (fT.2 ((YY (by decide)).2 (qP.2 (bJ.2 ?_))))))
 rw [show IntKind.i64.wrap (2*(x.hw.length:Int))=2*x.hw.length from aQ (by omega),show IntKind.i64.wrap (pE a0 l+2*(x.hw.length:Int))=pE a0 l+2*x.hw.length from aQ (by omega),
  show IntKind.i64.wrap (pE a0 l+2*(x.hw.length:Int)+4)=pE a0 l+2*x.hw.length+4 from aQ (by omega),show IntKind.i64.wrap (pE a0 l+2*(x.hw.length:Int)+4 - 1)=pE a0 l+2*x.hw.length+4 - 1 from aQ (by omega),
  show IntKind.i64.wrap ((pE a0 l+2*(x.hw.length:Int)+4 - 1).tdiv 4)=(pE a0 l+2*x.hw.length+4 - 1).tdiv 4 from aQ (by omega),e1,aQ (by omega),aQ (by omega),bK]
 refine ⟨⟨j+1,l++[x],rfl,by omega,by simp [hl],by rw [HW],λq y hq=>?_,x49,?_,λy hy=>?_⟩,by simp only [aK];omega⟩
 ·rw [List.getElem?_append] at hq;split at hq
  ·rename_i hql
   rw [List.take_append_of_le_length (by omega)];exact hok q y hq
  ·rename_i hql
   have hq0:q=l.length:=by
    have:=(List.getElem?_eq_some_iff.1 hq).1;simp at this;omega
   subst hq0;simp at hq;subst hq;rw [List.take_left,hl];exact ⟨by rw [hx],hxo⟩
 ·have e3:cdC (l++[x])=cdC l++x.cells:=by simp [cdC]
  rw [e3,List.length_append];exact ho9
 ·have f89:∀ {w''},Fr (λk=>v9.ownBlock=some k) w9 w''->Fr (λk=>u.ownBlock=some k) w8 w'':=λf=>f9.trans f λk hk hk'=>by
   rcases hl9 with h9|h9
   ·rw [h9] at hk';exact hk'
   ·rw [h9] at hk';cases hk';omega
  intro w'' fy;rcases List.mem_append.1 hy with hy|hy
  ·exact hst y hy w'' ((Fr.of_ext (x57.trans x8)).trans (f89 fy) λ_ _ h=>h)
  ·rw [List.mem_singleton] at hy;subst hy;have fx:Fr (λk=>u.ownBlock=some k) w6 w'':=(Fr.of_ext (x7.trans x8)).trans (f89 fy) λ_ _ h=>h;have hS:∀ q,w5.heap.size<=q->¬ u.ownBlock=some q:=λq hq hS=>by have:=(ho.lt q hS).2;omega
   have l1:aA w'' hv 1 (hwK i j ap st r of f).length (hwC (hwK i j ap st r of f)):=aA.of_own (fx.own hhv λq hq=>hS q (hhv.lt q hq).1);have l2:=(htv.fr fx λq hq _=>hS q hq).nodes;rw [hx];exact ⟨l1,l2⟩
theorem HX {p:fU} {of:List Int} {ap:Int} {a:Nat} {x:cO}:∀ k,a < k->x∈pH of p.nodes.length ap (gN p of ap a).2.length (p.at' a) a->x∈(gN p of ap k).1
 | 0,h,_=>absurd h (Nat.not_lt_zero _)
 | k+1,h,hx=>by
  show x∈(gN p of ap k).1++.place k::pH of p.nodes.length ap (gN p of ap k).2.length (p.at' k) k;rw [List.mem_append,List.mem_cons];by_cases hk:a=k
  ·subst hk;exact .inr (.inr hx)
  ·exact .inl (HX k (by omega) hx)
theorem OE {l:List cO} {f:List Nat} (hf:f.length=l.length) (a:Nat):∀ n,a+n<=l.length->tI l f a<=tI l f (a+n)
 | 0,_=>Nat.le_refl _
 | n+1,h=>by
  have ih:=OE hf a n (by omega);obtain ⟨x,hx⟩:=bI (l:=l) (j:=a+n) (by omega);have:=zL hf hx;rw [<- Nat.add_assoc,this];omega
theorem aCg.ne {i:iA} {k:Nat} {ap s:Int} {st:Tc.St} {r:List Bool} {of:List Int} {f:List Nat} (ht:mE i) (hk:k < i.methods.length) (h:aCg i k ap st r of s f):0 < (hwK i k ap st r of f).length:=by
 have hok:lA (kA i k st r):=sI ht hk h.wk h.rc;have ha:=OH (zD (applet:=ap) hok (R:=18) rfl h.gd.ofOk).1 h.fo h.re;have hz:r.getD 0 false=true:=by rcases h.rc.z with hz|hz;exact hz;cases hz
 have hl0:0 < (i.meth k).code.length:=by have:=tZ hz;have:=h.rc.rl;omega
 obtain ⟨t0,ht0,htl⟩:=yS (i:=i) (m:=i.meth k) (st:=st) (r:=r) (i.meth k).code.length 0 hl0 hz;have htick:=(uV i (i.meth k) st r).2.2.2 0 t0 ht0 (by omega);rw [Int.toNat_natCast] at htick;have hlt:=(List.getElem?_eq_some_iff.1 htick).1
 have hat:(kA i k st r).at' t0=.tick:=by
  show (lS i (i.meth k) st r).getD t0 .tick=_;rw [List.getD_eq_getElem?_getD,htick];rfl
 have hm:cO.one ⟨44,0,0,0,0,0⟩∈nB (kA i k st r) of ap:=by
  refine HX (a:=t0) _ hlt ?_;rw [hat];simp [pH,nC]
 obtain ⟨q,hq⟩:=List.getElem?_of_mem hm;have hql:=(List.getElem?_eq_some_iff.1 hq).1;have h1:=zL h.fo.len hq;have h2:=OE h.fo.len (q+1) ((nB (kA i k st r) of ap).length - (q+1)) (by omega);rw [show q+1+((nB (kA i k st r) of ap).length - (q+1))=(nB (kA i k st r) of ap).length by omega] at h2;have h3:=ha.2.2.1;have h4:cO.size (.one ⟨44,0,0,0,0,0⟩) (f.getD q 0)=2:=rfl;unfold hwK;omega
def mS:jR:=⟨[],0,[],[⟨39,0,0⟩]⟩
def iS:iA:=⟨⟨#[97]⟩,[],[],[mS],[]⟩
theorem IY:mE iS:=by
 refine ⟨by simp [iA.right,sV,sY,jR.right,lT.right,lim,iA.meth,iS,mS],λm hm=>?_⟩;have:m=mS:=by simpa [iS] using hm
 subst this;refine ⟨⟨[[]],[true],[false]⟩,.inr ⟨by simp [mS,fL],?_⟩⟩;exact .go (pc:=0) (s':=⟨[[]],[true],[false]⟩) rfl rfl (.done rfl)
theorem bLm (hT:sW w):lO w iS:=⟨λw' hx=>
 have h:XF ⟨#[97]⟩ [⟨#[97]⟩,⟨#[]⟩] [0,1]=true:=by kernel_rfl
 ⟨NC (hT.ext hx) (yN h),HO (hT.ext hx) (yN h) (by kernel_rfl)⟩,λx hx=>by simp [iS] at hx⟩
theorem WI (hk:∀ p w',kF w' p iS->aG w w'->K (p.val iS) w'):aB prog 34 #[] w K:=by
 apply bJa;unfold aBi;refine zU rU λw0 hB x0=>?_;have hB:bO w0 w.heap.size (List.replicate 5 bC |>.set 0 (.string ByteArray.empty)) 27:=hB;refine lF OC [(0,i64 39)] rfl rfl ?_;refine xM underlying36 uY rfl (by decide) [.agg #[i64 39,i64 0,i64 0]] rfl rfl (by intro v hv;rw [List.mem_singleton] at hv;subst hv;rfl) (by decide) (by decide) λcv w1 hc1 x1=>?_;obtain ⟨ca,cc,rfl⟩:=(aA.of_own hc1).shape;refine lF YS [(3,_)] rfl rfl ?_;refine xM underlying25 yY rfl (by decide) [.agg #[bC,i64 0,bC,.slice ca 1 cc]] rfl rfl (by intro v hv;rw [List.mem_singleton] at hv;subst hv;rfl) (by decide) (by decide) λmv w2 hm2 x2=>?_;obtain ⟨ma,mc,rfl⟩:=(aA.of_own hm2).shape;refine lF bCd [(0,.string ⟨#[97]⟩),(3,_)] rfl rfl ?_;have x02:=x1.trans x2;have hlt:=hB.lt;have s1:=x1.size;refine wR rU (hB.ext x02) (l:=[.string ⟨#[97]⟩,bC,bC,.slice ma 1 mc,bC]) rfl rfl rfl rfl λw3 hB3 hc=>?_;have f3:=pR hc;have hm3:=f3.own hm2 λq hq hS=>by have:=(hm2.lt q hq).1;have hS:q=w.heap.size:=hS;omega
 have hc3:=f3.own (x2.own hc1) λq hq hS=>by have:=(hc1.lt q hq).1;have hS:q=w.heap.size:=hS;omega
 refine ⟨_,oF underlying27 rfl rU hB3 rfl,⟨_,rfl⟩,hk ⟨bC,bC,.slice ma 1 mc,bC⟩ w3 ⟨aA.nil _ _,⟨[],aA.nil _ _,λk x hk=>by simp [iS] at hk⟩,?_,aA.nil _ _⟩ (hc.ext _ (x0.trans x02) (Nat.le_refl _))⟩;refine ⟨[bC,i64 0,bC,.slice ca 1 cc],aA.of_own hm3,λk x hk=>?_⟩
 match k,hk with
 | 0,hk=>cases hk;exact ⟨_,rfl,bC,bC,_,rfl,aA.nil _ _,aA.nil _ _,aA.of_own hc3⟩
 | k+1,hk=>simp [iS] at hk
theorem aRr (hT:sW w) (hk:∀ w',aG w w'->K (.bool true) w'):aB prog 15 #[] w K:=by
 apply bJr;unfold aBz;have rgS:iA.rg iS:=by simp [iA.rg,iS,mS,lT.rg]
 have hb:uB iS.methods=608:=rfl;refine WI λp w1 hA x1=>?_;refine HY (p:=p) (i:=iS) (ap:=0) (a0:=8) hA (bLm (hT.ext x1)) rgS (by decide) (by decide) (by decide) (λw2 hn _=>absurd IY hn) (λw2 _ hn _=>absurd (by rw [hb];decide) hn) λv l w2 ht _ hl hll hok x2=>?_;have hll:l.length=1:=hll
 obtain ⟨x,rfl⟩:∃ x,l=[x]:=by
  match l,hll with
  | [x],_=>exact ⟨x,rfl⟩
 obtain ⟨hat,hcd⟩:=hok 0 x rfl;have hat:x.at_=8:=hat;have hfit:=(hcd.fits IY (by decide)).2.2;have hc1:(iS.meth (0:Nat)).code.length=1:=rfl;rw [hc1] at hfit;obtain ⟨st,r,of,s,f,hcK,_,hhw,_⟩:=hcd;have hne:=hcK.ne IY (by decide);rw [<- hhw] at hne;have hend:pE 8 [x]=IW 8 x.hw.length:=rfl;have hup:=TB 8 x.hw.length;refine CM.2 (CL.2 (CK.2 ?_));refine WI λp3 w3 hA3 x3=>?_;refine YL (p:=p3) (i:=iS) hA3 IY λw4 x4=>?_;have x24:=x3.trans x4;rw [hb];have hl4:=hl.ext x24;refine aJ.2 ?_;rw [decide_eq_true (by rfl)];simp only [aR];refine yR xT hl4 ?_;refine aJ.2 ?_;rw [decide_eq_true (by rfl)];simp only [aR];refine rS xT rF aE hl4 (i:=0) (e:=x) rfl λrow hrow=>⟨i64 x.at_,by rw [hrow.1];rfl,by decide,?_⟩;refine aJ.2 ?_;rw [decide_eq_true hat];simp only [aR];refine rS xT oY aIj hl4 (i:=0) (e:=x) rfl λrow hrow=>⟨x.hv,by rw [hrow.1];rfl,by decide,?_⟩;refine gE aFf hrow.2.1 (jF.2 ?_);rw [decide_eq_true (by omega)];simp only [aR];refine (bCf (by decide)).2 (aJ.2 ?_);rw [hend,Int.tmod_eq_emod_of_nonneg (by omega),decide_eq_true hup.2.2];simp only [aR];refine rS xT oY aIj hl4 (i:=0) (e:=x) rfl λrow hrow=>⟨x.hv,by rw [hrow.1];rfl,by decide,?_⟩;refine gE aFf hrow.2.1 (qP.2 (bJ.2 (fK.2 ?_)));rw [show IntKind.i64.wrap (2*(x.hw.length:Int))=2*x.hw.length from aQ (by omega),aQ (by omega),decide_eq_true (by omega)]
 simp only [aR];rw [decide_eq_true (by omega)];exact hk w4 ((x1.trans x2).trans x24)
section
variable {S:O->Prop} {L:Y->Prop}
theorem bMx {α:Type} {T:O->List Y->α->Prop} {sz:Nat} {t x:TypeId} {v:Y} {l:List α} {i:Nat} {e:α} (h:XA prog t sz) (ht:∃ d z by_,Program.underlying prog x=some d/\lZ d=true/\cZ prog x z sz by_) (hs:bR T sz w v l) (hx:∀ w',S w'->aG w w') (hi:l[i]?=some e) (hT:∀ w row e,T w row e->row.length=sz)
  (hk:∀ row,T w row e->L (.agg row.toArray)):aF prog S (Instr.indexAt t v (i64 i)) λp=>aF prog S (Instr.loadAt x p) L:=by
 obtain ⟨cs,h1,h2⟩:=hs;obtain ⟨row,h3,h4⟩:=h2 i e hi;have hlt:i < l.length:=(List.getElem?_eq_some_iff.1 hi).1;obtain ⟨e,z,b',hte,hinf⟩:=h;obtain ⟨d,z',by_,g2,g3,g4⟩:=ht;obtain ⟨b,off,cap,rfl,hc⟩:=h1.there (by omega);have hl:=hT _ _ _ h4;refine aF.ok (λw' _=>jZ hte hinf (by omega) (by omega)) (aF.ok (λw' hw=>nG g2 g3 g4 hl λj hj=>?_) (hk row h4));obtain ⟨u,hu⟩:∃ u,row[j]?=some u:=⟨_,List.getElem?_eq_getElem hj⟩;rw [hu];refine (hx w' hw).cell ?_;rw [<- h3,List.getElem?_take,if_pos (by omega),List.getElem?_drop] at hu;simpa [Nat.add_assoc] using hc _ _ hu
theorem bAv {α:Type} {T:O->List Y->α->Prop} {sz:Nat} {t s f o ft:Nat} {v:Y} {l:List α} {i:Nat} {e:α} (h:XA prog t sz) (hf:FA prog s f o) (hl:L1 prog ft) (hs:bR T sz w v l) (hx:∀ w',S w'->aG w w') (hi:l[i]?=some e)
  (hk:∀ row,T w row e->∃ u,row[o]?=some u/\o < sz/\L u):aF prog S (Instr.indexAt t v (i64 i)) λp=>aF prog S (Instr.fieldAt s p f) λq=>aF prog S (Instr.loadAt ft q) L:=by
 obtain ⟨cs,h1,h2⟩:=hs;obtain ⟨row,h3,h4⟩:=h2 i e hi;have hlt:i < l.length:=(List.getElem?_eq_some_iff.1 hi).1;obtain ⟨u,hu,ho,hL⟩:=hk row h4;obtain ⟨e,z,b',hte,hinf⟩:=h;obtain ⟨d,hd,ha⟩:=hl;obtain ⟨b,off,cap,rfl,hc⟩:=h1.there (by omega);refine aF.ok (λw' _=>jZ hte hinf (by omega) (by omega)) (aF.ok (λw' _=>hf.ex w' b _) (aF.ok (λw' hw=>jN hd ha ((hx w' hw).cell ?_)) hL));rw [<- h3,List.getElem?_take,if_pos ho,List.getElem?_drop] at hu;simpa [Nat.add_assoc] using hc _ _ hu
end
end Go.Proofs.YtjcmcfidblhnnaaGreatDoor
namespace Go.Tc
theorem aSc {n:Nat} {s s':St} {to:Int} {stack:List Int} (h:nM n s to stack=some s'):∀ k,s'.h k=true->s.h k=true\/k=to.toNat:=λk hk=>by
 unfold nM at h;split at h
 ·cases h
 split at h
 ·obtain ⟨j,_,h⟩:=Option.bind_eq_some_iff.1 h;split at h
  iterate 2
   ·cases h;exact .inl hk
 ·cases h;simp only [St.h] at hk ⊢;rw [lK] at hk;split at hk
  ·rename_i hc;exact .inr hc.1
  ·exact .inl hk
theorem XV {n:Nat} {stack:List Int}:∀ {l:List Int} {s s':St},lX n stack l s=some s'->∀ k,s'.h k=true->s.h k=true\/∃ to∈l,k=to.toNat
 | [],s,s',h,k,hk=>by cases h;exact .inl hk
 | to::l,s,s',h,k,hk=>by
  simp only [lX,Option.bind_eq_some_iff] at h;obtain ⟨s1,h1,h2⟩:=h;rcases XV h2 k hk with h3|⟨t,ht,he⟩
  ·rcases aSc h1 k h3 with h4|h4
   ·exact .inl h4
   ·exact .inr ⟨to,List.mem_cons_self,h4⟩
  ·exact .inr ⟨t,List.mem_cons_of_mem _ ht,he⟩
theorem oO.least {i:iA} {m:jR} {C:Nat->Prop} (hx:∀ x∈m.code,xR i m x) (hc:∀ k,C k->∀ to∈fN (m.ins k) k,C to.toNat) {s:St} {r:Option St} (h:oO i m s r):∀ s',r=some s'->WF m s->ZA i m s->(∀ k,s.h k=true->C k)->∀ k,s'.h k=true->C k:=by
 induction h with
 | done h1=>intro s' he _ _ hC;cases he;exact hC
 | fail _ _=>intro s' he;cases he
 | @go s s1 pc r h1 h2 _ ih=>
  intro s' he hw hi hC;obtain ⟨a,b,_⟩:=BX hx hw hi h1 h2;refine ih s' he a b λk hk=>?_;have ht:s.t pc=true:=(sL h1).1
  have hp:s.h pc=true:=by
   cases hh:s.h pc with
   | true=>rfl
   | false=>rw [(hw.no pc hh).2] at ht;cases ht
  obtain ⟨stack,_,h3⟩:=Option.bind_eq_some_iff.1 h2;rcases XV h3 k hk with h4|⟨to,h4,rfl⟩
  ·exact hC k h4
  ·exact hc pc (hC pc hp) to h4
theorem qO.least {i:iA} {m:jR} {C:Nat->Prop} {s:St} (hi:i.right) (hm:m.right) (h:qO i m (some s)) (h0:C 0) (hc:∀ k,C k->∀ to∈fN (m.ins k) k,C to.toNat):∀ k,s.h k=true->C k:=by
 rcases h with ⟨_,h⟩|⟨h1,h2⟩
 ·cases h
 have hx:∀ x∈m.code,xR i m x:=λx hx=>⟨hi,hm,hm.2.2.2.2 x hx,h1 x hx⟩;obtain ⟨a,b⟩:=zC (i:=i) hm.2.2.2.1.1;refine h2.least hx hc s rfl a b λk hk=>?_;simp only [St.h,St.first] at hk;rw [lK] at hk;split at hk
 ·rename_i hh;rw [hh.1];exact h0
 ·rw [List.getD_eq_getElem?_getD,List.getElem?_replicate] at hk;split at hk<;>simp at hk
end Go.Tc
namespace Go.Proofs.YtjcmcfidblhnnaaGreatDoor
open Tryz
open Go.Vc Go.Tc
variable {w:O} {K:Y->O->Prop}
theorem bDa {i:iA} {m:jR} {st:Tc.St} {r:List Bool} (hi:i.right) (hm:m.right) (hw:qO i m (some st)) (R:IL i m st [] r) (k:Nat):r.getD k false=st.h k:=by
 have h0:r.getD 0 false=true:=by rcases R.z with hz|hz;exact hz;cases hz
 cases hh:st.h k with
 | true=>exact hw.least hi hm (C:=λk=>r.getD k false=true) h0 (λk hk to ht=>by rcases R.cl k hk to ht with h1|h1;exact h1;cases h1) k hh
 | false=>
  cases hr:r.getD k false with
  | false=>rfl
  | true=>rw [R.rs k hr] at hh;cases hh
end Go.Proofs.YtjcmcfidblhnnaaGreatDoor
namespace Go.Proofs.YtjcmcfidblhnnaaGreatDoor
open Tryz
open Go.Vc
theorem bKo {g:aD} (h:g.wr < 0):g.df=-1:=by cases g<;>simp_all [aD.wr,aD.df]
theorem NZ {g:aD} {v:Y} {w:O} (h:vT w v g):aB prog 32 #[v] w λr w'=>r=i64 g.df/\aG w w':=by
 have h0:=h;obtain ⟨m,sv,rfl,hs⟩:=h;apply bJc;unfold aBk;refine bx λb w1 hb x1=>?_;refine iC hb XM rfl ?_;refine (aCk (h0.ext x1)).mono λr w2 ⟨hr,x2⟩=>?_;subst hr;refine aZ.2 (aC (λhlt=>?_) λhge=>?_)
 ·exact ⟨by rw [bKo hlt],x1.trans x2⟩
 ·refine aV (hb.ext x2) rG aE rfl ?_;exact ⟨rfl,x1.trans x2⟩
end Go.Proofs.YtjcmcfidblhnnaaGreatDoor
namespace Go.Proofs.YtjcmcfidblhnnaaGreatDoor
open Tryz
open Go.Vc Go.Tc
variable {w:O} {K:Y->O->Prop}
variable {k:Nat} {p:iE} {i:iA} {x:lT} {m:jR} {a r:Int} {n:aD} {w':O} {N:List aD} {sv:Y} {S:O->Prop} {L:Y->Prop}
theorem S66 {k:Int} (h:-1000<=k/\k<=1000) (hk:K (i64 (10+k)) w):aB prog 61 #[i64 k] w K:=by
 apply bIb;unfold aAm;refine bJ.2 ?_;rw [aQ (by omega)];exact hk
theorem aQc (h:kF w p i) (hk:k < i.methods.length) (hx:xR i (i.meth k) x) (hK:∀ w',aG w w'->K (i64 (aY i (i.meth k) x).length) w') :
  aB prog 60 #[p.val i,i64 k,.agg #[i64 x.op,i64 x.a,i64 x.b]] w K:=by
 have hm:=gI (i:=i) (a:=(k:Int)) (by omega) (by omega);rw [Int.toNat_natCast] at hm;apply bIc;unfold aAn iE.val;refine bx λb1 w1 hb1 x1=>bx λb2 w2 hb2 x2=>?_;have hb1:bF w2 b1 [.string i.name,p.fv,p.iv,p.mv,p.xv]:=hb1.ext x2;have hb2:bF w2 b2 [i64 x.op,i64 x.a,i64 x.b]:=hb2;have x02:=x1.trans x2;have D:aG w2 w2.drew:=(aG.refl _).drew;refine aL.mk' (λw'=>aG w2 w') D ?_;refine yA (λw' hw=>hb1.ext hw) kJ rfl ?_;refine iB (λw' hw=>hb1.ext hw) bP dN rfl ?_;refine ySS iF nW (h.ext x02).mt (λ_ h=>h) hm pX λrow hrow=>?_;refine yA (λw' hw=>hb2.ext hw) gS rfl ?_;exact WE ((h.ext x02).ext D) (hrow.ext D) hx λw4 x4=>⟨D.trans x4,hK _ ((x02.trans D).trans x4)⟩
theorem aSd (h:kF w p i) (hx:xR i m x) (hK:∀ w',aG w w'->K (i64 (hgt i m x)) w') :
  aB prog 62 #[p.val i,.agg #[i64 x.op,i64 x.a,i64 x.b]] w K:=by
 apply bIa;unfold aAl iE.val;refine bx λb1 w1 hb1 x1=>bx λb2 w2 hb2 x2=>?_;refine iC (hb1.ext x2) kJ rfl (iC hb2 gS rfl ?_);have x02:=x1.trans x2;exact YH (p:=p) (h.ext x02) hx λw4 x4=>hK _ (x02.trans x4)
def UY (i:iA) (m:jR) (x:lT) (h:Nat):Int:=if 0 < hgt i m x then 10+((h:Int) - ((aY i m x).length:Nat)) else -1
theorem LV {h:Nat} (hh:1<=h):jV h 1=[10+((h:Int) - 1)]:=by simp [jV];omega
theorem BQ {h:Nat} (hh:2<=h):jV h 2=[10+((h:Int) - 2),10+((h:Int) - 1)]:=by simp [jV,List.range_succ];omega
theorem bNf {h:Nat} (hh:3<=h):jV h 3=[10+((h:Int) - 3),10+((h:Int) - 2),10+((h:Int) - 1)]:=by simp [jV,List.range_succ];omega
theorem ww (a:Int) (h1:-2147483648<=a) (h2:a<=2147483647):IntKind.i64.wrap (IntKind.i32.wrap a)=a:=by
 have e:IntKind.i32.wrap a=a:=by simp only [IntKind.wrap_i32];omega
 rw [e,aQ (by omega)]
theorem aJv {h:Nat} {q:Nat} (h1:hgt i m x=(mC r).length) (h2:(aY i m x).length=q):UY i m x h=rN r ((h:Int) - (q:Nat)):=by
 unfold UY rN;rw [h1,h2];unfold mC;by_cases h0:r=0
 ·rw [if_pos h0,if_pos h0];rfl
 ·rw [if_neg h0,if_neg h0];rfl
theorem aQm {h j:Nat} (h1:(mC r).length=j) (h2:j<=h):jV h j=(aD.ret (rN r ((h:Int) - 1))).us:=by
 unfold mC at h1;unfold rN aD.us;by_cases h0:r=0
 ·rw [if_pos h0] at h1;subst h1;rw [if_pos h0];rfl
 ·rw [if_neg h0] at h1;obtain rfl:1=j:=h1;rw [if_neg h0,LV h2];show _=if (10+((h:Int) - 1))=-1 then [] else [10+((h:Int) - 1)]
  rw [if_neg (by omega)]
theorem bDi {h:Nat} {tv:Y} {T:List Int} (hA:kF w p i) (hk:k < i.methods.length) (hx:xR i (i.meth k) x) (hh:h<=8) (ha:(aY i (i.meth k) x).length<=h) (hn:iH i (i.meth k) x h=some n) (hT:aO w tv T) (haim:FI T n)
  (hK:∀ sv w',w'.ownsRow w.heap.size 3 1 sv (sA T n).us.length ((sA T n).us.map i64)->aG w w'->K (.agg ((sA T n).pcs 0 sv).toArray) w') :
  aB prog 31 #[p.val i,i64 k,.agg #[i64 x.op,i64 x.a,i64 x.b],i64 h,tv] w K:=by
 apply bJd;unfold aBl iE.val;refine bx λb5 w1 hb5 x1=>bx λb7 w2 hb7 x2=>zU rT λw3 hB x3=>?_;have hb5:bF w3 b5 [.string i.name,p.fv,p.iv,p.mv,p.xv]:=(hb5.ext x2).ext x3;have hb7:bF w3 b7 [i64 x.op,i64 x.a,i64 x.b]:=hb7.ext x3;have hB:bO w3 w2.heap.size [i64 0,i64 0,i64 0,i64 0,i64 0,i64 0,i64 0,bC] 58:=hB;have x02:=x1.trans x2;have x03:=x02.trans x3;have hg0:w.heap.size<=w2.heap.size:=x02.size;have hg3:=hB.lt;generalize w2.heap.size=g at hB hg0 hg3;refine iC hb5 kJ rfl (iC hb7 gS rfl ?_);refine aQc (hA.ext x03) hk hx λw4 x4=>?_;have x04:=x03.trans x4;generalize hna:(aY i (i.meth k) x).length=na at ha;refine ⟨λt v w'=>∃ j:Nat,v=i64 j/\j<=na/\aG w3 w'/\w'.ownsRow w3.heap.size 3 1 t j (((jV h na).take j).map i64),λ_ v _=>na - (RowKit.intOf v).toNat,⟨0,rfl,Nat.zero_le _,x4,World.ownsRow_nil _ _ _ _⟩,?_⟩;rintro t12 _ w5 ⟨j,rfl,hj,x5,ho⟩ _;refine aZ.2 (aC (λhlt=>?_) λhge=>?_)
 ·refine fT.2 (bJ.2 ?_);rw [lI (n:=(h:Int) - (na:Nat)) (by omega) (by omega),aQ (by omega)];refine S66 (by omega) ?_;refine jG bB [i64 (10+((h:Int) - (na:Nat)+(j:Nat)))] rfl rfl (by simp) rfl λv6 w6 ho6 x6=>?_;refine LD bB (x6.own ho) (aA.of_own ho6) rfl (by omega) (by unfold maxLen;omega) (x5.trans x6).size λv7 w7 ho7 hg7=>?_;refine jS (by omega) ?_;refine ⟨⟨j+1,rfl,by omega,(x5.trans x6).grown hg7 λq hq=>((x6.own ho).lt q hq).1,?_⟩,by simp only [aK];omega⟩;rw [GR (by omega),List.map_append];have e:(10+((h:Int) - (na:Nat)+(j:Nat)))=10+((h - na+j:Nat):Int):=by omega
  rw [e] at ho7;exact ho7
 have hjn:j=na:=by omega
 subst hjn;rw [List.take_of_length_le (by rw [uS];omega)] at ho;refine ⟨λv w'=>v=i64 (UY i (i.meth k) x h)/\aG w5 w',?_,?_⟩
 ·refine iC (hb5.ext x5) kJ rfl (iC (hb7.ext x5) gS rfl ?_);refine aSd (hA.ext (x03.trans x5)) hx λw6 x6=>jF.2 (aC (λhp=>?_) λhp=>?_)
  ·refine fT.2 ?_;rw [aQ (by omega)];refine S66 (by omega) ⟨?_,x6⟩;unfold UY;rw [if_pos (by omega),hna]
  ·refine ⟨?_,x6⟩;unfold UY;rw [if_neg (by omega)]
 rintro _ w6 ⟨rfl,x6⟩ _;have x36:=x5.trans x6;have X:=x03.trans x36;have hb7:=hb7.ext x36;have hB:=hB.ext x36;have ho:=x6.own ho;have hT:=hT.ext X;have s36:=x36.size;clear hb5 x1 x2 x3 x4 x04 x02 hA;refine aV hb7 aS aE rfl ?_
 have fin:∀ {w':O} {c:List Y} {sv:Y} {g':aD},aG w6 w'->w'.ownsRow w3.heap.size 3 1 sv g'.us.length (g'.us.map i64)->sA T n=g'->c=g'.pcs 0 sv->U prog (Instr.storeAt 58 (.pointer (some ⟨g,0,none⟩)) (.agg c.toArray)) w' λ_ w7=>
   ∃ r1,(loadVar 58 (match (Value.pointer (some ⟨g,0,none⟩)) with|.pointer (some p)=>p|_=>⟨0,0,none⟩)).run prog w7=.ok r1 w7/\(∃ p,(Value.pointer (some ⟨g,0,none⟩))=Value.pointer (some p))/\K r1 w7:=by
  intro w' c sv g' hx' hs he hc;subst hc;have hone:(g'.pcs 0 sv).all bX=true:=by simp [aD.pcs,rR,fV hs]
  refine wR rT (hB.ext hx') (l:=g'.pcs 0 sv) rfl rfl rfl hone λw7 h7 hc=>?_;refine ⟨_,oF underlying58 rfl rT h7 rfl,⟨_,rfl⟩,?_⟩;subst he;refine hK sv w7 (aU ((pR hc).own hs λq hq hS=>?_) (by omega)) (hc.ext _ (X.trans hx') hg0);have:=(hs.lt q hq).1;have hS:q=g:=hS;omega
 have nil0:∀ {w':O},w'.ownsRow w3.heap.size 3 1 bC 0 []:=World.ownsRow_nil _ _ _ _;have D:aG w6 w6.drew:=(aG.refl _).drew;obtain ⟨op,a,b⟩:=x;obtain ⟨ir,mr,⟨hop,a1,a2,_⟩,hnm⟩:=hx;have hop:1<=op/\op<=39:=hop;have hb7:bF w6 b7 [i64 op,i64 a,i64 b]:=hb7;have own:∀ {l:List Int},jV h j=l->w6.ownsRow w3.heap.size 3 1 t12 l.length (l.map i64):=λ{l} e=>by subst e;rw [uS];exact ho
 rcases AD hop with rfl|rfl|rfl|rfl|rfl|rfl|rfl|rfl|rfl|rfl|rfl|rfl|rfl|rfl|rfl|rfl|rfl|rfl|rfl|rfl|rfl|rfl|rfl|rfl|rfl|rfl|rfl|rfl|rfl|rfl|rfl|rfl|rfl|rfl|rfl|rfl|rfl|rfl|rfl
 ·have hn:some (aD.const (10+(h:Int)) (IntKind.i32.wrap a))=some n:=hn;cases hn;simp only [aR,Int.reduceEq,Int.reduceNeg]
  intros
  refine aL.mk' (λw'=>aG w6 w') D ?_;refine iB (λw' hw=>hb7.ext hw) aX aE rfl ?_;refine S66 (by omega) ⟨D,?_⟩;refine mM hY [(0,i64 1),(1,i64 (10+(h:Int))),(3,i64 a)] rfl rfl ?_;exact fin (sv:=bC) (g':=.const (10+(h:Int)) (IntKind.i32.wrap a)) D nil0 rfl (by simp only [aD.pcs,aD.pN,ww a a1 a2];rfl)
 ·have hn:some (aD.move (10+(h:Int)) a)=some n:=hn;cases hn;simp only [aR,Int.reduceEq,Int.reduceNeg]
  intros
  refine ⟨λw7=>∃ sv w',aG w6 w'/\w'.ownsRow w3.heap.size 3 1 sv 1 [i64 a]/\bO w7 g (aD.pcs (.move (10+(h:Int)) a) 0 sv) 58/\LF w' g w7,?_,?_⟩
  ·refine aL.mk' (λw'=>aG w6 w') D ?_;refine iB (λw' hw=>hb7.ext hw) aX aE rfl ?_;refine ⟨?_,?_⟩
   ·refine S66 (by omega) ⟨D,?_⟩;refine jG bB [i64 a] rfl rfl (by simp) rfl λv8 w8 ho8 x8=>⟨D.trans x8,?_⟩;refine mM hY [(0,i64 2),(1,i64 (10+(h:Int))),(7,v8)] rfl (by simp [fV ho8,rR]) ?_;exact wR rT (hB.ext (D.trans x8)) (l:=aD.pcs (.move (10+(h:Int)) a) 0 v8) rfl rfl rfl (by simp [aD.pcs,rR,fV ho8]) λw9 h9 hc=>⟨v8,w8,D.trans x8,aU ho8 (by have:=D.size;omega),h9,hc⟩
   ·refine jG bB [i64 a] rfl rfl (by simp) rfl λv8 w8 ho8 x8=>⟨D.trans x8,?_⟩;refine S66 (by omega) ⟨D.trans x8,?_⟩;refine mM hY [(0,i64 2),(1,i64 (10+(h:Int))),(7,v8)] rfl (by simp [fV ho8,rR]) ?_;exact wR rT (hB.ext (D.trans x8)) (l:=aD.pcs (.move (10+(h:Int)) a) 0 v8) rfl rfl rfl (by simp [aD.pcs,rR,fV ho8]) λw9 h9 hc=>⟨v8,w8,D.trans x8,aU ho8 (by have:=D.size;omega),h9,hc⟩
  ·rintro w7 ⟨sv,w',hx',hs,h7,hc⟩ _;refine ⟨_,oF underlying58 rfl rT h7 rfl,⟨_,rfl⟩,?_⟩;refine hK sv w7 (aU ((pR hc).own hs λq hq hS=>?_) (by omega)) (hc.ext _ (X.trans hx') hg0);have:=(hs.lt q hq).1;have hS:q=g:=hS;omega
 ·obtain rfl:1=j:=hna;have ha:1<=h:=ha;have hn:some (aD.move a (10+((h:Int) - 1)))=some n:=hn;cases hn;simp only [aR,Int.reduceEq,Int.reduceNeg]
  intros
  refine aV hb7 aX aE rfl ?_;obtain ⟨sa,sc,rfl⟩:=(aA.of_own ho).shape;refine lF hY [(0,i64 2),(1,i64 a),(7,_)] rfl rfl ?_;exact fin (g':=.move a (10+((h:Int) - 1))) (aG.refl _) (own (LV ha)) rfl rfl
 ·cases (hn:none=some n)
 ·obtain rfl:1=j:=hna;have ha:1<=h:=ha;have hn:some (aD.move (10+(h:Int)) (10+((h:Int) - 1)))=some n:=hn;cases hn;simp only [aR,Int.reduceEq,Int.reduceNeg]
  intros
  refine S66 (by omega) ?_;obtain ⟨sa,sc,rfl⟩:=(aA.of_own ho).shape;refine lF hY [(0,i64 2),(1,i64 (10+(h:Int))),(7,_)] rfl rfl ?_;exact fin (g':=.move (10+(h:Int)) (10+((h:Int) - 1))) (aG.refl _) (own (LV ha)) rfl rfl
 ·obtain rfl:2=j:=hna;have ha:2<=h:=ha;have hn:some (aD.bin 6 (10+((h:Int) - 2)) (10+((h:Int) - 2)) (10+((h:Int) - 1)))=some n:=hn;cases hn;simp only [aR,Int.reduceEq,Int.reduceNeg]
  intros
  refine aV hb7 aS aE rfl ?_;refine dU.mono λr8 w8 ⟨hr8,hw8⟩=>?_;subst hr8;subst hw8;refine fK.2 (aM.2 ?_);refine aV hb7 aS aE rfl ?_;obtain ⟨sa,sc,rfl⟩:=(aA.of_own ho).shape;refine lF hY [(0,i64 3),(2,i64 6),(1,i64 _),(7,_)] rfl rfl ?_;exact fin (g':=aD.bin 6 (10+((h:Int) - 2)) (10+((h:Int) - 2)) (10+((h:Int) - 1))) (aG.refl _) (own (BQ ha)) rfl rfl
 ·obtain rfl:2=j:=hna;have ha:2<=h:=ha;have hn:some (aD.bin 7 (10+((h:Int) - 2)) (10+((h:Int) - 2)) (10+((h:Int) - 1)))=some n:=hn;cases hn;simp only [aR,Int.reduceEq,Int.reduceNeg]
  intros
  refine aV hb7 aS aE rfl ?_;refine dU.mono λr8 w8 ⟨hr8,hw8⟩=>?_;subst hr8;subst hw8;refine fK.2 (aM.2 ?_);refine aV hb7 aS aE rfl ?_;obtain ⟨sa,sc,rfl⟩:=(aA.of_own ho).shape;refine lF hY [(0,i64 3),(2,i64 7),(1,i64 _),(7,_)] rfl rfl ?_;exact fin (g':=aD.bin 7 (10+((h:Int) - 2)) (10+((h:Int) - 2)) (10+((h:Int) - 1))) (aG.refl _) (own (BQ ha)) rfl rfl
 ·obtain rfl:2=j:=hna;have ha:2<=h:=ha;have hn:some (aD.bin 8 (10+((h:Int) - 2)) (10+((h:Int) - 2)) (10+((h:Int) - 1)))=some n:=hn;cases hn;simp only [aR,Int.reduceEq,Int.reduceNeg]
  intros
  refine aV hb7 aS aE rfl ?_;refine dU.mono λr8 w8 ⟨hr8,hw8⟩=>?_;subst hr8;subst hw8;refine fK.2 (aM.2 ?_);refine aV hb7 aS aE rfl ?_;obtain ⟨sa,sc,rfl⟩:=(aA.of_own ho).shape;refine lF hY [(0,i64 3),(2,i64 8),(1,i64 _),(7,_)] rfl rfl ?_;exact fin (g':=aD.bin 8 (10+((h:Int) - 2)) (10+((h:Int) - 2)) (10+((h:Int) - 1))) (aG.refl _) (own (BQ ha)) rfl rfl
 ·obtain rfl:2=j:=hna;have ha:2<=h:=ha;have hn:some (aD.bin 9 (10+((h:Int) - 2)) (10+((h:Int) - 2)) (10+((h:Int) - 1)))=some n:=hn;cases hn;simp only [aR,Int.reduceEq,Int.reduceNeg]
  intros
  refine aV hb7 aS aE rfl ?_;refine dU.mono λr8 w8 ⟨hr8,hw8⟩=>?_;subst hr8;subst hw8;refine fK.2 (aM.2 ?_);refine aV hb7 aS aE rfl ?_;obtain ⟨sa,sc,rfl⟩:=(aA.of_own ho).shape;refine lF hY [(0,i64 3),(2,i64 9),(1,i64 _),(7,_)] rfl rfl ?_;exact fin (g':=aD.bin 9 (10+((h:Int) - 2)) (10+((h:Int) - 2)) (10+((h:Int) - 1))) (aG.refl _) (own (BQ ha)) rfl rfl
 ·obtain rfl:2=j:=hna;have ha:2<=h:=ha;have hn:some (aD.bin 10 (10+((h:Int) - 2)) (10+((h:Int) - 2)) (10+((h:Int) - 1)))=some n:=hn;cases hn;simp only [aR,Int.reduceEq,Int.reduceNeg]
  intros
  refine aV hb7 aS aE rfl ?_;refine dU.mono λr8 w8 ⟨hr8,hw8⟩=>?_;subst hr8;subst hw8;refine fK.2 (aM.2 ?_);refine aV hb7 aS aE rfl ?_;obtain ⟨sa,sc,rfl⟩:=(aA.of_own ho).shape;refine lF hY [(0,i64 3),(2,i64 10),(1,i64 _),(7,_)] rfl rfl ?_;exact fin (g':=aD.bin 10 (10+((h:Int) - 2)) (10+((h:Int) - 2)) (10+((h:Int) - 1))) (aG.refl _) (own (BQ ha)) rfl rfl
 ·obtain rfl:2=j:=hna;have ha:2<=h:=ha;have hn:some (aD.bin 11 (10+((h:Int) - 2)) (10+((h:Int) - 2)) (10+((h:Int) - 1)))=some n:=hn;cases hn;simp only [aR,Int.reduceEq,Int.reduceNeg]
  intros
  refine aV hb7 aS aE rfl ?_;refine dU.mono λr8 w8 ⟨hr8,hw8⟩=>?_;subst hr8;subst hw8;refine fK.2 (aM.2 ?_);refine aV hb7 aS aE rfl ?_;obtain ⟨sa,sc,rfl⟩:=(aA.of_own ho).shape;refine lF hY [(0,i64 3),(2,i64 11),(1,i64 _),(7,_)] rfl rfl ?_;exact fin (g':=aD.bin 11 (10+((h:Int) - 2)) (10+((h:Int) - 2)) (10+((h:Int) - 1))) (aG.refl _) (own (BQ ha)) rfl rfl
 ·obtain rfl:2=j:=hna;have ha:2<=h:=ha;have hn:some (aD.bin 12 (10+((h:Int) - 2)) (10+((h:Int) - 2)) (10+((h:Int) - 1)))=some n:=hn;cases hn;simp only [aR,Int.reduceEq,Int.reduceNeg]
  intros
  refine aV hb7 aS aE rfl ?_;refine dU.mono λr8 w8 ⟨hr8,hw8⟩=>?_;subst hr8;subst hw8;refine fK.2 (aM.2 ?_);refine aV hb7 aS aE rfl ?_;obtain ⟨sa,sc,rfl⟩:=(aA.of_own ho).shape;refine lF hY [(0,i64 3),(2,i64 12),(1,i64 _),(7,_)] rfl rfl ?_;exact fin (g':=aD.bin 12 (10+((h:Int) - 2)) (10+((h:Int) - 2)) (10+((h:Int) - 1))) (aG.refl _) (own (BQ ha)) rfl rfl
 ·obtain rfl:2=j:=hna;have ha:2<=h:=ha;have hn:some (aD.bin 13 (10+((h:Int) - 2)) (10+((h:Int) - 2)) (10+((h:Int) - 1)))=some n:=hn;cases hn;simp only [aR,Int.reduceEq,Int.reduceNeg]
  intros
  refine aV hb7 aS aE rfl ?_;refine dU.mono λr8 w8 ⟨hr8,hw8⟩=>?_;subst hr8;subst hw8;refine fK.2 (aM.2 ?_);refine aV hb7 aS aE rfl ?_;obtain ⟨sa,sc,rfl⟩:=(aA.of_own ho).shape;refine lF hY [(0,i64 3),(2,i64 13),(1,i64 _),(7,_)] rfl rfl ?_;exact fin (g':=aD.bin 13 (10+((h:Int) - 2)) (10+((h:Int) - 2)) (10+((h:Int) - 1))) (aG.refl _) (own (BQ ha)) rfl rfl
 ·obtain rfl:2=j:=hna;have ha:2<=h:=ha;have hn:some (aD.bin 14 (10+((h:Int) - 2)) (10+((h:Int) - 2)) (10+((h:Int) - 1)))=some n:=hn;cases hn;simp only [aR,Int.reduceEq,Int.reduceNeg]
  intros
  refine aV hb7 aS aE rfl ?_;refine dU.mono λr8 w8 ⟨hr8,hw8⟩=>?_;subst hr8;subst hw8;refine fK.2 (aM.2 ?_);refine aV hb7 aS aE rfl ?_;obtain ⟨sa,sc,rfl⟩:=(aA.of_own ho).shape;refine lF hY [(0,i64 3),(2,i64 14),(1,i64 _),(7,_)] rfl rfl ?_;exact fin (g':=aD.bin 14 (10+((h:Int) - 2)) (10+((h:Int) - 2)) (10+((h:Int) - 1))) (aG.refl _) (own (BQ ha)) rfl rfl
 ·obtain rfl:1=j:=hna;have ha:1<=h:=ha;have hn:some (aD.un 15 (10+((h:Int) - 1)) (10+((h:Int) - 1)))=some n:=hn;cases hn;simp only [aR,Int.reduceEq,Int.reduceNeg]
  intros
  refine aV hb7 aS aE rfl ?_;obtain ⟨sa,sc,rfl⟩:=(aA.of_own ho).shape;refine lF hY [(0,i64 4),(2,i64 15),(1,i64 _),(7,_)] rfl rfl ?_;exact fin (g':=.un 15 (10+((h:Int) - 1)) (10+((h:Int) - 1))) (aG.refl _) (own (LV ha)) rfl rfl
 ·obtain rfl:1=j:=hna;have ha:1<=h:=ha;have hn:some (aD.un 16 (10+((h:Int) - 1)) (10+((h:Int) - 1)))=some n:=hn;cases hn;simp only [aR,Int.reduceEq,Int.reduceNeg]
  intros
  refine aV hb7 aS aE rfl ?_;obtain ⟨sa,sc,rfl⟩:=(aA.of_own ho).shape;refine lF hY [(0,i64 4),(2,i64 16),(1,i64 _),(7,_)] rfl rfl ?_;exact fin (g':=.un 16 (10+((h:Int) - 1)) (10+((h:Int) - 1))) (aG.refl _) (own (LV ha)) rfl rfl
 ·obtain rfl:2=j:=hna;have ha:2<=h:=ha;have hn:some (aD.serve 17 a b (10+((h:Int) - 2)) (jV h 2))=some n:=hn;cases hn;simp only [aR,Int.reduceEq,Int.reduceNeg]
  intros
  refine aV hb7 aS aE rfl ?_;refine dU.mono λr8 w8 ⟨hr8,hw8⟩=>?_;subst hr8;subst hw8;refine fK.2 (bH.2 ?_);refine aV hb7 aS aE rfl ?_;refine aV hb7 aX aE rfl ?_;refine aV hb7 lV aE rfl ?_;obtain ⟨sa,sc,rfl⟩:=(aA.of_own ho).shape;refine lF hY [(0,i64 11),(2,i64 17),(4,i64 a),(5,i64 b),(1,i64 _),(7,_)] rfl rfl ?_;exact fin (g':=aD.serve 17 a b (10+((h:Int) - 2)) (jV h 2)) (aG.refl _) (own rfl) rfl rfl
 ·obtain rfl:2=j:=hna;have ha:2<=h:=ha;have hn:some (aD.serve 18 a b (10+((h:Int) - 2)) (jV h 2))=some n:=hn;cases hn;simp only [aR,Int.reduceEq,Int.reduceNeg]
  intros
  refine aV hb7 aS aE rfl ?_;refine dU.mono λr8 w8 ⟨hr8,hw8⟩=>?_;subst hr8;subst hw8;refine fK.2 (bH.2 ?_);refine aV hb7 aS aE rfl ?_;refine aV hb7 aX aE rfl ?_;refine aV hb7 lV aE rfl ?_;obtain ⟨sa,sc,rfl⟩:=(aA.of_own ho).shape;refine lF hY [(0,i64 11),(2,i64 18),(4,i64 a),(5,i64 b),(1,i64 _),(7,_)] rfl rfl ?_;exact fin (g':=aD.serve 18 a b (10+((h:Int) - 2)) (jV h 2)) (aG.refl _) (own rfl) rfl rfl
 ·obtain rfl:2=j:=hna;have ha:2<=h:=ha;have hn:some (aD.bin 19 (10+((h:Int) - 2)) (10+((h:Int) - 2)) (10+((h:Int) - 1)))=some n:=hn;cases hn;simp only [aR,Int.reduceEq,Int.reduceNeg]
  intros
  refine aV hb7 aS aE rfl ?_;refine dU.mono λr8 w8 ⟨hr8,hw8⟩=>?_;subst hr8;subst hw8;refine fK.2 (aM.2 ?_);refine aV hb7 aS aE rfl ?_;obtain ⟨sa,sc,rfl⟩:=(aA.of_own ho).shape;refine lF hY [(0,i64 3),(2,i64 19),(1,i64 _),(7,_)] rfl rfl ?_;exact fin (g':=aD.bin 19 (10+((h:Int) - 2)) (10+((h:Int) - 2)) (10+((h:Int) - 1))) (aG.refl _) (own (BQ ha)) rfl rfl
 ·obtain rfl:2=j:=hna;have ha:2<=h:=ha;have hn:some (aD.bin 20 (10+((h:Int) - 2)) (10+((h:Int) - 2)) (10+((h:Int) - 1)))=some n:=hn;cases hn;simp only [aR,Int.reduceEq,Int.reduceNeg]
  intros
  refine aV hb7 aS aE rfl ?_;refine dU.mono λr8 w8 ⟨hr8,hw8⟩=>?_;subst hr8;subst hw8;refine fK.2 (aM.2 ?_);refine aV hb7 aS aE rfl ?_;obtain ⟨sa,sc,rfl⟩:=(aA.of_own ho).shape;refine lF hY [(0,i64 3),(2,i64 20),(1,i64 _),(7,_)] rfl rfl ?_;exact fin (g':=aD.bin 20 (10+((h:Int) - 2)) (10+((h:Int) - 2)) (10+((h:Int) - 1))) (aG.refl _) (own (BQ ha)) rfl rfl
 ·obtain rfl:2=j:=hna;have ha:2<=h:=ha;have hn:some (aD.bin 21 (10+((h:Int) - 2)) (10+((h:Int) - 2)) (10+((h:Int) - 1)))=some n:=hn;cases hn;simp only [aR,Int.reduceEq,Int.reduceNeg]
  intros
  refine aV hb7 aS aE rfl ?_;refine dU.mono λr8 w8 ⟨hr8,hw8⟩=>?_;subst hr8;subst hw8;refine fK.2 (aM.2 ?_);refine aV hb7 aS aE rfl ?_;obtain ⟨sa,sc,rfl⟩:=(aA.of_own ho).shape;refine lF hY [(0,i64 3),(2,i64 21),(1,i64 _),(7,_)] rfl rfl ?_;exact fin (g':=aD.bin 21 (10+((h:Int) - 2)) (10+((h:Int) - 2)) (10+((h:Int) - 1))) (aG.refl _) (own (BQ ha)) rfl rfl
 ·obtain rfl:3=j:=hna;have ha:3<=h:=ha;have hn:some (aD.choose (10+((h:Int) - 3)) (10+((h:Int) - 3)) (10+((h:Int) - 2)) (10+((h:Int) - 1)))=some n:=hn;cases hn;simp only [aR,Int.reduceEq,Int.reduceNeg]
  intros
  obtain ⟨sa,sc,rfl⟩:=(aA.of_own ho).shape;refine lF hY [(0,i64 5),(1,i64 _),(7,_)] rfl rfl ?_;exact fin (g':=.choose (10+((h:Int) - 3)) (10+((h:Int) - 3)) (10+((h:Int) - 2)) (10+((h:Int) - 1))) (aG.refl _) (own (bNf ha)) rfl rfl
 ·have hn:some (aD.goto a)=some n:=hn;cases hn;simp only [aR,Int.reduceEq,Int.reduceNeg]
  intros
  refine aV hb7 aX aE rfl ?_;obtain ⟨q,rfl⟩:∃ q:Nat,a=q:=⟨a.toNat,by have:=haim.1;omega⟩;have hq:=haim.2;refine mH aP aE hT (by omega) (by omega) (cM (lQ (by omega))) ?_;refine lF hY [(0,i64 7),(1,i64 (-1)),(6,i64 _)] rfl rfl ?_;exact fin (sv:=bC) (g':=.goto (cN T q)) (aG.refl _) nil0 rfl rfl
 ·obtain rfl:1=j:=hna;have ha:1<=h:=ha;have hn:some (aD.branch (10+((h:Int) - 1)) a)=some n:=hn;cases hn;simp only [aR,Int.reduceEq,Int.reduceNeg]
  intros
  refine aV hb7 aX aE rfl ?_;obtain ⟨q,rfl⟩:∃ q:Nat,a=q:=⟨a.toNat,by have:=haim.1;omega⟩;have hq:=haim.2;refine mH aP aE hT (by omega) (by omega) (cM (lQ (by omega))) ?_;obtain ⟨sa,sc,rfl⟩:=(aA.of_own ho).shape;refine lF hY [(0,i64 8),(1,i64 (-1)),(6,i64 _),(7,_)] rfl rfl ?_;exact fin (g':=.branch (10+((h:Int) - 1)) (cN T q)) (aG.refl _) (own (LV ha)) rfl rfl
 ·have hn:some (aD.const (10+(h:Int)) 0)=some n:=hn;cases hn;simp only [aR,Int.reduceEq,Int.reduceNeg]
  intros
  refine S66 (by omega) ?_;refine lF hY [(0,i64 1),(1,i64 (10+(h:Int)))] rfl rfl ?_;exact fin (sv:=bC) (g':=.const (10+(h:Int)) 0) (aG.refl _) nil0 rfl rfl
 ·obtain rfl:1=j:=hna;have ha:1<=h:=ha;have hn:some (aD.un 26 (10+((h:Int) - 1)) (10+((h:Int) - 1)))=some n:=hn;cases hn;simp only [aR,Int.reduceEq,Int.reduceNeg]
  intros
  refine aV hb7 aS aE rfl ?_;obtain ⟨sa,sc,rfl⟩:=(aA.of_own ho).shape;refine lF hY [(0,i64 4),(2,i64 26),(1,i64 _),(7,_)] rfl rfl ?_;exact fin (g':=.un 26 (10+((h:Int) - 1)) (10+((h:Int) - 1))) (aG.refl _) (own (LV ha)) rfl rfl
 ·obtain rfl:1=j:=hna;have ha:1<=h:=ha;have hn:some (aD.serve 27 a b (10+((h:Int) - 1)) (jV h 1))=some n:=hn;cases hn;simp only [aR,Int.reduceEq,Int.reduceNeg]
  intros
  refine aV hb7 aS aE rfl ?_;refine dU.mono λr8 w8 ⟨hr8,hw8⟩=>?_;subst hr8;subst hw8;refine fK.2 (bH.2 ?_);refine aV hb7 aS aE rfl ?_;refine aV hb7 aX aE rfl ?_;refine aV hb7 lV aE rfl ?_;obtain ⟨sa,sc,rfl⟩:=(aA.of_own ho).shape;refine lF hY [(0,i64 11),(2,i64 27),(4,i64 a),(5,i64 b),(1,i64 _),(7,_)] rfl rfl ?_;exact fin (g':=aD.serve 27 a b (10+((h:Int) - 1)) (jV h 1)) (aG.refl _) (own rfl) rfl rfl
 ·obtain rfl:1=j:=hna;have ha:1<=h:=ha;have hn:some (aD.serve 28 a b (10+((h:Int) - 1)) (jV h 1))=some n:=hn;cases hn;simp only [aR,Int.reduceEq,Int.reduceNeg]
  intros
  refine aV hb7 aS aE rfl ?_;refine dU.mono λr8 w8 ⟨hr8,hw8⟩=>?_;subst hr8;subst hw8;refine fK.2 (bH.2 ?_);refine aV hb7 aS aE rfl ?_;refine aV hb7 aX aE rfl ?_;refine aV hb7 lV aE rfl ?_;obtain ⟨sa,sc,rfl⟩:=(aA.of_own ho).shape;refine lF hY [(0,i64 11),(2,i64 28),(4,i64 a),(5,i64 b),(1,i64 _),(7,_)] rfl rfl ?_;exact fin (g':=aD.serve 28 a b (10+((h:Int) - 1)) (jV h 1)) (aG.refl _) (own rfl) rfl rfl
 ·obtain rfl:2=j:=hna;have ha:2<=h:=ha;have hn:some (aD.serve 29 a b (10+((h:Int) - 2)) (jV h 2))=some n:=hn;cases hn;simp only [aR,Int.reduceEq,Int.reduceNeg]
  intros
  refine aV hb7 aS aE rfl ?_;refine dU.mono λr8 w8 ⟨hr8,hw8⟩=>?_;subst hr8;subst hw8;refine fK.2 (bH.2 ?_);refine aV hb7 aS aE rfl ?_;refine aV hb7 aX aE rfl ?_;refine aV hb7 lV aE rfl ?_;obtain ⟨sa,sc,rfl⟩:=(aA.of_own ho).shape;refine lF hY [(0,i64 11),(2,i64 29),(4,i64 a),(5,i64 b),(1,i64 _),(7,_)] rfl rfl ?_;exact fin (g':=aD.serve 29 a b (10+((h:Int) - 2)) (jV h 2)) (aG.refl _) (own rfl) rfl rfl
 ·obtain rfl:3=j:=hna;have ha:3<=h:=ha;have hn:some (aD.serve 30 a b (-1) (jV h 3))=some n:=hn;cases hn;simp only [aR,Int.reduceEq,Int.reduceNeg]
  intros
  refine aV hb7 aS aE rfl ?_;refine dU.mono λr8 w8 ⟨hr8,hw8⟩=>?_;subst hr8;subst hw8;refine fK.2 (bH.2 ?_);refine aV hb7 aS aE rfl ?_;refine aV hb7 aX aE rfl ?_;refine aV hb7 lV aE rfl ?_;obtain ⟨sa,sc,rfl⟩:=(aA.of_own ho).shape;refine lF hY [(0,i64 11),(2,i64 30),(4,i64 a),(5,i64 b),(1,i64 _),(7,_)] rfl rfl ?_;exact fin (g':=aD.serve 30 a b (-1) (jV h 3)) (aG.refl _) (own rfl) rfl rfl
 ·obtain rfl:5=j:=hna;have ha:5<=h:=ha;have hn:some (aD.serve 31 a b (-1) (jV h 5))=some n:=hn;cases hn;simp only [aR,Int.reduceEq,Int.reduceNeg]
  intros
  refine aV hb7 aS aE rfl ?_;refine dU.mono λr8 w8 ⟨hr8,hw8⟩=>?_;subst hr8;subst hw8;refine fK.2 (bH.2 ?_);refine aV hb7 aS aE rfl ?_;refine aV hb7 aX aE rfl ?_;refine aV hb7 lV aE rfl ?_;obtain ⟨sa,sc,rfl⟩:=(aA.of_own ho).shape;refine lF hY [(0,i64 11),(2,i64 31),(4,i64 a),(5,i64 b),(1,i64 _),(7,_)] rfl rfl ?_;exact fin (g':=aD.serve 31 a b (-1) (jV h 5)) (aG.refl _) (own rfl) rfl rfl
 ·obtain rfl:5=j:=hna;have ha:5<=h:=ha;have hn:some (aD.serve 32 a b (10+((h:Int) - 5)) (jV h 5))=some n:=hn;cases hn;simp only [aR,Int.reduceEq,Int.reduceNeg]
  intros
  refine aV hb7 aS aE rfl ?_;refine dU.mono λr8 w8 ⟨hr8,hw8⟩=>?_;subst hr8;subst hw8;refine fK.2 (bH.2 ?_);refine aV hb7 aS aE rfl ?_;refine aV hb7 aX aE rfl ?_;refine aV hb7 lV aE rfl ?_;obtain ⟨sa,sc,rfl⟩:=(aA.of_own ho).shape;refine lF hY [(0,i64 11),(2,i64 32),(4,i64 a),(5,i64 b),(1,i64 _),(7,_)] rfl rfl ?_;exact fin (g':=aD.serve 32 a b (10+((h:Int) - 5)) (jV h 5)) (aG.refl _) (own rfl) rfl rfl
 ·have hn:some (aD.getField (10+(h:Int)) a)=some n:=hn;cases hn;simp only [aR,Int.reduceEq,Int.reduceNeg]
  intros
  refine aL.mk' (λw'=>aG w6 w') D ?_;refine iB (λw' hw=>hb7.ext hw) aX aE rfl ?_;refine S66 (by omega) ⟨D,?_⟩;refine mM hY [(0,i64 9),(1,i64 (10+(h:Int))),(3,i64 a)] rfl rfl ?_;exact fin (sv:=bC) (g':=.getField (10+(h:Int)) a) D nil0 rfl rfl
 ·obtain rfl:1=j:=hna;have ha:1<=h:=ha;have hn:some (aD.putField a (10+((h:Int) - 1)))=some n:=hn;cases hn;simp only [aR,Int.reduceEq,Int.reduceNeg]
  intros
  refine aV hb7 aX aE rfl ?_;obtain ⟨sa,sc,rfl⟩:=(aA.of_own ho).shape;refine lF hY [(0,i64 10),(1,i64 (-1)),(3,i64 a),(7,_)] rfl rfl ?_;exact fin (g':=.putField a (10+((h:Int) - 1))) (aG.refl _) (own (LV ha)) rfl rfl
 ·have hn:some (aD.const (10+(h:Int)) (IntKind.i32.wrap a))=some n:=hn;cases hn;simp only [aR,Int.reduceEq,Int.reduceNeg]
  intros
  refine aL.mk' (λw'=>aG w6 w') D ?_;refine iB (λw' hw=>hb7.ext hw) aX aE rfl ?_;refine S66 (by omega) ⟨D,?_⟩;refine mM hY [(0,i64 1),(1,i64 (10+(h:Int))),(3,i64 a)] rfl rfl ?_;exact fin (sv:=bC) (g':=.const (10+(h:Int)) (IntKind.i32.wrap a)) D nil0 rfl (by simp only [aD.pcs,aD.pN,ww a (by simp [lim] at a1;omega) (by simp [lim] at a2;omega)];rfl)
 ·obtain rfl:3=j:=hna;have ha:3<=h:=ha;have hn:some (aD.serve 36 a b (-1) (jV h 3))=some n:=hn;cases hn;simp only [aR,Int.reduceEq,Int.reduceNeg]
  intros
  refine aV hb7 aS aE rfl ?_;refine dU.mono λr8 w8 ⟨hr8,hw8⟩=>?_;subst hr8;subst hw8;refine fK.2 (bH.2 ?_);refine aV hb7 aS aE rfl ?_;refine aV hb7 aX aE rfl ?_;refine aV hb7 lV aE rfl ?_;obtain ⟨sa,sc,rfl⟩:=(aA.of_own ho).shape;refine lF hY [(0,i64 11),(2,i64 36),(4,i64 a),(5,i64 b),(1,i64 _),(7,_)] rfl rfl ?_;exact fin (g':=aD.serve 36 a b (-1) (jV h 3)) (aG.refl _) (own rfl) rfl rfl
 ·have hna:(i.meth a).params.length=j:=hna;have ed:UY i (i.meth k) ⟨37,a,b⟩ h=rN (i.meth a).result ((h:Int) - (i.meth a).params.length):=aJv rfl rfl;rw [ed];have hn:some (aD.call a (rN (i.meth a).result ((h:Int) - (i.meth a).params.length)) (jV h (i.meth a).params.length))=some n:=hn;cases hn;simp only [aR,Int.reduceEq,Int.reduceNeg]
  intros
  refine aV hb7 aX aE rfl ?_;obtain ⟨sa,sc,rfl⟩:=(aA.of_own ho).shape;refine lF hY [(0,i64 12),(3,i64 a),(1,i64 _),(7,_)] rfl rfl ?_;exact fin (g':=.call a (rN (i.meth a).result ((h:Int) - (i.meth a).params.length)) (jV h (i.meth a).params.length)) (aG.refl _) (own (show jV h j=jV h (i.meth a).params.length by rw [hna])) rfl rfl
 ·have hna:(i.imp a).params.length=j:=hna;have ed:UY i (i.meth k) ⟨38,a,b⟩ h=rN (i.imp a).result ((h:Int) - (i.imp a).params.length):=aJv rfl rfl;rw [ed];have hn:some (aD.callX a (rN (i.imp a).result ((h:Int) - (i.imp a).params.length)) (jV h (i.imp a).params.length))=some n:=hn;cases hn;simp only [aR,Int.reduceEq,Int.reduceNeg]
  intros
  refine aV hb7 aX aE rfl ?_;obtain ⟨sa,sc,rfl⟩:=(aA.of_own ho).shape;refine lF hY [(0,i64 13),(3,i64 a),(1,i64 _),(7,_)] rfl rfl ?_;exact fin (g':=.callX a (rN (i.imp a).result ((h:Int) - (i.imp a).params.length)) (jV h (i.imp a).params.length)) (aG.refl _) (own (show jV h j=jV h (i.imp a).params.length by rw [hna])) rfl rfl
 ·have hna:(mC (i.meth k).result).length=j:=hna;have hn:some (aD.ret (rN (i.meth k).result ((h:Int) - 1)))=some n:=hn;cases hn;simp only [aR,Int.reduceEq,Int.reduceNeg]
  intros
  obtain ⟨sa,sc,rfl⟩:=(aA.of_own ho).shape;refine lF hY [(0,i64 14),(1,i64 (-1)),(7,_)] rfl rfl ?_;refine fin (g':=.ret (rN (i.meth k).result ((h:Int) - 1))) (aG.refl _) (own ?_) rfl rfl;exact aQm hna ha
def uE (g:Nat) (w:O) (v:Y) (N:List aD):Prop:=∃ cs,w.ownsRow (g+1) 58 8 v N.length cs/\∀ (j:Nat) n,N[j]?=some n->∃ sv,(cs.drop (j*8)).take 8=n.pcs 0 sv/\w.ownsRow (g+1) 3 1 sv n.us.length (n.us.map i64)
theorem uE.ext {g:Nat} {v:Y} (h:uE g w v N) (hx:aG w w'):uE g w' v N:=by
 obtain ⟨cs,h1,h2⟩:=h;refine ⟨cs,hx.own h1,λj n hn=>?_⟩;obtain ⟨sv,h3,h4⟩:=h2 j n hn;exact ⟨sv,h3,hx.own h4⟩
theorem uE.nil (g:Nat) (w:O):uE g w bC []:=⟨[],World.ownsRow_nil _ _ _ _,λj n hn=>by simp at hn⟩
theorem uE.one {g:Nat} {v:Y} (h:uE g w v N):bX v=true:=by obtain ⟨cs,h1,_⟩:=h;exact Go.Proofs.YtjcmcfidblhnnaaGreatDoor.fV h1
theorem uE.blk {g:Nat} {v:Y} (h:uE g w v N):∀ q,v.ownBlock=some q->g+1<=q/\q < w.heap.size:=by obtain ⟨cs,h1,_⟩:=h;exact λq hq=>h1.lt q hq
theorem uE.fr {g:Nat} {v:Y} (h:uE g w v N) (f:Fr (λq=>q=g) w w'):uE g w' v N:=by
 obtain ⟨cs,h1,h2⟩:=h;have no:∀ {e sz n v xs},w.ownsRow (g+1) e sz v n xs->w'.ownsRow (g+1) e sz v n xs:=λho=>f.own ho λq hq hS=>by have:=(ho.lt q hq).1;have hS:q=g:=hS;omega
 refine ⟨cs,no h1,λj n hn=>?_⟩;obtain ⟨sv,h3,h4⟩:=h2 j n hn;exact ⟨sv,h3,no h4⟩
theorem uE.ap {g:Nat} {v u:Y} {t ty:TypeId} (hte:Program.underlying prog t=some (.slice 58)) (h:uE g w v N) (hu:aA w u 8 1 (n.pcs 0 sv)) (hs:w.ownsRow (g+1) 3 1 sv n.us.length (n.us.map i64)) (hN:N.length<=100000) (hg:g+1<=w.heap.size)
  (hk:∀ v' w',uE g w' v' (N++[n])->Fr (λq=>v.ownBlock=some q) w w'->(∀ q,v'.ownBlock=some q->v.ownBlock=some q\/w.heap.size<=q)->K v' w'):V prog (Builtin.append_ #[t,t] ty #[v,u]) w K:=by
 obtain ⟨cs,h1,h2⟩:=h;refine apG hte rT rfl (by decide) h1 hu (by simp [aD.pcs,rR,fV hs]) (by omega) (by unfold maxLen;omega) hg λv' w' ho' hg' hl'=>?_;have f:Fr (λq=>v.ownBlock=some q) w w':=Fr.of_grown hg' λq hq=>hq
 have keep:∀ {sv:Y} {m:Nat} {xs:List Y},w.ownsRow (g+1) 3 1 sv m xs->w'.ownsRow (g+1) 3 1 sv m xs:=λho=>f.own ho λq hq hS=>by
  rcases uT h1 ho (by decide) with hb|hb
  ·rw [hb] at hS;cases hS
  ·exact hb (by rw [hS];exact hq.symm)
 have hcl:cs.length=N.length*8:=h1.1;refine hk v' w' ⟨cs++n.pcs 0 sv,by simpa using ho',λj m hm=>?_⟩ f λq hq=>?_
 ·rw [List.getElem?_append] at hm;split at hm
  ·rename_i hlt
   obtain ⟨sv2,h3,h4⟩:=h2 j m hm;exact ⟨sv2,by rw [bFd hcl hlt];exact h3,keep h4⟩
  ·rename_i hge
   have hj:j - N.length=0:=by have:=(List.getElem?_eq_some_iff.1 hm).1;simpa using this
   rw [hj] at hm;cases hm;have:j=N.length:=by omega
   subst this;exact ⟨sv,bFe hcl rfl,keep hs⟩
 ·rcases hl' with hl|hl
  ·rw [hl] at hq;exact .inl hq
  ·rw [hl] at hq;cases hq;exact .inr (Nat.le_refl _)
theorem uE.keepI {g B n:Nat} {v:Y} {xs:List Y} (h:uE g w v N) (ho:w.ownsRow B 3 1 sv n xs):∀ q,sv.ownBlock=some q->¬ v.ownBlock=some q:=λq hq hv=>by
 obtain ⟨cs,h1,_⟩:=h;rcases uT h1 ho (by decide) with hb|hb
 ·rw [hb] at hv;cases hv
 ·exact hb (by rw [hv];exact hq.symm)
theorem MU {h:Nat} (h4:x.op≠4):∃ n,iH i m x h=some n:=by
 cases hn:iH i m x h with
 | some n=>exact ⟨n,rfl⟩
 | none=>exact absurd (DZ hn) h4
theorem XK {h:Nat} (h4:x.op=4):iH i m x h=none:=by simp [iH,h4]
def Rq (g:Nat) (np:Int) (w:O) (N:List aD) (nv:Y):Prop:=bO w g [i64 np,i64 18,nv] 54/\uE g w nv N
theorem Rq.ext {g:Nat} {np:Int} {w':O} {N:List aD} {nv:Y} (h:Rq g np w N nv) (hx:aG w w'):Rq g np w' N nv:=⟨h.1.ext hx,h.2.ext hx⟩
theorem Rq.push {g:Nat} {np:Int} {nv:Y} {K':O->Prop} (h:Rq g np w N nv) (hs:w.ownsRow (g+1) 3 1 sv n.us.length (n.us.map i64)) (hN:N.length<=100000)
  (hk:∀ nv' w',Rq g np w' (N++[n]) nv'->Fr (λq=>q=g\/nv.ownBlock=some q) w w'->K' w') :
  V prog (Instr.buildSlice 52 1 #[(0,.agg (n.pcs 0 sv).toArray)]) w λt w1=>V prog (Builtin.append_ #[52,52] 52 #[nv,t]) w1 λt2 w2=>V prog (Instr.fieldAt 54 (.pointer (some ⟨g,0,none⟩)) 2) w2 λq w3=>U prog (Instr.storeAt 52 q t2) w3 λ_ w4=>K' w4:=by
 obtain ⟨hB,hR⟩:=h;have hg:=hB.lt;refine xM underlying52 rT rfl (by decide) [.agg (n.pcs 0 sv).toArray] rfl rfl (by intro v hv;rw [List.mem_singleton] at hv;subst hv;rfl) (by decide) (by decide) λu w1 hu x1=>?_;have s1:=x1.size;have huS:aA w1 u 8 1 (n.pcs 0 sv):=by simpa [Value.cells] using aA.of_own hu
 refine (hR.ext x1).ap underlying52 huS (x1.own hs) hN (by omega) λv' w' hR' f' hq'=>?_;have hb:=hR.blk;have hB':=f'.blk (hB.ext x1) λhS=>by have:=(hb g hS).1;omega
 refine FZ lL aIt hB' (n:=3) rfl (by decide) hR'.one ?_;have f3:Fr (λq=>q=g) w' (w'.setCell ⟨g,2,none⟩ v'):=Fr.of_set rfl;have hB3:=hB'.set 2 v';generalize w'.setCell ⟨g,2,none⟩ v'=w3 at f3 hB3;exact hk v' w3 ⟨hB3,hR'.fr f3⟩ (((Fr.of_ext x1).trans (f'.mono λk hk=>.inr hk) λ_ _ h=>h).trans (f3.mono λk hk=>.inl hk) λ_ _ h=>h)
theorem bDx {st:Tc.St} {r:List Bool} (h:kF w p i) (ht:mE i) (hk:k < i.methods.length) (hw:qO i (i.meth k) (some st)) (R:IL i (i.meth k) st [] r)
  (hK:∀ pv sv w',aSy w' pv (i.meth k).params.length 18 (lS i (i.meth k) st r)->aO w' sv (aW i (i.meth k) st r (i.meth k).code.length).2->aG w w'->K (.tuple #[pv,sv]) w'):aB prog 12 #[p.val i,i64 k] w K:=by
 have hmi:=gI (i:=i) (a:=(k:Int)) (by omega) (by omega);rw [Int.toNat_natCast] at hmi;have ir:=ht.1;have mr:(i.meth k).right:=ir.2.2.1.2.1 _ (List.mem_of_getElem? hmi);obtain ⟨hox,hwf,hh0,hs0,hled⟩:=hw.led ir mr;have hrh:=bDa ir mr hw R;have pl:=mr.1.2;have ll:=mr.2.2.1.2;have lc:=mr.2.2.2.1.2;obtain ⟨_,c2,c3,_⟩:=uV i (i.meth k) st r;have haim:∀ n∈(aW i (i.meth k) st r (i.meth k).code.length).1,FI (aW i (i.meth k) st r (i.meth k).code.length).2 n:=AH c2 hled R.rs _;apply bJu;unfold aCd iE.val;refine bx λb2 w1 hb2 x1=>?_;have hb2:bF w1 b2 [.string i.name,p.fv,p.iv,p.mv,p.xv]:=hb2;refine zU HR λw2 hB4 x2=>?_;have hB4:bO w2 w1.heap.size [i64 0,i64 0,bC] 54:=hB4;have hg4:=x1.size;have hb2:=hb2.ext x2;have x02:=x1.trans x2;generalize w1.heap.size=g4 at hB4 hg4;refine aV hb2 bP dN rfl ?_;refine XL iF nW (h.ext x02).mt hmi pX λrow hrow=>?_;generalize hmm:i.meth k=m at *;obtain ⟨pv,lv,cv,rfl,hp,hl,hc⟩:=hrow
 have hone:([pv,i64 m.result,lv,cv]:List Y).all bX=true:=by
  obtain ⟨a1,c1,rfl⟩:=hp.shape;obtain ⟨a2,c2,rfl⟩:=hl.shape;obtain ⟨a3,c3,rfl⟩:=aA.shape hc;rfl
 refine sG DB rfl hone λb6 w3 hb6 x3=>?_;have hb6:bF w3 b6 [pv,i64 m.result,lv,cv]:=hb6;have x03:=x02.trans x3;refine iC (hb2.ext x3) kJ rfl ?_;have hwk:qO i (i.meth k) (some st):=by rw [hmm];exact hw
 apply bJe;unfold aBm;refine bx λb7 w4 hb7 x4=>?_;refine iC hb7 kJ rfl ?_;refine aFj (p:=p) (i:=i) (k:=k) (h.ext (x03.trans x4)) ir hk (λst' sv hv wB hw' hst hhv x5=>?_) (λpc e wB hw' _ x5=>?_)
 case refine_2=>have:=hw'.det hwk;cases this
 obtain rfl:st=st':=by have:=hwk.det hw';exact Option.some.inj this
 refine KR.2 (KQ.2 (KP.2 (KO.2 ?_)));refine gR.2 (gQ.2 ?_);have x0B:=(x03.trans x4).trans x5;have x3B:=x4.trans x5;have hb2:=(hb2.ext x3).ext x3B;have hb6:=hb6.ext x3B;have hB4:=(hB4.ext x3).ext x3B;have hp:=(hp.ext x3).ext x3B;have hl:=(hl.ext x3).ext x3B;have hc:oC wB cv m.code:=(hc.ext x3).ext x3B;have h:=h.ext x0B;clear x4 x5 x3B hb7;refine aV hb6 dM bE rfl (gE aP hp ?_);refine lF bMg [(0,i64 m.params.length),(1,i64 18)] rfl rfl ?_;refine tH bBd rfl rfl λw9 hB9 x9=>?_;have hB9:bO w9 wB.heap.size [i64 m.params.length,i64 18,bC] 54:=hB9;have hL0:Rq wB.heap.size m.params.length w9 [] bC:=⟨hB9,uE.nil _ _⟩;have hg4B:g4 < wB.heap.size:=hB4.lt;have sB0:=x0B.size;generalize hgg:wB.heap.size=g at *
 have cut:∀ {w' w'':O} {nv:Y} {N:List aD},Rq g m.params.length w' N nv->aG wB w'->Fr (λq=>q=g\/nv.ownBlock=some q) w' w''->aG wB w'':=λhR hx f=>f.ext hx λq hq=>by
  rcases hq with hq|hq
  ·omega
  ·have:=(hR.2.blk q hq).1;omega
 refine ⟨λv w'=>∃ (j:Nat) (nv:Y),v=i64 j/\j<=m.locals.length/\aG wB w'/\Rq g m.params.length w' ((List.range j).map λ(j:Nat)=>aD.const ((m.params.length:Int)+((j:Nat):Int)) 0) nv,λv _=>m.locals.length - (RowKit.intOf v).toNat,⟨0,bC,rfl,Nat.zero_le _,x9,hL0⟩,?_⟩;clear hL0 hB9;rintro _ w10 ⟨j,nv,rfl,hj,x10,hL⟩ _;refine aV (hb6.ext x10) lB bE rfl (gE aP (hl.ext x10) (aZ.2 (aC (λhlt=>?_) λhge=>?_)))
 ·refine aV (bO.boxed hL.1) lL EB rfl ?_;refine aV (hb6.ext x10) dM bE rfl (gE aP (hp.ext x10) (bJ.2 ?_));rw [aQ (by omega)];refine lF hY [(0,i64 1),(1,i64 ((m.params.length:Int)+(j:Int)))] rfl rfl ?_;refine hL.push (n:=.const ((m.params.length:Int)+(j:Int)) 0) (sv:=bC) (World.ownsRow_nil _ _ _ _) (by simp;omega) λnv' w11 hL11 f11=>bJ.2 ?_;rw [aQ (by omega),bK];refine ⟨⟨j+1,nv',rfl,by omega,cut hL x10 f11,?_⟩,by simp only [aK];omega⟩;rw [List.range_succ,List.map_append];exact hL11
 have hjl:j=m.locals.length:=by omega
 subst hjl;have hL:Rq g m.params.length w10 (aW i m st r 0).1 nv:=hL;refine aV (bO.boxed hL.1) lL EB rfl ?_;obtain ⟨ncs,hncs,_⟩:=hL.2;refine gE VV (aA.of_own hncs) ?_
 have hhas:∀ {w':O} {j:Nat} {R':Y->O->Prop},aG wB w'->j < m.code.length->R' (.bool (r.getD j false)) w'->V prog (Instr.indexAt 95 hv (i64 j)) w' λq w1=>V prog (Instr.loadAt 4 q) w1 R':=λ{w' j R'} hx hj hR'=>by
  have hl2:=hwf.l2;refine mH hO oM (hhv.ext hx) (by omega) (by omega) (EV (by omega)) ?_;have:st.has.getD j false=r.getD j false:=(hrh j).symm;rw [this];exact hR'
 have hins:∀ {w':O} {j:Nat} {R':Y->O->Prop},aG wB w'->j < m.code.length->R' (i64 (m.ins j).op) w'->V prog (Instr.indexAt 36 cv (i64 j)) w' λq w1=>V prog (Instr.fieldAt 88 q 0) w1 λq2 w2=>V prog (Instr.loadAt 3 q2) w2 R':=λ{w' j R'} hx hj hR'=>by
  have hxi:=qL (m:=m) (k:=j) hj;exact rS kQ aS aE (oC.strs (hc.ext hx)) hxi λrow hrow=>⟨i64 (m.ins j).op,by rw [hrow];rfl,by decide,hR'⟩
 refine ⟨λtv a v w'=>∃ j:Nat,v=i64 j/\j<=m.code.length/\a=i64 (aW i m st r j).1.length/\aG w10 w'/\w'.ownsRow w10.heap.size 3 1 tv j ((aW i m st r j).2.map i64),λ_ _ v _=>m.code.length - (RowKit.intOf v).toNat,⟨0,rfl,Nat.zero_le _,rfl,aG.refl _,World.ownsRow_nil _ _ _ _⟩,?_⟩;rintro tv _ _ w11 ⟨j,rfl,hj,rfl,x11,hT⟩ _;have xB11:=x10.trans x11;have hlen:(aW i m st r j).1.length<=m.locals.length+2*j:=(qK i m st r j).2.2.1;refine aV (hb6.ext xB11) cC hU rfl (gE kQ (aA.ext hc xB11) (aZ.2 (aC (λhlt=>?_) λhge=>?_)))
 ·refine hhas xB11 (by omega) (dO.2 ?_);cases hrj:r.getD j false with
  | false=>
   have hK:aW i m st r (j+1)=((aW i m st r j).1,(aW i m st r j).2++[-1]):=by simp only [aW,hrj];rfl
   simp only [aR,Int.reduceNeg];refine jG bB [i64 (-1)] rfl rfl (by simp) rfl λu12 w12 ho12 x12=>?_;refine LD bB (x12.own hT) (aA.of_own ho12) rfl (by omega) (by unfold maxLen;omega) (x11.trans x12).size λu13 w13 ho13 hg13=>bJ.2 ?_;rw [aQ (by omega),bK];refine ⟨⟨j+1,rfl,by omega,by rw [hK],(x11.trans x12).grown hg13 λq hq=>(hT.lt q hq).1,by rw [hK];simpa using ho13⟩,by simp only [aK];omega⟩
  | true=>
   simp only [aR,Int.reduceNeg];refine jG bB [i64 (aW i m st r j).1.length] rfl rfl (by simp) rfl λu12 w12 ho12 x12=>?_;refine LD bB (x12.own hT) (aA.of_own ho12) rfl (by omega) (by unfold maxLen;omega) (x11.trans x12).size λu13 w13 ho13 hg13=>bJ.2 ?_;have x13:aG w10 w13:=(x11.trans x12).grown hg13 λq hq=>(hT.lt q hq).1;have xB13:=x10.trans x13;rw [aQ (by omega),bK];refine aV (hb6.ext xB13) cC hU rfl (hins xB13 (by omega) (cL.2 (aC (λhne=>?_) λheq=>?_)))
   ·obtain ⟨n,hn⟩:=MU (i:=i) (m:=m) (h:=(st.s j).length) hne;have hK:aW i m st r (j+1)=((aW i m st r j).1++[.tick,n],(aW i m st r j).2++[((aW i m st r j).1.length:Int)]):=by simp only [aW,hrj,hn];rfl
    refine bJ.2 (bJ.2 ?_);rw [aQ (by omega),aQ (by omega),bK,bK];refine ⟨⟨j+1,rfl,by omega,by rw [hK];simp;omega,x13,by rw [hK];simpa using ho13⟩,by simp only [aK];omega⟩
   ·have hK:aW i m st r (j+1)=((aW i m st r j).1++[.tick],(aW i m st r j).2++[((aW i m st r j).1.length:Int)]):=by simp only [aW,hrj,XK (show (m.ins j).op=4 by omega)];rfl
    refine jS (by omega) ?_;refine ⟨⟨j+1,rfl,by omega,by rw [hK];simp,x13,by rw [hK];simpa using ho13⟩,by simp only [aK];omega⟩
 have hjn:j=m.code.length:=by omega
 subst hjn;have eP:lS i m st r=(aW i m st r m.code.length).1.map (sA (aW i m st r m.code.length).2):=rfl;generalize hTT:(aW i m st r m.code.length).2=T at *
 have hT0:w11.ownsRow (g+1) 3 1 tv T.length (T.map i64):=by
  rw [c2];have:=hL.1.lt;exact aU hT (by omega)
 clear hT;refine ⟨λv w'=>∃ (j:Nat) (nv:Y),v=i64 j/\j<=m.code.length/\aG wB w'/\Rq g m.params.length w' ((aW i m st r j).1.map (sA T)) nv/\w'.ownsRow (g+1) 3 1 tv T.length (T.map i64),λv _=>m.code.length - (RowKit.intOf v).toNat,⟨0,nv,rfl,Nat.zero_le _,xB11,?_,hT0⟩,?_⟩
 ·have e0:(aW i m st r 0).1.map (sA T)=(aW i m st r 0).1:=by
   show ((List.range m.locals.length).map _).map _=_;rw [List.map_map];rfl
  rw [e0];exact hL.ext x11
 clear hL hT0 hncs x11 xB11 x10;rintro _ w12 ⟨j,nv,rfl,hj,x12,hL,hT⟩ _;have hlen2:(aW i m st r j).1.length<=m.locals.length+2*j:=(qK i m st r j).2.2.1;refine aV (hb6.ext x12) cC hU rfl (gE kQ (aA.ext hc x12) (aZ.2 (aC (λhlt=>?_) λhge=>?_)))
 ·refine hhas x12 (by omega) (dO.2 ?_);cases hrj:r.getD j false with
  | false=>
   have hK:aW i m st r (j+1)=((aW i m st r j).1,(aW i m st r j).2++[-1]):=by simp only [aW,hrj];rfl
   simp only [aR,Int.reduceNeg];refine jS (by omega) ?_;exact ⟨⟨j+1,nv,rfl,by omega,x12,by rw [hK];exact hL,hT⟩,by simp only [aK];omega⟩
  | true=>
   simp only [aR,Int.reduceNeg];refine aV (bO.boxed hL.1) lL EB rfl ?_;refine lF hY [(0,i64 6),(1,i64 (-1))] rfl rfl ?_;refine hL.push (n:=.tick) (sv:=bC) (World.ownsRow_nil _ _ _ _) (by simp;omega) λnv2 w13 hL13 f13=>?_;have x13:=cut hL x12 f13
   have hT13:=f13.own hT λq hq hS=>by
    rcases hS with hS|hS
    ·have:=(hT.lt q hq).1;omega
    ·exact hL.2.keepI hT q hq hS
   clear hL f13;refine aV (hb6.ext x13) cC hU rfl (hins x13 (by omega) (cL.2 (aC (λhne=>?_) λheq=>?_)))
   ·obtain ⟨n,hn⟩:=MU (i:=i) (m:=m) (h:=(st.s j).length) hne;have hK:aW i m st r (j+1)=((aW i m st r j).1++[.tick,n],(aW i m st r j).2++[((aW i m st r j).1.length:Int)]):=by simp only [aW,hrj,hn];rfl
    have hh:=R.rs j hrj;obtain ⟨out,hdo,hto⟩:=hled j hh;obtain ⟨hkd,hl8⟩:=hwf.kd j hh;have ox:=hox _ (JX (m:=m) (k:=j) (by omega));obtain ⟨_,_,hask,_⟩:=AO ox hkd hdo
    have ham:FI T n:=HG hn λto ht'=>by
     obtain ⟨q1,q2,_⟩:=hto to ht';exact ⟨q1,by rw [c2];exact q2⟩
    have D:aG w13 w13.drew:=(aG.refl _).drew;have xD:=x13.trans D;have hLD:=hL13.ext D;have hTD:=D.own hT13;have S2:∀ w',Fr (λq=>nv2.ownBlock=some q) w13.drew w'->aG wB w':=λw' f=>f.ext xD λq hq=>by have:=(hLD.2.blk q hq).1;omega
    have hgn:¬ nv2.ownBlock=some g:=λhS=>by have:=(hLD.2.blk g hS).1;omega
    obtain ⟨svs,hsv1,hsv2⟩:=hst;have hstl:st.st.length=m.code.length:=hwf.l1;obtain ⟨su,hsu,hsi⟩:=hsv2 j (by omega);refine aL.mk' (λw'=>Fr (λq=>nv2.ownBlock=some q) w13.drew w') (Fr.refl _ _) ?_;refine iB (λw' hw=>bO.boxed (hw.blk hLD.1 hgn)) lL EB rfl ?_;refine yA (λw' hw=>hb2.ext (S2 w' hw)) kJ rfl ?_;refine iB (λw' hw=>hb6.ext (S2 w' hw)) cC hU rfl ?_;refine yI hc S2 (qL (m:=m) (k:=j) (by omega)) ?_;refine nT pG bE hsv1 S2 (by omega) (by omega) (by simpa using hsu) ?_;refine sZ aP hsi ?_;refine bDi (p:=p) (i:=i) (k:=k) (x:=m.ins j) (n:=n) (h.ext xD) hk (by rw [hmm];exact ox) hl8 (by rw [hmm];exact hask) (by rw [hmm];exact hn) (aA.of_own hTD) ham λsv2 w14 hs14 x14=>⟨Fr.of_ext x14,?_⟩;have hgD:=hLD.1.lt;refine xM underlying52 rT rfl (by decide) [.agg ((sA T n).pcs 0 sv2).toArray] rfl rfl (by intro v hv;rw [List.mem_singleton] at hv;subst hv;rfl) (by decide) (by decide) λu15 w15 hu15 x15=>⟨Fr.of_ext (x14.trans x15),?_⟩;have x45:=x14.trans x15;have s45:=x45.size;have huS:aA w15 u15 8 1 ((sA T n).pcs 0 sv2):=by simpa [Value.cells] using aA.of_own hu15
    refine (hLD.2.ext x45).ap underlying52 huS (aU (x15.own hs14) (by omega)) (by simp;omega) (by omega) λv16 w16 hR16 f16 _=>?_;have fD:Fr (λq=>nv2.ownBlock=some q) w13.drew w16:=(Fr.of_ext x45).trans f16 λ_ _ h=>h;refine ⟨fD,aF.ok (λw' _=>lL.ex w' g 0) ?_⟩;have hB16:=fD.blk hLD.1 hgn;refine bCu aIt hB16 (n:=3) rfl (by decide) hR16.one ?_;have f17:Fr (λq=>q=g) w16 (w16.setCell ⟨g,2,none⟩ v16):=Fr.of_set rfl;have hB17:=hB16.set 2 v16;have x17:aG wB (w16.setCell ⟨g,2,none⟩ v16):=(S2 _ fD).setCell (by omega) _;generalize w16.setCell ⟨g,2,none⟩ v16=w17 at f17 hB17 x17;refine jS (by omega) ?_;have hT16:=fD.own hTD λq hq hS=>hLD.2.keepI hTD q hq hS;refine ⟨⟨j+1,v16,rfl,by omega,x17,⟨hB17,?_⟩,f17.own hT16 λq hq hS=>by have:=(hT16.lt q hq).1;have hS:q=g:=hS;omega⟩,by simp only [aK];omega⟩;rw [hK,List.map_append];have h18:=hR16.fr f17;rw [List.append_assoc] at h18;exact h18
   ·have hK:aW i m st r (j+1)=((aW i m st r j).1++[.tick],(aW i m st r j).2++[((aW i m st r j).1.length:Int)]):=by simp only [aW,hrj,XK (show (m.ins j).op=4 by omega)];rfl
    refine jS (by omega) ?_;refine ⟨⟨j+1,nv2,rfl,by omega,x13,by rw [hK,List.map_append];exact hL13,hT13⟩,by simp only [aK];omega⟩
 have hjn:j=m.code.length:=by omega
 subst hjn;refine iC (bO.boxed hL.1) bLu rfl ?_;have hgl:=hL.1.lt;refine wR HR (hB4.ext x12) (l:=[i64 m.params.length,i64 18,nv]) rfl rfl rfl (by simp [hL.2.one,rR]) λwE hBE hcE=>?_;refine ⟨_,oF underlying54 rfl HR hBE rfl,⟨_,rfl⟩,?_⟩;have fE:=pR hcE;have kp:∀ {e:TypeId} {v:Y} {s n:Nat} {ys:List Y},w12.ownsRow (g+1) e s v n ys->wE.ownsRow (g+1) e s v n ys:=λho=>fE.own ho λq hq hS=>by have:=(ho.lt q hq).1;have hS:q=g4:=hS;omega
 refine hK _ tv wE ?_ (aA.of_own (kp hT)) (hcE.ext _ (x0B.trans x12) (by omega));rw [eP];obtain ⟨cs,h1,h2⟩:=hL.2;refine ⟨nv,cs,rfl,aA.of_own (kp h1),λa n hn=>?_⟩;obtain ⟨sv2,h3,h4⟩:=h2 a n hn;exact ⟨0,sv2,h3,aA.of_own (kp h4)⟩
theorem SY {t:TypeId} {x y:Operand} {k:IntKind} (hk:L (.bool true)):aF prog S (do eqGuard .eql t x y (.int k a) (.int k a);binOp .eql t (.int k a) (.int k a)) L:=
 aF.ok (λ_ _=>AB) (by rw [decide_eq_true rfl];exact hk)
theorem bMz {t:TypeId} {x y:Operand} {k:IntKind} (hk:L (.bool false)):aF prog S (do eqGuard .neq t x y (.int k a) (.int k a);binOp .neq t (.int k a) (.int k a)) L:=
 aF.ok (λ_ _=>wX) (by rw [decide_eq_false (λh=>h rfl)];exact hk)
theorem bEk {a b:Y} {l:List Int} (ha:aO w a l) (hb:aO w b l) (hl:l.length<=1000) (hk:∀ w',aG w w'->K (.bool true) w'):aB prog 33 #[a,b] w K:=by
 apply bJb;unfold aBj;refine gE aP ha (gE aP hb (cL.2 (aC (λh=>absurd rfl h) λ_=>?_)));refine ⟨λv w'=>∃ i:Nat,v=i64 i/\i<=l.length/\aG w w',λv _=>l.length - (RowKit.intOf v).toNat,⟨0,rfl,Nat.zero_le _,aG.refl _⟩,?_⟩;rintro _ w1 ⟨i,rfl,hi,x1⟩ _;refine gE aP (ha.ext x1) (aZ.2 (aC (λhlt=>?_) λhge=>hk _ x1));obtain ⟨z,hz⟩:=bI (l:=l) (j:=i) (by omega);have hzi:(l.map i64)[((i:Nat):Int).toNat]?=some (i64 z):=by simp [hz]
 have D1:aG w1 w1.drew:=(aG.refl _).drew;refine aL.mk' (λw'=>aG w1 w') D1 ?_;refine nT aP aE (ha.ext x1) (λ_ h=>h) (by omega) (by omega) hzi ?_;refine nT aP aE (hb.ext x1) (λ_ h=>h) (by omega) (by omega) hzi ?_;refine bMz (aM.2 (bJ.2 ?_));rw [aQ (by omega),bK];exact ⟨⟨i+1,rfl,by omega,x1.trans D1⟩,by simp only [aK];omega⟩
theorem TF {g:aD} {a b:Y} (ha:aO w a g.us) (hb:aO w b g.us) (hl:g.us.length<=1000) (hk:∀ w',aG w w'->K (.bool true) w'):aB prog 13 #[.agg (g.pcs 0 a).toArray,.agg (g.pcs 0 b).toArray] w K:=by
 apply bJt;unfold aCb;refine bx λb2 w1 h2 x1=>bx λb3 w2 h3 x2=>?_;have h2:bF w2 b2 (g.pcs 0 a):=h2.ext x2;have h3:bF w2 b3 (g.pcs 0 b):=h3;have x02:=x1.trans x2;have D:aG w2 w2.drew:=(aG.refl _).drew;refine aL.mk' (λw'=>aG w2 w') D ?_;refine iB (λw' hw=>h2.ext hw) oA aE rfl (iB (λw' hw=>h3.ext hw) oA aE rfl (SY ?_));simp only [wI,mD];refine yA (λw' hw=>h2.ext hw) XM rfl (yA (λw' hw=>h3.ext hw) XM rfl ?_);refine (NZ (g:=g) ⟨0,a,rfl,ha.ext (x02.trans D)⟩).mono λr3 w3 ⟨e3,x3⟩=>?_;subst e3;have x23:=D.trans x3;refine ⟨x23,(NZ (g:=g) ⟨0,b,rfl,hb.ext (x02.trans x23)⟩).mono λr4 w4 ⟨e4,x4⟩=>?_⟩;subst e4;have x24:=x23.trans x4;refine ⟨x24,SY (DQ ?_)⟩;simp only [wI];refine iB (λw' hw=>h2.ext hw) qG aE rfl (iB (λw' hw=>h3.ext hw) qG aE rfl (SY (DQ ?_)));simp only [wI];refine iB (λw' hw=>h2.ext hw) qF aE rfl (iB (λw' hw=>h3.ext hw) qF aE rfl (SY (DQ ?_)));simp only [wI];refine iB (λw' hw=>h2.ext hw) qE aE rfl (iB (λw' hw=>h3.ext hw) qE aE rfl (SY (DQ ?_)));simp only [wI];refine iB (λw' hw=>h2.ext hw) qD aE rfl (iB (λw' hw=>h3.ext hw) qD aE rfl (SY (DQ ?_)));simp only [wI];refine iB (λw' hw=>h2.ext hw) qC aE rfl (iB (λw' hw=>h3.ext hw) qC aE rfl (SY (DQ ?_)))
 simp only [wI,mD];refine iB (λw' hw=>h2.ext hw) qB bE rfl (iB (λw' hw=>h3.ext hw) qB bE rfl ?_);exact bEk (ha.ext (x02.trans x24)) (hb.ext (x02.trans x24)) hl λw5 x5=>⟨x24.trans x5,DQ (hk _ ((x02.trans x24).trans x5))⟩
end Go.Proofs.YtjcmcfidblhnnaaGreatDoor
namespace Go.Proofs.YtjcmcfidblhnnaaGreatDoor
open Tryz
open Go.Vc
variable {k:Nat} {x:aD}
def vU (l:List aD) (k:Nat):Nat:=((l.take k).filter aD.srvB).length
theorem GO {l:List aD} (h:l[k]?=some x):vU l (k+1)=if x.srvB then vU l k+1 else vU l k:=by
 unfold vU;rw [List.take_add_one,h,List.filter_append,List.length_append];simp only [Option.toList_some,List.filter_cons,List.filter_nil];split<;>simp
theorem aFw (l:List aD):vU l l.length=(l.filter aD.srvB).length:=by unfold vU;rw [List.take_length]
theorem LI {l:List aD} (h:l[k]?=some x) (hs:x.srvB=true):(l.filter aD.srvB)[vU l k]?=some x:=by
 obtain ⟨hk,rfl⟩:=List.getElem?_eq_some_iff.1 h;have e:l=l.take k++l[k]::l.drop (k+1):=by rw [<- List.drop_eq_getElem_cons hk,List.take_append_drop]
 have e2:l.filter aD.srvB=(l.take k).filter aD.srvB++l[k]::(l.drop (k+1)).filter aD.srvB:=by
  conv=>lhs;rw [e]
  rw [List.filter_append,List.filter_cons,if_pos hs]
 rw [e2,List.getElem?_append_right (by unfold vU;omega)];simp [vU]
theorem aQf {l:List aD} (h:l[k]?=some x) (hs:x.srvB=true):vU l k < (l.filter aD.srvB).length:=(List.getElem?_eq_some_iff.1 (LI h hs)).1
end Go.Proofs.YtjcmcfidblhnnaaGreatDoor
namespace Go.Proofs.YtjcmcfidblhnnaaGreatDoor
open Tryz
open Go.Vc Go.Tc
variable {w:O} {K:Y->O->Prop}
theorem aFv (n:aD):n.srvB=decide (11<=n.pk):=by cases n<;>rfl
def KW (w:O) (row:List Y) (g:aD):Prop:=∃ m sv,row=g.pcs m sv/\aO w sv g.us
theorem KW.len (w:O) (row:List Y) (g:aD) (h:KW w row g):row.length=8:=by obtain ⟨m,sv,rfl,_⟩:=h;rfl
theorem KW.ext {w':O} {row:List Y} {g:aD} (h:KW w row g) (hx:aG w w'):KW w' row g:=by
 obtain ⟨m,sv,h1,h2⟩:=h;exact ⟨m,sv,h1,h2.ext hx⟩
theorem PRows.ext {w':O} {v:Y} {l:List aD} (h:bR KW 8 w v l) (hx:aG w w'):bR KW 8 w' v l:=bR.ext (λh k=>h.ext k) h hx
theorem aQd {rv:Y} {rl:List Rw} (hr:jQ w rv rl) (hb:qV w) (hT:sW w) (rn:rl.length<=5000000000000) :
  aB prog 4 #[rv] w λv w'=>v=.bool true/\aG w w':=by
 apply bMn;suffices key:∀ R:Y->O->Prop,(∀ w',aG w w'->R (.bool true) w')->VR rv w R from key _ λ_ hx=>⟨rfl,hx⟩;intro R hR;unfold VR;refine jG bKn [rv] rfl rfl (by simp) (by simp [hr.one]) λv1 w1 ho1 x1=>?_;refine aEt (ll:=[rl]) ⟨[rv],aA.of_own ho1,λk l hkl=>?_⟩ (hb.ext x1) (hT.ext x1) λv2 l w2 hl hl3 _ x2=>?_
 ·match k,hkl with
  | 0,hkl=>cases hkl;exact ⟨rv,rfl,hr.ext x1,rn⟩
  | k+1,hkl=>simp at hkl
 have x02:=x1.trans x2;refine ⟨λv w'=>∃ j:Nat,v=i64 j/\j<=l.length/\aG w2 w',λv _=>l.length - (RowKit.intOf v).toNat,⟨0,rfl,Nat.zero_le _,aG.refl _⟩,?_⟩;rintro _ w3 ⟨j,rfl,hj,x3⟩ _;refine yR VX (hl.ext x3) (aZ.2 (aC (λhlt=>?_) λhge=>?_))
 case refine_2=>exact aRr (hT.ext (x02.trans x3)) λw4 x4=>hR _ ((x02.trans x3).trans x4)
 obtain ⟨x,hx⟩:=bI (l:=l) (j:=j) (by omega);obtain ⟨p,i⟩:=x;refine XL VX kJ (hl.ext x3) hx aKc λrow ⟨hrow,hA,ht⟩=>?_;subst hrow;have hA:Apl w3 p i:=hA;have ht:mE i:=ht;have hcl:=zK (tA ht) i.methods.length;rw [List.take_length] at hcl;have ml:i.methods.length=3:=hA.ml;refine HY (p:=p) (i:=i) (ap:=0) (a0:=0) hA.at_ hA.nm hA.rg (by decide) (by decide) (by decide) (λ_ hn _=>absurd ht hn) (λ_ _ hn _=>absurd (by omega) hn) λva la w5 _ _ hla hlal hoka x5=>?_;refine CM.2 (CL.2 (CK.2 ?_));have x25:=x3.trans x5;simp only [aR];refine yR xT hla ?_;refine rS VX bP dN (hl.ext x25) hx λrow ⟨hrow,hA5,_⟩=>⟨p.mv,by rw [hrow];rfl,by decide,?_⟩;refine yR iF hA5.at_.mt (cL.2 ?_);rw [show decide ((la.length:Int)≠i.methods.length)=false from decide_eq_false λh=>h (by omega)];refine aM.2 ?_;refine ⟨λv w'=>∃ k:Nat,v=i64 k/\k<=i.methods.length/\aG w5 w',λv _=>i.methods.length - (RowKit.intOf v).toNat,⟨0,rfl,Nat.zero_le _,aG.refl _⟩,?_⟩;rintro _ w6 ⟨k,rfl,hk,x6⟩ _;refine yR xT (hla.ext x6) (aZ.2 (aC (λhlt2=>?_) λhge2=>?_))
 case refine_2=>
  refine jS (by omega) ?_;exact ⟨⟨j+1,rfl,by omega,x25.trans x6⟩,by simp only [aK];omega⟩
 obtain ⟨x,hxk⟩:=bI (l:=la) (j:=k) (by omega);have hkm:k < i.methods.length:=by omega
 obtain ⟨st,r,of,s,f,hc,_,_,hxt⟩:=(hoka k x hxk).2;have hok:lA (kA i k st r):=sI ht hkm hc.wk hc.rc;refine XL VX kJ (hl.ext (x25.trans x6)) hx aKc λrow ⟨hrow,hA6,_⟩=>?_;subst hrow;refine bDx (p:=p) (i:=i) hA6.at_ ht hkm hc.wk hc.rc λpv sv w7 hP hS x7=>?_;obtain ⟨ns,cs,rfl,hcs,hrows⟩:=hP;obtain ⟨na,nc,rfl⟩:=hcs.shape;refine gR.2 (gQ.2 ?_);refine tH bBd rfl rfl λw8 hp8 x8=>?_;have hp8:bF w8 w7.heap.size [i64 (i.meth k).params.length,i64 18,.slice na (lS i (i.meth k) st r).length nc]:=bO.boxed hp8
 have hns:bR KW 8 w8 (.slice na (lS i (i.meth k) st r).length nc) (lS i (i.meth k) st r):=⟨cs,hcs.ext x8,λq g hg=>by
  obtain ⟨m,sv,h1,h2⟩:=hrows q g hg;exact ⟨_,rfl,m,sv,h1,h2.ext x8⟩⟩
 have x68:=x7.trans x8;have hN:(lS i (i.meth k) st r).length<=250:=hok.l2;generalize hNN:lS i (i.meth k) st r=N at *;have hxN:x.tab=N.filter aD.srvB:=by rw [hxt];show List.filter _ (lS i (i.meth k) st r)=_;rw [hNN]
 have htl:x.tab.length<=250:=by rw [hxN];exact Nat.le_trans (List.length_filter_le _ _) hN
 refine ⟨λn v w'=>∃ q:Nat,v=i64 q/\q<=N.length/\n=i64 ((vU N q:Nat):Int)/\aG w8 w',λ_ v _=>N.length - (RowKit.intOf v).toNat,⟨0,rfl,Nat.zero_le _,by simp [vU],aG.refl _⟩,?_⟩;rintro _ _ w9 ⟨q,rfl,hq,rfl,x9⟩ _;have hns9:=PRows.ext hns x9;have hla9:=hla.ext (x6.trans (x68.trans x9));refine aV (hp8.ext x9) lL EB rfl (yR VV hns9 (aZ.2 (aC (λhlt3=>?_) λhge3=>?_)))
 case refine_2=>
  obtain rfl:q=N.length:=by omega
  refine rS xT oX kY hla9 hxk λrow hrow=>⟨x.tv,by rw [hrow.1];rfl,by decide,?_⟩;obtain ⟨_,tvs,htvs,_⟩:=hrow.2;refine gE nU htvs (cL.2 ?_);rw [show decide (((vU N N.length:Nat):Int)≠x.tab.length)=false from decide_eq_false λh=>h (by rw [aFw,hxN])];refine aM.2 (bJ.2 ?_);rw [aQ (by omega),bK];exact ⟨⟨k+1,rfl,by omega,x6.trans (x68.trans x9)⟩,by simp only [aK];omega⟩
 obtain ⟨g,hg⟩:=bI (l:=N) (j:=q) (by omega);refine aV (hp8.ext x9) lL EB rfl ?_;refine rS VV oA aE hns9 hg λrow hrow=>⟨i64 g.pk,by obtain ⟨m,sv,rfl,_⟩:=hrow;rfl,by decide,?_⟩
 have nx:∀ {w':O} {c:Nat},c=vU N (q+1)->aG w9 w'->V prog (binOp .add 3 (i64 q) (i64 1)) w' λt w12=>(∃ q':Nat,t=i64 q'/\q'<=N.length/\i64 (c:Int)=i64 ((vU N q':Nat):Int)/\aG w8 w12)/\N.length - (RowKit.intOf t).toNat < N.length - (RowKit.intOf (i64 (q:Int))).toNat:=λhc hx=>by
  refine jS (by omega) ?_;exact ⟨⟨q+1,rfl,by omega,by rw [hc],x9.trans hx⟩,by simp only [aK];omega⟩
 refine aZ.2 (aC (λhkd=>?_) λhkd=>?_)
 ·have hs:g.srvB=false:=by rw [aFv];exact decide_eq_false (by omega)
  exact nx (by rw [GO hg,hs];rfl) (aG.refl _)
 have hs:g.srvB=true:=by rw [aFv];exact decide_eq_true (by omega)
 have hta:=LI hg hs;have hlt4:=aQf hg hs;rw [<- hxN] at hta hlt4;have D:aG w9 w9.drew:=(aG.refl _).drew;have hlaD:=hla9.ext D;have hok5:=hok.nodes q g (by show (lS i (i.meth k) st r)[q]?=_;rw [hNN];exact hg);refine aL.mk' (λw'=>aG w9.drew w') (aG.refl _) ?_;refine bAv xT oX kY hlaD (λ_ h=>h) hxk λrow hrow=>⟨x.tv,by rw [hrow.1];rfl,by decide,?_⟩;obtain ⟨_,tvs,htvs,htn⟩:=hrow.2;refine sZ nU htvs (bKj ?_);rw [show decide (((vU N q:Nat):Int)>=(x.tab.length:Int))=false from decide_eq_false (by omega)];simp only [NR,pD];refine bAv xT oX kY hlaD (λ_ h=>h) hxk λrow hrow=>⟨x.tv,by rw [hrow.1];rfl,by decide,?_⟩;obtain ⟨u2,hu2,hn2⟩:=htn _ g hta;refine nT nU BE htvs (λ_ h=>h) (by omega) (by omega) (by simpa using hu2) ?_;refine iB (λw' hx=>((hp8.ext x9).ext D).ext hx) lL EB rfl ?_;refine bMx VV XM (PRows.ext hns9 D) (λ_ h=>h) hg KW.len λrow hrow=>?_;obtain ⟨m,sv2,rfl,hsv2⟩:=hrow;refine (aDd hn2).mono λv w10 ⟨hpo,x10⟩=>⟨x10,?_⟩;obtain ⟨m2,sv3,rfl,hsv3⟩:=hpo.is (hn2.ext x10);have h5:=hok5.us5;refine TF (g:=g) (a:=sv3) (b:=sv2) hsv3 (hsv2.ext x10) (by omega) λw11 x11=>⟨x10.trans x11,?_⟩;refine aF.ok (λ_ _=>vZ) (jL ?_);rw [if_neg (by decide)];refine aM.2 (bJ.2 ?_);rw [aQ (by omega),bK];exact nx (by rw [GO hg,hs];rfl) ((D.trans x10).trans x11)
end Go.Proofs.YtjcmcfidblhnnaaGreatDoor
namespace Go.Vc
open Go.ChangeShapes Go.WideShapes Go.ChangeAt Go.RowKit
variable {H:Type} {enc:TypeId × Y->H} {P:Program}
theorem MG {f:Func} {s:ChangeSpec} {apart fresh handsOn again:Bool} {W W':O} {args:Array Y} {v:Y} {ds gs:List (DataW H)} {pa pv:List MemPlace}
  (hW:DataW.Whole enc P f.params.toList s.vars apart W args.toList ds gs (pa++pv)) (hx:aG W W')
  (hr:∀ b sp hd,DataW.TrodAll enc P W' b sp hd f.resultTypes.toList (v.resultList f.resultTypes.size) (s.fn H (ds++gs)).results [])
  (ha:∀ sp:Nat->Bool,(∀ p∈pa++pv,sp p.block=true)->DataW.TrodAll enc P W' 0 sp true f.params.toList args.toList (s.fn H (ds++gs)).args pa)
  (hv:∀ sp:Nat->Bool,(∀ p∈pa++pv,sp p.block=true)->DataW.TrodVars enc P W' sp s.vars (s.fn H (ds++gs)).vars pv)
  (hok:∀ (j:Nat) (t:TypeId) (r:Y),f.resultTypes[j]?=some t->(v.resultList f.resultTypes.size)[j]?=some r->Value.okWide P W' .any 0 t r) :
  s.post enc P f apart fresh handsOn again W args v W':=by
 have hlt:=hW.lt;have hall:∀ p∈pa++pv,(λb=>decide (b < W.heap.size)) p.block=true:=λp hp=>decide_eq_true (hlt p hp);have hk:=hx.below.frame (·∈pa++pv)
 refine ⟨ds,gs,pa++pv,[],pa,pv,hW,hr _ _ _,ha _ hall,hv _ hall,World.keptBut_mono (λp hp=>⟨hp,.inr (by simpa using hp)⟩) hk,λ_=>?_⟩;obtain ⟨_,_,_,_,_,hz,hn⟩:=hW;have h2:=trodAll_append (ha (λ_=>true) λ_ _=>rfl) (hr 0 (λ_=>true) true);refine ⟨hok,_,_,pa++pv,⟨pa,pv,(by simpa using h2),hv _ λ_ _=>rfl,rfl,λb off hp=>?_,hn⟩,λp hp _=>hp⟩;rw [hx.below.frozen (hlt _ hp)];exact hz b off hp
theorem IG (hl:laidOutB P=true) {W W':O} (hx:aG W W') {sp:Nat->Bool}:∀ {ts:List TypeId} {vs:List Y} {ds:List (DataW H)} {p:List MemPlace},(ts.all λt=>P.readableRec t&&decide (t < P.types.size))=true ->
  DataW.TrodAll enc P W 0 (λ_=>true) true ts vs ds p->(∀ x∈p,x.block < W.heap.size)->(∀ x∈p,sp x.block=true)->DataW.TrodAll enc P W' 0 sp true ts vs ds p
 | [],vs,ds,p,_,h,_,_=>by
  obtain ⟨rfl,rfl,rfl⟩:=trodAll_nil h;exact trodAll_mk0
 | t::ts,vs,ds,p,hr,h,hlt,hs=>by
  simp only [List.all_cons,Bool.and_eq_true,decide_eq_true_eq] at hr;obtain ⟨v,vs',d,ds',p1,p2,rfl,rfl,rfl,h1,h2⟩:=trodAll_cons h
  exact trodAll_cons_mk (WideElems.Trod_stays hl hr.1.1 hr.1.2 h1 (λx hx'=>hx.below.same (hlt x (by simp [hx']))) λx hx'=>hs x (by simp [hx']))
   (IG hl hx (by simpa using hr.2) h2 (λx hx'=>hlt x (by simp [hx'])) λx hx'=>hs x (by simp [hx']))
end Go.Vc
namespace Go.Vc
open Go.ChangeShapes
variable {P:Program} {W:O} {x:String} {ds:List (DataW Unit)} {i m:Nat} {k:IntKind} {laid:List (String × DataW Unit)} {ps:List MemPlace}
theorem AJ {P:Program} {W:O} {x:String} {ds:List (DataW Unit)} {g t e m:Nat} (hg:P.globalNamed x=some g) (ht:(P.globals[g]?).map (·.type)=some t) (hu:P.underlying t=some (.array m e)) {i:Nat} (hi:i < m) :
  ∀ {laid:List (String × DataW Unit)} {ps:List MemPlace},DataW.LaidVars P W laid ps->(x,.agg ds)∈laid->∃ (fuel:Nat) (q:List MemPlace) (cs:List Y) (d:DataW Unit),ds[i]?=some d/\DataW.trod (λ_=>()) P W 0 (λ_=>true) false fuel e ((cs.drop (i*P.cellsOf e)).take (P.cellsOf e))=some (d,q)/\∀ j:Nat,W.cell? ⟨g,j,none⟩=cs[j]?
 | [],_,_,hm=>by cases hm
 | (n',d')::r,ps,h,hm=>by
  obtain ⟨g',t',cs,fuel,p,q,h1,h2,h3,h4,h5,_⟩:=h;rcases List.mem_cons.1 hm with e1|e1
  ·cases e1;obtain rfl:=Option.some.inj (hg.symm.trans h1);obtain rfl:=Option.some.inj (ht.symm.trans h2);obtain ⟨xs,m',_,ex,_,hxl,hel⟩:=DataW.trod_array hu h4;have hE:=hel i hi;rw [List.getElem?_eq_getElem (by omega)] at hE;refine ⟨m',(xs[i]'(by omega)).2,cs.toList,(xs[i]'(by omega)).1,?_,hE,λj=>by rw [World.var?_cell hg h3 j,<- Array.getElem?_toList]⟩;have:ds=xs.map (·.1):=by have:=congrArg Prod.fst ex;simpa using this
   rw [this,List.getElem?_map,List.getElem?_eq_getElem (by omega)];rfl
  ·exact AJ hg ht hu hi h5 e1
theorem MW {g t e:Nat} (hg:P.globalNamed x=some g) (ht:(P.globals[g]?).map (·.type)=some t) (hu:P.underlying t=some (.array m e)) (he:P.underlying e=some (.int k)) (c1:P.cellsOf e=1)
  (h:DataW.LaidVars P W laid ps) (hm:(x,.agg ds)∈laid) (hi:i < m):∃ z,ds[i]?=some (.lit (.int k z))/\W.cell? ⟨g,i,none⟩=some (.int k z):=by
 obtain ⟨fuel,q,cs,d,h1,h2,h3⟩:=AJ hg ht hu hi h hm;rw [c1,Nat.mul_one] at h2;obtain ⟨z,e1,e2,_⟩:=DataW.trod_int he h2;cases e2;refine ⟨z,h1,?_⟩;rw [h3 i];have h0:((cs.drop i).take 1)[0]?=some (.int k z):=by rw [e1];rfl
 simpa using h0
theorem MX {g t e c f o u:Nat} {fs:Array Field} (hg:P.globalNamed x=some g) (ht:(P.globals[g]?).map (·.type)=some t) (hu:P.underlying t=some (.array m e)) (he:P.underlying e=some (.struct fs)) (hc:P.cellsOf e=c)
  (hf:(fs[f]?).map (λy=>(y.type,y.offset))=some (u,o)) (hk:P.underlying u=some (.int k)) (c1:P.cellsOf u=1) (ho:o < c)
  (h:DataW.LaidVars P W laid ps) (hm:(x,.agg ds)∈laid) (hi:i < m):∃ l z,ds[i]?=some (.agg l)/\l[f]?=some (.lit (.int k z))/\W.cell? ⟨g,i*c+o,none⟩=some (.int k z):=by
 obtain ⟨fuel,q,cs,d,h1,h2,h3⟩:=AJ hg ht hu hi h hm;rw [hc] at h2;obtain ⟨xs,n,_,ex,_,hxl,hel⟩:=DataW.trod_struct he h2;obtain ⟨fd,hfd,hfe⟩:=Option.map_eq_some_iff.1 hf;have h4:=hel f fd hfd;have hlt:f < fs.size:=(Array.getElem?_eq_some_iff.1 hfd).1;simp only [Prod.mk.injEq] at hfe;obtain ⟨rfl,rfl⟩:=hfe;rw [c1,List.getElem?_eq_getElem (by omega)] at h4;obtain ⟨z,e1,e2,_⟩:=DataW.trod_int hk h4;have e3:d=.agg (xs.map (·.1)):=congrArg Prod.fst ex
 refine ⟨_,z,by rw [h1,e3],by rw [List.getElem?_map,List.getElem?_eq_getElem (by omega)];simp [e2],?_⟩;rw [h3];have h0:((((cs.drop (i*c)).take c).drop fd.offset).take 1)[0]?=some (.int k z):=by rw [e1];rfl
 simpa [List.getElem?_take,List.getElem?_drop,ho] using h0
end Go.Vc
