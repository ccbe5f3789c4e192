/- The program's walk: an instruction done to a stack. -/
import Derived.Test.YtgkkecladbmjkaaGreatDoorZf
set_option maxHeartbeats 4000000
set_option linter.unusedSimpArgs false
namespace Go.Tc
theorem yG:∀ {t l:List Int} {j:Nat},(∀ q,q < j->q < t.length->qA (cT l q) (cT t q)=true)->t.length<=j->iN t l=true
 | [],_,_,_,_=>rfl
 | _::_,[],_,_,_=>rfl
 | a::t,k::l,0,_,h=>by simp at h
 | a::t,k::l,j+1,h,hl=>by
  simp only [iN,Bool.and_eq_true];refine ⟨h 0 (by omega) (by simp),yG (j:=j) (λq hq hqt=>?_) (by simpa using hl)⟩;have:=h (q+1) (by omega) (by simpa using hqt);simpa [cT] using this
theorem YS:∀ {t l:List Int} {q:Nat},q < t.length->t.length<=l.length->iN t l=true->qA (cT l q) (cT t q)=true:=λh1 h2 h=>uF h1 (by omega) h
theorem uT:∀ {t l:List Int} {j:Nat} {a k:Int},t[j]?=some a->l[j]?=some k->gK (t.take (j+1)) (l.take (j+1))=(gK (t.take j) (l.take j)||rV k a)
 | [],_,_,_,_,h,_=>by simp at h
 | _::_,[],_,_,_,_,h=>by simp at h
 | a::t,k::l,0,_,_,h1,h2=>by simp at h1 h2;subst h1 h2;simp [gK]
 | a::t,k::l,j+1,_,_,h1,h2=>by
  have:=uT (t:=t) (l:=l) (j:=j) (by simpa using h1) (by simpa using h2);simp only [List.take_succ_cons,gK] at this ⊢;rw [this,Bool.or_assoc]
end Go.Tc
namespace Go.Proofs.YtgkkecladbmjkaaGreatDoor
open Tryz
open Go.Vc Go.Tc
variable {w:O} {K:Z->O->Prop}
variable {i:dN} {m:gA} {x:gN} {av bv tv:Z} {a:List Int}
theorem BU (h:rT i m x):∀ a∈aI i m x,Ask a:=by
 obtain ⟨op,a,b⟩:=x;obtain ⟨ir,mr,⟨ho,a1,a2,_⟩,hn⟩:=h;have hm1:Ask (-1):=.inl rfl;have hm2:Ask (-2):=.inr (.inl rfl);have hm3:Ask (-3):=.inr (.inr (.inl rfl));have hm4:Ask (-4):=.inr (.inr (.inr (.inl rfl)));have kd:∀ {l:List Int},lM l->∀ a∈l,Ask a:=λh a ha=>.inr (.inr (.inr (.inr (h a ha))));by_cases c3:op=3
 ·subst c3;intro q hq;have e:aI i m ⟨3,a,b⟩=[m.locs.getD a.toNat 0]:=rfl;rw [e,List.mem_singleton] at hq;subst hq;have hn:a < (m.locs.length:Int):=hn;have a1:0<=a:=a1;exact .inr (.inr (.inr (.inr (pR (DC mr) (by omega)))))
 by_cases c34:op=34
 ·subst c34;intro q hq;have e:aI i m ⟨34,a,b⟩=[i.fields.getD a.toNat 0]:=rfl;rw [e,List.mem_singleton] at hq;subst hq;have hn:a < (i.fields.length:Int):=hn;have a1:0<=a:=a1;exact .inr (.inr (.inr (.inr (pR ir.1.1 (by omega)))))
 by_cases c1:op=37
 ·subst c1;exact kd (FU ir a1 hn)
 by_cases c2:op=38
 ·subst c2;exact kd (PY ir a1 hn)
 by_cases c4:op=39
 ·subst c4;exact kd (xA mr.2.1)
 have ho:1<=op/\op<=39:=ho;rcases vL ho with rfl|rfl|rfl|rfl|rfl|rfl|rfl|rfl|rfl|rfl|rfl|rfl|rfl|rfl|rfl|rfl|rfl|rfl|rfl|rfl|rfl|rfl|rfl|rfl|rfl|rfl|rfl|rfl|rfl|rfl|rfl|rfl|rfl|rfl|rfl|rfl|rfl|rfl|rfl<;>first|contradiction|(simp [aI,fP,hm1,hm2,hm3,hm4];done)
theorem TV {c:qF} (h:QQ w c i m) (hx:rT i m x) (hk:∀ w',aE w w'->K (i64 (hgt i m x)) w') :
  aB prog 235 #[.pointer (some ⟨c.gb,0,none⟩),.agg #[i64 x.op,i64 x.a,i64 x.b]] w K:=by
 apply aEy;unfold IP;refine bx λb3 w3 hb3 x3=>?_;refine mkB (n:=8) underlying42 fX rfl (by decide) (by decide) λw4 hB x4 _=>?_;refine lF (hb3.ext x4) gU rfl ?_
 have hz:aQ w4 (.slice (some ⟨w3.heap.size,0,none⟩) 8 8) (List.replicate 8 0):=by
  have:=hB.slice (n:=8) (by simp) (by unfold maxLen;decide);exact this
 refine GO (h.ext (x3.trans x4)) hx hz (by have:=tV hx;simp;omega) λv w5 hv x5=>?_;refine hU aM hv ?_;rw [xX];exact hk _ ((x3.trans x4).trans x5)
theorem XT {c:qF} {l:List Int} (h:QQ w c i m) (hx:rT i m x) (ht:aQ w tv l) (hl:l.length=(aI i m x).length) (hkd:lM l) (hk:∀ e w',(e=0↔kM x (aI i m x) l=true)->aE w w'->K (i64 e) w') :
  aB prog 236 #[.pointer (some ⟨c.gb,0,none⟩),.agg #[i64 x.op,i64 x.a,i64 x.b],tv] w K:=by
 have hask:=BU hx;have hle:=tV hx;have hx0:=hx;obtain ⟨op,a,b⟩:=x;apply aEx;unfold IM;refine bx λb3 w3 hb3 x3=>?_;refine lF hb3 gU rfl ?_;refine wQ (h.ext x3) hx0 λav w4 hav x4=>?_;have x34:=x3.trans x4;have hb3:=hb3.ext x4;generalize hA:aI i m ⟨op,a,b⟩=t at hav hl hask hle hk;refine hU aM hav ?_;refine ⟨λv w'=>∃ j:Nat,v=i64 j/\j<=t.length/\aE w4 w'/\∀ q,q < j->q < t.length->qA (cT l q) (cT t q)=true,λv _=>t.length - (RowKit.intOf v).toNat,⟨0,rfl,Nat.zero_le _,aE.refl _,λ_ h=>absurd h (Nat.not_lt_zero _)⟩,?_⟩;rintro _ w5 ⟨j,rfl,hj,x5,hall⟩ _;refine bP.2 (aK (λhlt=>?_) λhge=>?_)
 ·have h1:=jW (l:=t) (j:=j) (by omega);have h2:=jW (l:=l) (j:=j) (by omega);refine kP aM aF (hav.ext x5) (by omega) (by omega) (fD h1) ?_;refine kP aM aF ((ht.ext x34).ext x5) (by omega) (by omega) (fD h2) ?_;refine aCu (hkd _ (List.mem_of_getElem? h2)) (hask _ (List.mem_of_getElem? h1)) (gG.2 ?_);cases hd:qA (cT l j) (cT t j) with
  | false=>
   simp only [aN];refine hk 11 _ ⟨λh=>absurd h (by decide),λh=>?_⟩ (x34.trans x5);simp only [kM,Bool.and_eq_true] at h;have:=YS (q:=j) (by omega) (by omega) h.1;rw [hd] at this;cases this
  | true=>
   simp only [aN];refine mJ (by omega) ?_;refine ⟨⟨j+1,rfl,by omega,x5,λq hq hqt=>?_⟩,by simp only [aW];omega⟩;by_cases hqj:q=j
   ·subst hqj;exact hd
   ·exact hall q (by omega) hqt
 have hdl:iN t l=true:=yG hall (by omega);have D1:aE w5 w5.drew:=(aE.refl _).drew;have xd:=(x34.trans x5).trans D1;refine aJ.mk' (λw'=>aE w5 w') D1 ?_;have htd:=(ht.ext x34).ext x5;refine gY (λw' hw=>(hb3.ext x5).ext hw) aT aF rfl (aC.ok (λw' _=>CU) ?_);by_cases h22:op=22
 ·subst h22;have hl3:l.length=3:=by rw [hl,<- hA];rfl
  have e:kM ⟨22,a,b⟩ t l=true↔(fL (cT l 1)&&fL (cT l 2)||gC (cT l 1)&&cT l 1 == cT l 2)=true:=by
   unfold kM;rw [if_pos rfl,hdl,Bool.true_and]
  simp only [aN];have yr:∀ {n L},n < l.length->L (i64 (cT l n))->aC prog (λw'=>aE w5 w') (Instr.indexAt 42 tv (i64 (n:Nat))) λp=>aC prog (λw'=>aE w5 w') (Instr.loadAt 3 p) L:=λ{n L} hn hL=>lT aM aF htd (λ_ h=>h) (by omega) (by omega) (fD (jW hn)) hL;have arrpart:fL (cT l 1)=true/\fL (cT l 2)=true->False\/True:=λ_=>.inr trivial;refine yr (n:=1) (by omega) (tO ⟨D1,?_⟩);cases i1:fL (cT l 1) with
  | true=>
   simp only [aN];refine yr (n:=2) (by omega) (tO ⟨D1,aC.ok (λw' _=>uU) ?_⟩);cases i2:fL (cT l 2) with
   | true=>
    simp only [aN];refine ⟨D1,hk 0 _ ⟨λ_=>e.2 (by rw [i1,i2];rfl),λ_=>rfl⟩ xd⟩
   | false=>
    simp only [aN];refine yr (n:=1) (by omega) (oW ⟨D1,?_⟩)
    have na:gC (cT l 1)=false:=by
     have:=EJ (mC hkd (n:=1) (by omega));rcases this with h|h|h|h<;>rw [h] at i1 ⊢<;>first|rfl|(exact absurd i1 (by decide))
    rw [na];simp only [aN];refine aC.ok (λw' _=>uU) ?_;simp only [aN];exact hk 11 _ ⟨λh=>absurd h (by decide),λh=>by rw [e,i1,i2,na] at h;cases h⟩ xd
  | false=>
   simp only [aN];refine ⟨D1,aC.ok (λw' _=>uU) ?_⟩;simp only [aN];refine yr (n:=1) (by omega) (oW ⟨D1,?_⟩);cases a1':gC (cT l 1) with
   | false=>
    simp only [aN];refine aC.ok (λw' _=>uU) ?_;simp only [aN];exact hk 11 _ ⟨λh=>absurd h (by decide),λh=>by rw [e,i1,a1'] at h;cases h⟩ xd
   | true=>
    simp only [aN];refine yr (n:=1) (by omega) (yr (n:=2) (by omega) (aC.ok (λw' _=>CU) (aC.ok (λw' _=>uU) ?_)));by_cases he:cT l 1=cT l 2
    ·simp only [he,aN];exact hk 0 _ ⟨λ_=>e.2 (by rw [i1,a1'];simp [he]),λ_=>rfl⟩ xd
    ·simp only [he,aN];exact hk 11 _ ⟨λh=>absurd h (by decide),λh=>by rw [e,i1,a1'] at h;simp [he] at h⟩ xd
 ·have e:kM ⟨op,a,b⟩ t l=true:=by
   unfold kM;rw [if_neg h22,hdl,Bool.true_and]
  simp only [h22,aN];exact ⟨D1,D1,D1,hk 0 _ ⟨λ_=>e,λ_=>rfl⟩ xd⟩
theorem XO {c:qF} {l:List Int} (h:QQ w c i m) (hx:rT i m x) (ht:aQ w tv l) (hl:l.length=(aI i m x).length) (hkd:lM l) (hk:∀ e w',(e=0↔iR x (aI i m x) l=false)->aE w w'->K (i64 e) w') :
  aB prog 237 #[.pointer (some ⟨c.gb,0,none⟩),.agg #[i64 x.op,i64 x.a,i64 x.b],tv] w K:=by
 have hask:=BU hx;have hle:=tV hx;have hx0:=hx;obtain ⟨op,a,b⟩:=x;apply aEw;unfold IL;refine bx λb3 w3 hb3 x3=>?_;refine lF hb3 gU rfl ?_;refine wQ (h.ext x3) hx0 λav w4 hav x4=>?_;have x34:=x3.trans x4;have hb3:=hb3.ext x4;have hlen:∀ {n:Nat},aI i m ⟨op,a,b⟩=aI i m ⟨op,a,b⟩->(aI i m ⟨op,a,b⟩).length=n->l.length=n:=λ_ h=>by omega
 generalize hA:aI i m ⟨op,a,b⟩=t at hav hl hask hle hk hlen;refine hU aM hav ?_;refine ⟨λbv v w'=>∃ j:Nat,v=i64 j/\j<=t.length/\aE w4 w'/\bv=.bool (gK (t.take j) (l.take j)),λ_ v _=>t.length - (RowKit.intOf v).toNat,⟨0,rfl,Nat.zero_le _,aE.refl _,rfl⟩,?_⟩;rintro _ _ w5 ⟨j,rfl,hj,x5,rfl⟩ _;refine bP.2 (aK (λhlt=>?_) λhge=>?_)
 ·have h1:=jW (l:=t) (j:=j) (by omega);have h2:=jW (l:=l) (j:=j) (by omega);have es:=uT h1 h2;refine kP aM aF (hav.ext x5) (by omega) (by omega) (fD h1) ?_;generalize gK (t.take j) (l.take j)=A at es
  have go:∀ v,v=gK (t.take (j+1)) (l.take (j+1))->V prog (binOp .add 3 (i64 j) (i64 1)) w5 λt28 w16=>
    (∃ j:Nat,t28=i64 j/\j<=t.length/\aE w4 w16/\(.bool v:Z)=.bool (gK (t.take j) (l.take j)))/\t.length - (RowKit.intOf t28).toNat < t.length - (RowKit.intOf (i64 (j:Int))).toNat:=by
   rintro _ rfl;refine mJ (by omega) ?_;exact ⟨⟨j+1,rfl,by omega,x5,rfl⟩,by simp only [aW];omega⟩
  cases A with
  | true=>simp only [aN];exact go _ (by rw [es];rfl)
  | false=>
   simp only [aN];refine kP aM aF ((ht.ext x34).ext x5) (by omega) (by omega) (fD h2) ?_;refine VI (hkd _ (List.mem_of_getElem? h2)) (hask _ (List.mem_of_getElem? h1)) ?_;exact go _ (by rw [es];rfl)
 have hjt:j=t.length:=by omega
 subst hjt;rw [List.take_length,<- hl,List.take_length];have x35:=x34.trans x5
 have rd:∀ {n u K},n < l.length->u=i64 (cT l n)->K u w5->V prog (Instr.indexAt 42 tv (i64 (n:Nat))) w5 λp w1=>V prog (Instr.loadAt 3 p) w1 K:=λ{n u K} hn hu hK=>by
  subst hu;exact kP aM aF (ht.ext x35) (by omega) (by omega) (fD (jW hn)) hK
 have yes:iR ⟨op,a,b⟩ t l=false->K (i64 0) w5:=λh=>hk 0 _ ⟨λ_=>h,λ_=>rfl⟩ x35;have no:iR ⟨op,a,b⟩ t l=true->K (i64 12) w5:=λh=>hk 12 _ ⟨λh=>absurd h (by decide),λh'=>by rw [h] at h';cases h'⟩ x35
 have fin:∀ v,v=iR ⟨op,a,b⟩ t l->aH (.bool v) (K (i64 12) w5) (K (i64 0) w5):=by
  rintro _ rfl;cases hv:iR ⟨op,a,b⟩ t l with
  | true=>rw [aS];exact no hv
  | false=>rw [aD];exact yes hv
 refine bQ (hb3.ext x5) aT aF rfl ?_;generalize hS:gK t l=A;by_cases c22:op=22
 ·subst c22;have hl3:l.length=3:=by rw [hl,<- hA];rfl
  simp only [aN,Int.reduceEq];refine rd (n:=1) (by omega) rfl (oW ?_);cases hz:gC (cT l 1) with
  | false=>simp only [aN];exact yes (by unfold iR;rw [if_pos rfl,hz];rfl)
  | true=>
   simp only [aN];refine rd (n:=0) (by omega) rfl (aO.2 ?_);exact fin _ (by unfold iR;rw [if_pos rfl,hz];rfl)
 by_cases c30:op=30
 ·subst c30;have hl3:l.length=3:=by rw [hl,<- hA];rfl
  have e:iR ⟨30,a,b⟩ t l=(A||(cT l 0 == 3&&cT l 2 == 2)):=by unfold iR;rw [hS];rfl
  simp only [aN,Int.reduceEq];cases A with
  | true=>simp only [aN];exact no (by rw [e];rfl)
  | false=>
   simp only [aN];refine rd (n:=0) (by omega) rfl (aO.2 ?_);by_cases z0:cT l 0=3
   ·simp only [z0,aN];refine rd (n:=2) (by omega) rfl (aO.2 ?_);exact fin _ (by rw [e,z0];rfl)
   ·simp only [z0,aN];exact yes (by rw [e];simp [z0])
 by_cases c31:op=31
 ·subst c31;have hl5:l.length=5:=by rw [hl,<- hA];rfl
  have e:iR ⟨31,a,b⟩ t l=(A||(cT l 0 == 3&&cT l 2 == 4)):=by unfold iR;rw [hS];rfl
  simp only [aN,Int.reduceEq];cases A with
  | true=>simp only [aN];exact no (by rw [e];rfl)
  | false=>
   simp only [aN];refine rd (n:=0) (by omega) rfl (aO.2 ?_);by_cases z0:cT l 0=3
   ·simp only [z0,aN];refine rd (n:=2) (by omega) rfl (aO.2 ?_);exact fin _ (by rw [e,z0];rfl)
   ·simp only [z0,aN];exact yes (by rw [e];simp [z0])
 by_cases c36:op=36
 ·subst c36;have hl3:l.length=3:=by rw [hl,<- hA];rfl
  have e:iR ⟨36,a,b⟩ t l=(A||(a == 1&&cT l 0 == 4)):=by unfold iR;rw [hS];rfl
  simp only [aN,Int.reduceEq];cases A with
  | true=>simp only [aN];exact no (by rw [e];rfl)
  | false=>
   simp only [aN];refine bQ (hb3.ext x5) aR aF rfl (aO.2 ?_);by_cases z0:a=1
   ·subst z0;simp only [aN];refine rd (n:=0) (by omega) rfl (aO.2 ?_);exact fin _ (by rw [e];rfl)
   ·simp only [z0,aN];exact yes (by rw [e];simp [z0])
 have e:iR ⟨op,a,b⟩ t l=A:=by unfold iR;rw [if_neg c22,if_neg c30,if_neg c31,if_neg c36,hS]
 simp only [c22,c30,c31,c36,aN];exact fin _ e.symm
theorem GU {v:Z} {l:List Int} (h:aQ w v l) (hl:l.length<=4294967296) (hk:∀ v' w',w'.ownsRow w.heap.size 3 1 v' l.length (l.map i64)->aE w w'->K v' w') :
  aB prog 122 #[v] w K:=by
 apply EH;unfold tY;exact yJ aZ h (zX l) (by omega) hk
theorem YQ {b:List Int} (ha:aQ w av a) (hb:aQ w bv b) (hk:∀ w',aE w w'->K (.bool (decide (a=b))) w'):aB prog 183 #[av,bv] w K:=by
 have ca:=qR ha;apply aFz;unfold JK;refine hU aM ha (hU aM hb (dZ.2 (aK (λhne=>?_) λheq=>?_)))
 ·have:¬ a=b:=λe=>hne (by rw [e]);rw [decide_eq_false this] at hk;exact hk _ (aE.refl _)
 have hl:a.length=b.length:=by omega
 refine hU aM ha ?_;refine ⟨λv w'=>∃ j:Nat,v=i64 j/\j<=a.length/\aE w w'/\a.take j=b.take j,λv _=>a.length - (RowKit.intOf v).toNat,⟨0,rfl,Nat.zero_le _,aE.refl _,rfl⟩,?_⟩;rintro _ w1 ⟨j,rfl,hj,x1,hjs⟩ _;refine bP.2 (aK (λhlt=>?_) λhge=>?_)
 ·obtain ⟨x,hx⟩:=fQ (l:=a) (j:=j) (by omega);obtain ⟨y,hy⟩:=fQ (l:=b) (j:=j) (by omega);have D1:aE w1 w1.drew:=(aE.refl _).drew;refine aJ.mk' (λw'=>aE w1 w') D1 ?_;refine lT aM aF (ha.ext x1) (λ_ h=>h) (by omega) (by omega) (fD hx) ?_;refine lT aM aF (hb.ext x1) (λ_ h=>h) (by omega) (by omega) (fD hy) ?_;refine aC.ok (λw' _=>CT) (aK (λhne=>?_) λheq=>?_)
  ·have:¬ a=b:=λe=>hne (by subst e;rw [hx] at hy;cases hy;rfl);rw [decide_eq_false this] at hk;exact hk _ (x1.trans D1)
  ·have:x=y:=by simpa using heq
   subst this;refine dS.2 ?_;rw [iF (by omega) (by unfold maxLen at ca;omega),eI];exact ⟨⟨j+1,rfl,by omega,x1.trans D1,by rw [List.take_add_one,List.take_add_one,hx,hy,hjs]⟩,by simp only [aW];omega⟩
 ·have hjl:j=a.length:=by omega
  subst hjl
  have:a=b:=by
   rw [List.take_length,hl,List.take_length] at hjs;exact hjs
  rw [decide_eq_true this] at hk;exact hk _ x1
theorem MZ {b:List Int} (ha:aQ w av a) (hb:aQ w bv b) (ka:lM a) (kb:lM b) (hl8:a.length<=1000)
  (yes:∀ j v w',jB a b=some j->w'.ownsRow w.heap.size 3 1 v j.length (j.map i64)->aE w w'->K (.tuple #[v,.bool true]) w') (no:∀ w',jB a b=none->aE w w'->K (.tuple #[cM,.bool false]) w') :
  aB prog 233 #[av,bv] w K:=by
 apply aFa;unfold IR;refine hU aM ha (hU aM hb (dZ.2 (aK (λhne=>?_) λheq=>?_)))
 ·exact no _ (xP λe=>hne (by rw [e])) (aE.refl _)
 have hl:a.length=b.length:=by omega
 refine hU aM ha ?_
 refine ⟨λov v w'=>∃ (j:Nat) (acc:List Int),v=i64 j/\j<=a.length/\aE w w'/\jB (a.take j) (b.take j)=some acc/\acc.length=j/\w'.ownsRow w.heap.size 3 1 ov j (acc.map i64),λ_ v _=>a.length - (RowKit.intOf v).toNat,
  ⟨0,[],rfl,Nat.zero_le _,aE.refl _,rfl,rfl,World.ownsRow_nil _ _ _ _⟩,?_⟩
 rintro ov _ w1 ⟨j,acc,rfl,hj,x1,hacc,hal,ho⟩ _;refine bP.2 (aK (λhlt=>?_) λhge=>?_)
 ·obtain ⟨x,hx⟩:=fQ (l:=a) (j:=j) (by omega);obtain ⟨y,hy⟩:=fQ (l:=b) (j:=j) (by omega);have D1:aE w1 w1.drew:=(aE.refl _).drew;have xd:=x1.trans D1;refine aJ.mk' (λw'=>aE w1 w') D1 ?_;refine lT aM aF (ha.ext x1) (λ_ h=>h) (by omega) (by omega) (fD hx) ?_;refine lT aM aF (hb.ext x1) (λ_ h=>h) (by omega) (by omega) (fD hy) ?_;refine aCh (ka x (List.mem_of_getElem? hx)) (kb y (List.mem_of_getElem? hy)) ⟨D1,?_⟩;unfold PP;cases hk:nP x y with
  | none=>
   refine aC.ok (λw' _=>lS) (aC.ok (λw' _=>lR) (gG.2 (aS.2 ?_)));exact no _ (xO hx hy hk) xd
  | some k=>
   refine aC.ok (λw' _=>lS) (aC.ok (λw' _=>lR) (gG.2 (aD.2 ?_)));refine iT aZ [i64 k] rfl rfl (by simp) rfl λv2 w2 ho2 x2=>?_;have x12:=D1.trans x2;refine EK aZ (x12.own ho) (aA.of_own ho2) rfl (by omega) (by unfold maxLen;omega) (xd.trans x2).size λv3 w3 ho3 hg3=>?_;refine mJ (by omega) ?_;refine ⟨⟨j+1,acc++[k],rfl,by omega,(xd.trans x2).grown hg3 λq hq=>((x12.own ho).lt q hq).1,sM hx hy hacc hk,by simp [hal],by simpa using ho3⟩,by simp only [aW];omega⟩
 ·have hjl:j=a.length:=by omega
  subst hjl;rw [List.take_length,hl,List.take_length] at hacc;refine yes acc ov _ hacc ?_ x1;have:=ho;rw [<- hal] at this;exact this
theorem aCa {pc:Nat} (hp:pc<=1000) (hk:∀ v w',w'.ownsRow w.heap.size 3 1 v (fK x pc).length ((fK x pc).map i64)->aE w w'->K v w'):aB prog 206 #[.agg #[i64 x.op,i64 x.a,i64 x.b],i64 pc] w K:=by
 obtain ⟨op,a,b⟩:=x;apply aFn;unfold JA;refine bx λb1 w1 hb x1=>?_;refine bQ hb aT aF rfl (aO.2 (aK (λc1=>?_) λc1=>aO.2 (aK (λc2=>?_) λc2=>aO.2 (aK (λc3=>?_) λc3=>?_))))
 ·refine bQ hb aR aF rfl ?_;refine iT aZ [i64 a] rfl rfl (by simp) rfl λv w2 ho x2=>hk _ _ ?_ (x1.trans x2);have e:fK ⟨op,a,b⟩ pc=[a]:=by unfold fK;dsimp only;rw [if_pos c1]
  rw [e];exact aX ho x1.size
 ·refine dS.2 ?_;rw [aU (by omega)];refine bQ hb aR aF rfl ?_;refine iT aZ [i64 ((pc:Int)+1),i64 a] rfl rfl (by simp) rfl λv w2 ho x2=>hk _ _ ?_ (x1.trans x2);have e:fK ⟨op,a,b⟩ pc=[(pc:Int)+1,a]:=by unfold fK;dsimp only;rw [if_neg c1,if_pos c2]
  rw [e];exact aX ho x1.size
 ·have e:fK ⟨op,a,b⟩ pc=[]:=by unfold fK;dsimp only;rw [if_neg c1,if_neg c2,if_pos c3]
  refine hk _ _ ?_ x1;rw [e];exact World.ownsRow_nil _ _ _ _
 ·refine dS.2 ?_;rw [aU (by omega)];refine iT aZ [i64 ((pc:Int)+1)] rfl rfl (by simp) rfl λv w2 ho x2=>hk _ _ ?_ (x1.trans x2);have e:fK ⟨op,a,b⟩ pc=[(pc:Int)+1]:=by unfold fK;dsimp only;rw [if_neg c1,if_neg c2,if_neg c3]
  rw [e];exact aX ho x1.size
def DR (l:List Bool):Int:=match kU l with
 | some q=>q
 | none=>-1
theorem YE {v:Z} {l:List Bool} (h:pE w v l) (hl:l.length<=1000) (hk:K (i64 (DR l)) w):aB prog 204 #[v,.bool true] w K:=by
 apply aFp;unfold JD;have hs:aA w v 1 l.length (l.map .bool):=h;refine hU jV hs ?_;refine ⟨λv w'=>∃ j:Nat,v=i64 j/\j<=l.length/\w'=w/\∀ q,q < j->l.getD q false=false,λv _=>l.length - (RowKit.intOf v).toNat,⟨0,rfl,Nat.zero_le _,rfl,λ_ h=>absurd h (Nat.not_lt_zero _)⟩,?_⟩;rintro _ w1 ⟨j,rfl,hj,hw1,hno⟩ _;have hw1:=hw1.symm;subst hw1;refine bP.2 (aK (λhlt=>?_) λhge=>?_)
 ·refine kP jV jZ hs (by omega) (by omega) (BO (by omega)) ?_;refine V.ok (WH underlying4) ?_;cases hb:l.getD j false with
  | true=>
   refine aS.2 ?_;have:DR l=j:=by unfold DR;rw [uK hb hno]
   rw [this] at hk;exact hk
  | false=>
   refine aD.2 (dS.2 ?_);rw [aU (by omega),eI];refine ⟨⟨j+1,rfl,by omega,rfl,λq hq=>?_⟩,by simp only [aW];omega⟩;by_cases hqj:q=j
   ·rw [hqj];exact hb
   ·exact hno q (by omega)
 ·have:DR l=-1:=by unfold DR;rw [sN λq hq=>hno q (by omega)]
  rw [this] at hk;exact hk
theorem aRv {c:qF} {sv:Z} {s:List Int} (h:QQ w c i m) (hx:rT i m x) (hs:aQ w sv s) (ks:lM s) (h8:s.length<=8)
  (yes:∀ out v w',tS i m x s=some out->w'.ownsRow w.heap.size 3 1 v out.length (out.map i64)->aE w w'->K (.tuple #[v,i64 0]) w') (no:∀ e w',tS i m x s=none->e≠0->aE w w'->K (.tuple #[cM,i64 e]) w') :
  aB prog 205 #[.pointer (some ⟨c.gb,0,none⟩),.agg #[i64 x.op,i64 x.a,i64 x.b],sv] w K:=by
 have hle:=tV hx
 have hh2:hgt i m x<=2:=by
  obtain ⟨op,a,b⟩:=x;obtain ⟨_,_,⟨ho,_⟩,_⟩:=hx;have ho:1<=op/\op<=39:=ho;unfold hgt;rcases vL ho with rfl|rfl|rfl|rfl|rfl|rfl|rfl|rfl|rfl|rfl|rfl|rfl|rfl|rfl|rfl|rfl|rfl|rfl|rfl|rfl|rfl|rfl|rfl|rfl|rfl|rfl|rfl|rfl|rfl|rfl|rfl|rfl|rfl|rfl|rfl|rfl|rfl|rfl|rfl<;>first|exact Nat.zero_le _|exact Nat.le_succ 1|exact Nat.le_refl _|exact Nat.le_succ_of_le (wZ _)
 apply aFo;unfold JC;refine bx λb1 w1 hb1 x1=>?_;refine hU aM (hs.ext x1) (lF hb1 gU rfl ?_);refine wQ (h.ext x1) hx λav w2 hav x2=>?_;have x12:=x1.trans x2;have hb1:=hb1.ext x2;refine hU aM hav (iL.2 ?_);rw [aU (by omega)];refine bP.2 ?_;by_cases hlt:(s.length:Int) - ((aI i m x).length:Int) < 0
 ·simp only [hlt,aN];refine no 10 _ ?_ (by decide) x12;unfold tS;dsimp only;rw [if_pos (.inl (by omega))]
 have hsl:(aI i m x).length<=s.length:=by omega
 rw [show (s.length:Int) - ((aI i m x).length:Int)=((s.length - (aI i m x).length:Nat):Int) by omega] at hlt ⊢;simp only [hlt,aN];refine lF hb1 gU rfl ?_;refine TV (h.ext x12) hx λw3 x3=>dS.2 ?_;have x13:=x12.trans x3;have hb1:=hb1.ext x3;rw [aU (by omega)];refine jJ.2 ?_;by_cases hgt8:((s.length - (aI i m x).length:Nat):Int)+((hgt i m x:Nat):Int) > 8
 ·simp only [hgt8,aN];refine no 10 _ ?_ (by decide) x13;unfold tS;dsimp only;rw [if_pos (.inr (by omega))]
 simp only [hgt8,aN];obtain ⟨tv,trun,tsl⟩:=MK underlying42 fX (hs.ext x13) (lo:=some (.int .i64 ((s.length - (aI i m x).length:Nat):Int))) (hi':=none) (a:=s.length - (aI i m x).length) (b:=s.length) (.inr rfl) (.inl ⟨rfl,rfl⟩) (by omega) (Nat.le_refl _);refine V.ok (trun _) ?_
 have ht3:aQ w3 tv (s.drop (s.length - (aI i m x).length)):=by
  have:=tsl _ (hs.ext x13);unfold aQ;rw [List.length_drop,List.map_drop];have e2:((s.map i64).drop (s.length - (aI i m x).length)).take (s.length - (s.length - (aI i m x).length))=(s.map i64).drop (s.length - (aI i m x).length):=List.take_of_length_le (by simp)
  rwa [e2] at this
 have hdo:∀ {l},l=s.drop (s.length - (aI i m x).length)->tS i m x s=if kM x (aI i m x) l=true/\iR x (aI i m x) l=false then some (s.take (s.length - (aI i m x).length)++fU i m x l) else none:=by
  rintro _ rfl;unfold tS;dsimp only;rw [if_neg (by omega)]
 have hkl:lM (s.drop (s.length - (aI i m x).length)):=λk hk=>ks k (List.mem_of_mem_drop hk);have hll:(s.drop (s.length - (aI i m x).length)).length=(aI i m x).length:=by rw [List.length_drop];omega
 generalize hL:s.drop (s.length - (aI i m x).length)=l at ht3 hkl hll;have hdo:=hdo hL.symm;refine lF hb1 gU rfl ?_;refine XT (h.ext x13) hx ht3 hll hkl λe w4 he x4=>dZ.2 ?_;have x14:=x13.trans x4;have hb1:=hb1.ext x4;by_cases he0:e=0
 case neg=>
  simp only [he0,aN];exact no e _ (by rw [hdo,if_neg (λhc=>he0 (he.2 hc.1))]) he0 x14
 have hkB:=he.1 he0;simp only [he0,aN];refine lF hb1 gU rfl ?_;refine XO (h.ext x14) hx (ht3.ext x4) hll hkl λe' w5 he' x5=>dZ.2 ?_;have x15:=x14.trans x5;have hb1:=hb1.ext x5;by_cases he1:e'=0
 case neg=>
  simp only [he1,aN];exact no e' _ (by rw [hdo,if_neg (λhc=>he1 (he'.2 hc.2))]) he1 x15
 have hlB:=he'.1 he1;simp only [he1,aN];have hdo:=hdo.trans (if_pos ⟨hkB,hlB⟩);have D1:aE w5 w5.drew:=(aE.refl _).drew;have xd:=x15.trans D1;refine aJ.mk' (λw'=>aE w5 w') D1 ?_;obtain ⟨uv,urun,usl⟩:=MK underlying42 fX hs (lo:=none) (hi':=some (.int .i64 ((s.length - (aI i m x).length:Nat):Int))) (a:=0) (b:=s.length - (aI i m x).length) (.inl ⟨rfl,rfl⟩) (.inr rfl) (by omega) (by omega);refine aC.ok (λw' _=>urun _) ?_
 have hu:aQ w5.drew uv (s.take (s.length - (aI i m x).length)):=by
  have:=usl _ (hs.ext xd);have hul:(s.take (s.length - (aI i m x).length)).length=s.length - (aI i m x).length:=by rw [List.length_take];omega
  unfold aQ;rw [hul];simpa [List.map_take] using this
 refine yA (λw' hw=>hb1.ext hw) gU rfl ?_;have hul:(s.take (s.length - (aI i m x).length)).length=s.length - (aI i m x).length:=by rw [List.length_take];omega
 generalize s.take (s.length - (aI i m x).length)=u at hu hdo hul;refine GU hu (by omega) λcv w6 hoc x6=>⟨D1.trans x6,?_⟩;refine GO (h.ext (xd.trans x6)) hx ((ht3.ext ((x4.trans x5).trans (D1.trans x6)))) (by omega) λgv w7 hg x7=>⟨(D1.trans x6).trans x7,?_⟩;have hgl:(fU i m x l).length<=2:=by rw [xX];exact hh2
 refine EK aZ (x7.own hoc) hg (zX _) (by omega) (by unfold maxLen;omega) (x6.trans x7).size λv4 w12 ho12 hg12=>?_;have x12':aE w5.drew w12:=(x6.trans x7).grown hg12 λk hk=>((x7.own hoc).lt k hk).1;refine ⟨D1.trans x12',yes _ v4 w12 hdo ?_ (xd.trans x12')⟩;have:=aX ho12 xd.size;rw [List.length_append,List.map_append];exact this
end Go.Proofs.YtgkkecladbmjkaaGreatDoor
namespace Go.Vc
theorem yX {P:Program} {S:O->Prop} {L:Z->Prop} {t g n c:Nat} {k:IntKind} {i:Int} (h:XA P t 1) (h0:0<=i) (h1:i < n) (hk:L (.pointer (some ⟨g,0+i.toNat*1,none⟩))):aC P S (Instr.indexAt t (.slice (some ⟨g,0,none⟩) n c) (.int k i)) L:=by
 obtain ⟨e,z,b,ht,hi⟩:=h;exact aC.ok (λw' _=>iG ht hi h0 h1) hk
end Go.Vc
namespace Go.Tc
theorem aLr (m:gA):WF m (St.ini m.code.length):=by
 have eH:∀ q,(St.ini m.code.length).h q=false:=λq=>by
  simp only [St.ini,St.h,List.getD_eq_getElem?_getD,List.getElem?_replicate];split<;>rfl
 have eS:∀ q,(St.ini m.code.length).s q=[]:=λq=>by
  simp only [St.ini,St.s,List.getD_eq_getElem?_getD,List.getElem?_replicate];split<;>rfl
 exact ⟨by simp [St.ini],by simp [St.ini],by simp [St.ini],λk h=>(by rw [eH] at h;cases h),λk _=>⟨eS k,eH k⟩⟩
theorem GG {n:Nat} (h:1<=n):lC n (St.ini n) 0 []=some (St.first n):=by
 have eH:(St.ini n).h 0=false:=by
  simp only [St.ini,St.h,List.getD_eq_getElem?_getD,List.getElem?_replicate];split<;>rfl
 unfold lC;rw [if_neg (by omega)];simp only [Int.toNat_zero,eH];rfl
end Go.Tc
namespace Go.Proofs.YtgkkecladbmjkaaGreatDoor
open Tryz
open Go.Vc Go.Tc
variable {w:O} {K:Z->O->Prop}
variable {n sz:Nat} {xs:List Z} {w0:O} {i:dN} {m:gA} {sv:Z}
theorem oA {B e:Nat} {v:Z} (h:w.ownsRow B e sz v n xs):gO v=true:=by
 rcases h.2 with ⟨rfl,_⟩|⟨_,_,_,rfl,_⟩<;>rfl
theorem QB {c:qF} {st:St} {to:Int} {stack:List Int} (h:sT w0 w c i m st) (wf:WF m st) (hn:m.code.length<=1000) (h0:0<=to) (hs:aQ w sv stack) (hks:lM stack) (hl8:stack.length<=8)
  (yes:∀ st' w',lC m.code.length st to stack=some st'->sT w0 w' c i m st'->Fr c.G w w'->K (i64 0) w') (no:∀ e w',lC m.code.length st to stack=none->e≠0->Fr c.G w w'->K (i64 e) w') :
  aB prog 203 #[.pointer (some ⟨c.gb,0,none⟩),i64 to,sv] w K:=by
 apply aFq;unfold JE;refine ⟨.inl ⟨_,rfl⟩,aCf h.boxed bM dU fT rfl ?_⟩;refine hU iZ h.codeAt (jU.2 (aK (λhbig=>?_) λhsm=>?_))
 ·exact no 13 _ (by unfold lC;rw [if_pos hbig]) (by decide) (Fr.of_ext (aE.refl _))
 obtain ⟨t,rfl⟩:∃ t:Nat,to=t:=⟨to.toNat,by omega⟩;have htn:t < m.code.length:=by omega
 have hM:=h.mem;refine ⟨.inl ⟨_,rfl⟩,bQ h.boxed cL eV rfl ?_⟩;refine kP jV jZ (hM.hs hn) (by omega) (by omega) (BO (by rw [hM.l2];exact htn)) (gG.2 ?_);have ehh:st.has.getD t false=st.h t:=rfl;rw [ehh]
 have hgG:∀ {r},(if st.h t then (jB (st.s t) stack).bind λj=>if j=st.s t then some st else some { st with st:=st.st.set t j,todo:=st.todo.set t true } else some ⟨st.st.set t stack,st.has.set t true,st.todo.set t true⟩)=r->lC m.code.length st t stack=r:=by
  rintro _ rfl;unfold lC;rw [if_neg (by omega)];simp only [Int.toNat_natCast]
 have hne:=h.ne;have hBo:=hM.o;cases hht:st.h t with
 | false=>
  simp only [aN];have D1:aE w w.drew:=(aE.refl _).drew;refine aJ.mk' (λw'=>dW w' c.gb (c.cells i m) 220) (h.box.ext D1) ?_;refine ⟨.inl ⟨_,rfl⟩,gY (λw' hw=>dW.boxed hw) bL eW rfl ?_⟩;refine ⟨.inl ⟨_,rfl⟩,gY (λw' hw=>dW.boxed hw) cL eV rfl ?_⟩;refine ⟨.inl ⟨_,rfl⟩,gY (λw' hw=>dW.boxed hw) bY eV rfl ?_⟩;refine GU (hs.ext D1) (by omega) λcv w2 hoc x2=>⟨(h.box.ext D1).ext x2,?_⟩;have xd:=D1.trans x2;have hM2:=hM.ext xd;have hoc:=aX hoc (B':=c.B) (Nat.le_trans hBo.2.2.2.2 D1.size);have hB2:=h.box.ext xd;obtain ⟨vs,q1,q2,q3⟩:=hM2.s1;refine yX kQ (by omega) (by omega) (VG jM q2 (by rw [q1];simpa using htn) (oA hoc) ⟨hB2.other hne.1,?_⟩);rw [Int.toNat_natCast];have hM3:=hM2.setS hoc htn;refine yX jV (by omega) (by omega) (VG mP hM3.s2 (by rw [List.length_map,hM3.l2];simpa using htn) rfl ⟨(hB2.other hne.1).other hne.2.1,?_⟩);rw [Int.toNat_natCast];have hM4:=hM3.setH t true;refine yX jV (by omega) (by omega) (VG mP hM4.s3 (by rw [List.length_map,hM4.l3];simpa using htn) rfl ?_);rw [Int.toNat_natCast];have hM5:=hM4.setT t true;have hf:Fr c.G w _:=(((Fr.of_ext (S:=c.G) xd).set (b:=c.g1) (o:=t) (v:=cv) (.inl rfl)).set (b:=c.g2) (o:=t) (v:=.bool true) (.inr (.inl rfl))).set (b:=c.g3) (o:=t) (v:=.bool true) (.inr (.inr rfl));exact yes _ _ (hgG (by rw [hht];rfl)) (h.chg hf hM5) hf
 | true=>
  simp only [aN];obtain ⟨hkt,hlt8⟩:=wf.kd t hht;obtain ⟨vs,v,hvs,hv,hov⟩:=hM.ss hn htn;refine ⟨.inl ⟨_,rfl⟩,bQ h.boxed bL eW rfl ?_⟩;refine kP kQ bJ hvs (by omega) (by omega) hv ?_;refine MZ (aA.of_own hov) hs hkt hks (by omega) (λjo v6 w2 hjo ho6 x2=>?_) λw2 hjo x2=>?_
  case refine_2=>
   refine gM.2 (gL.2 (gG.2 ?_));simp only [aN];exact no 14 _ (hgG (by rw [hht,hjo];rfl)) (by decide) (Fr.of_ext x2)
  refine gM.2 (gL.2 (gG.2 ?_));simp only [aN];have h2:=h.ext x2;have hM2:=h2.mem;obtain ⟨vs7,v7,hvs7,hv7,hov7⟩:=hM2.ss hn htn;refine ⟨.inl ⟨_,rfl⟩,bQ h2.boxed bL eW rfl ?_⟩;refine kP kQ bJ hvs7 (by omega) (by omega) hv7 ?_;refine YQ (aA.of_own ho6) (aA.of_own hov7) λw3 x3=>gG.2 ?_;have x23:=x2.trans x3;by_cases hje:jo=st.s t
  ·simp only [hje,aN];exact yes st _ (hgG (by rw [hht,hjo];simp [hje])) (h.ext x23) (Fr.of_ext x23)
  ·simp only [hje,aN];have D1:aE w3 w3.drew:=(aE.refl _).drew;have xd:=x23.trans D1;have h3:=h.ext xd;have hM3:=h3.mem;have ho6:=aX ((x3.trans D1).own ho6) (B':=c.B) hBo.2.2.2.2;refine aJ.mk' (λw'=>dW w' c.gb (c.cells i m) 220) h3.box ?_;refine ⟨.inl ⟨_,rfl⟩,gY (λw' hw=>dW.boxed hw) bL eW rfl ?_⟩;refine ⟨.inl ⟨_,rfl⟩,gY (λw' hw=>dW.boxed hw) bY eV rfl ?_⟩;obtain ⟨vs8,q1,q2,q3⟩:=hM3.s1;refine yX kQ (by omega) (by omega) (VG jM q2 (by rw [q1];simpa using htn) (oA ho6) ⟨h3.box.other hne.1,?_⟩);rw [Int.toNat_natCast];have hM4:=hM3.setS ho6 htn;refine yX jV (by omega) (by omega) (VG mP hM4.s3 (by rw [List.length_map,hM4.l3];simpa using htn) rfl ?_);rw [Int.toNat_natCast];have hM5:=hM4.setT t true;have hf:Fr c.G w _:=((Fr.of_ext (S:=c.G) xd).set (b:=c.g1) (o:=t) (v:=v6) (.inl rfl)).set (b:=c.g3) (o:=t) (v:=.bool true) (.inr (.inr rfl));exact yes _ _ (hgG (by rw [hht,hjo];simp [hje])) (h.chg hf hM5) hf
theorem aMs {c:qF} {x:gN} {s:List Int} (h:QQ w c i m) (hx:rT i m x) (hs:aQ w sv s) (ks:lM s) (h8:s.length<=8)
  (hk:∀ v e w',((e≠0/\tS i m x s=none)\/(e=0/\∃ out,tS i m x s=some out/\w'.ownsRow w.heap.size 3 1 v out.length (out.map i64)))->aE w w'->K (.tuple #[v,i64 e]) w') :
  aB prog 205 #[.pointer (some ⟨c.gb,0,none⟩),.agg #[i64 x.op,i64 x.a,i64 x.b],sv] w K:=
 aRv h hx hs ks h8 (λout v w' h1 h2 x=>hk v 0 w' (.inr ⟨rfl,out,h1,h2⟩) x) λe w' h1 h2 x=>hk _ e w' (.inl ⟨h2,h1⟩) x
theorem Mem.todo {g1 g2 g3 B n:Nat} {st:St} (h:Mem g1 g2 g3 B w n st) (hn:n<=1000):pE w (.slice (some ⟨g3,0,none⟩) n n) st.todo:=by
 unfold pE;rw [h.l3];exact h.ts hn
theorem MR {c:qF} {w':O} {e:Nat} {v:Z} (hf:Fr c.G w w') (ho:w.ownsRow c.B e sz v n xs) (h:c.g1 < c.B/\c.g2 < c.B/\c.g3 < c.B):w'.ownsRow c.B e sz v n xs:=
 hf.own ho λk hk=>by
  have:=(ho.lt k hk).1;rintro (e|e|e)<;>omega
theorem VU {c:qF} (h:sT w0 w c i m (St.ini m.code.length)) (ir:i.right) (mr:m.right)
  (yes:∀ st w',lK i m (some st)->sT w0 w' c i m st->K (.tuple #[i64 0,i64 0]) w') (no:∀ pc e w',lK i m none->e≠0->aE w0 w'->K (.tuple #[i64 pc,i64 e]) w') :
  aB prog 156 #[.pointer (some ⟨c.gb,0,none⟩)] w K:=by
 have hn1:=mr.2.2.2.1.1;have hn2:=mr.2.2.2.1.2;have hn:m.code.length<=1000:=by omega
 apply aGx;unfold KH;refine ⟨.inl ⟨_,rfl⟩,aCf h.boxed bM dU fT rfl ?_⟩;have hc:=h.codeAt;refine hU iZ hc ?_;refine ⟨λv w'=>∃ j:Nat,v=i64 j/\j<=m.code.length/\aE w w'/\∀ x∈m.code.take j,fI i m x,λv _=>m.code.length - (RowKit.intOf v).toNat,⟨0,rfl,Nat.zero_le _,aE.refl _,λ_ h=>by simp at h⟩,?_⟩;rintro _ w3 ⟨j,rfl,hj,x3,hnm⟩ _;refine bP.2 (aK (λhlt=>?_) λhge=>?_)
 ·have hj':j < m.code.length:=by omega
  have hx:=oX hj';have hxm:=List.mem_of_getElem? hx;refine ldI (hc.ext x3) hx ?_;refine pX OV rfl rfl λb4 w4 hb4 x4=>?_;have hb4:fB w4 b4 [i64 (m.ins j).op,i64 (m.ins j).a,i64 (m.ins j).b]:=hb4;refine lF hb4 gU rfl ?_;refine (XC (h.ext (x3.trans x4)).wr (mr.2.2.2.2 _ hxm)).mono λv w5 ⟨b,hv,hb,x5⟩=>?_;subst hv;have x35:=(x3.trans x4).trans x5;refine gG.2 ?_;cases b with
  | false=>simp only [aN];exact no _ 9 _ (.inl ⟨⟨_,hxm,λh=>by have:=hb.2 h;cases this⟩,rfl⟩) (by decide) (h.x.trans x35)
  | true=>
   simp only [aN];refine mJ (by omega) ?_;refine ⟨⟨j+1,rfl,by omega,x35,λy hy=>?_⟩,by simp only [aW];omega⟩;rw [List.take_add_one,hx] at hy;rcases List.mem_append.1 hy with hy|hy
   ·exact hnm y hy
   ·simp at hy;subst hy;exact hb.1 rfl
 have hjl:j=m.code.length:=by omega
 subst hjl;rw [List.take_length] at hnm;have hox:∀ x∈m.code,rT i m x:=λx hx=>⟨ir,mr,mr.2.2.2.2 x hx,hnm x hx⟩;obtain ⟨wf0,inv0⟩:=tQ (i:=i) hn1;have h3:=h.ext x3;refine QB (stack:=[]) h3 (aLr m) hn (Int.le_refl 0) (aA.nil _ _) (λ_ h=>by simp at h) (by simp) (λst1 w4 hg h4 _=>?_) λe w4 hg _ _=>by rw [GG hn1] at hg;cases hg
 rw [GG hn1] at hg;cases hg;generalize hnn:m.code.length=n at *;refine ⟨λw'=>∃ st,(sT w0 w' c i m st/\WF m st/\OJ i m st/\∀ r,mA i m st r->mA i m (St.first n) r),λw'=>mu λq=>∃ st,(sT w0 w' c i m st/\WF m st/\OJ i m st/\∀ r,mA i m st r->mA i m (St.first n) r)/\msr n st=q,⟨_,h4,wf0,inv0,λ_ h=>h⟩,?_⟩;rintro w9 ⟨st0,hst0⟩ _;obtain ⟨st,⟨hW,wf,inv,hR⟩,hmu⟩:=tJ (p:=λq=>∃ st,(sT w0 w9 c i m st/\WF m st/\OJ i m st/\∀ r,mA i m st r->mA i m (St.first n) r)/\msr n st=q) ⟨_,_,hst0,rfl⟩;clear hst0 st0;have hWk:∀ {r},mA i m st r->lK i m r:=λ{r} hr=>.inr ⟨hnm,by rw [hnn];exact hR r hr⟩;have hM:=hW.mem;rw [hnn] at hM;have hcc:c.cells i m=[.string i.name,c.p.fv,c.p.iv,c.p.mv,c.p.xv,c.pv,i64 m.result,c.lv,c.cv,c.loc,.slice (some ⟨c.g1,0,none⟩) n n,.slice (some ⟨c.g2,0,none⟩) n n,.slice (some ⟨c.g3,0,none⟩) n n]:=by unfold qF.cells;rw [hnn]
 have hbox:∀ {w'},fB w' c.gb (c.cells i m)->fB w' c.gb _:=λh=>hcc▸h;refine ⟨.inl ⟨_,rfl⟩,bQ (hbox hW.boxed) bY eV rfl ?_⟩;refine YE (hM.todo hn) (by rw [hM.l3];exact hn) (bP.2 ?_);cases hfirst:kU st.todo with
 | none=>
  have e1:DR st.todo=-1:=by unfold DR;rw [hfirst]
  rw [e1];simp only [aN,Int.reduceLT,Int.reduceNeg];exact yes st _ (hWk (.done hfirst)) hW
 | some q=>
 have e1:DR st.todo=(q:Int):=by unfold DR;rw [hfirst]
 rw [e1];have hq0:¬ ((q:Int) < 0):=by omega
 simp only [hq0,aN];have htq:st.t q=true:=(oK hfirst).1;have hqn':q < n:=by have:=pV htq;rw [hM.l3] at this;exact this
 have hhq:st.h q=true:=by
  cases e:st.h q with
  | true=>rfl
  | false=>have:=(wf.no q e).2;rw [htq] at this;cases this
 obtain ⟨hkd,hl8⟩:=wf.kd q hhq;have hxq:=oX (m:=m) (k:=q) (by omega);have ox:=hox _ (List.mem_of_getElem? hxq);refine ⟨.inl ⟨_,rfl⟩,bQ (hbox hW.boxed) bY eV rfl ?_⟩;refine stB jV mP hM.s3 (n:=n) (by simpa using hM.l3) (by omega) (by omega) rfl ?_;rw [Int.toNat_natCast];have hM1:=hM.setT q false;have hf1:Fr c.G w9 (w9.setCell ⟨c.g3,q,none⟩ (.bool false)):=Fr.of_set (.inr (.inr rfl));have hW1:=hW.chg hf1 (by rw [hnn];exact hM1);generalize w9.setCell ⟨c.g3,q,none⟩ (.bool false)=w10 at hM1 hW1;have estep:oR i m st q=(tS i m (m.ins q) (st.s q)).bind λstack=>kB n stack (fK (m.ins q) q) { st with todo:=st.todo.set q false }:=by unfold oR;rw [hnn]
 generalize hst1:({ st with todo:=st.todo.set q false }:St)=st1 at hM1 hW1 estep;have es1:st1.s q=st.s q:=by rw [<- hst1];rfl
 refine ⟨.inl ⟨_,rfl⟩,aCf (hbox hW1.boxed) bM dU fT rfl ?_⟩;refine ldI hW1.codeAt hxq ?_;refine pX OV rfl rfl λb5 w11 hb5 x11=>?_;have hb5:fB w11 b5 [i64 (m.ins q).op,i64 (m.ins q).a,i64 (m.ins q).b]:=hb5;have D1:aE w11 w11.drew:=(aE.refl _).drew;have xd:=x11.trans D1;have hWd:=hW1.ext xd;have hW11:=hW1.ext x11;have hMd:=hWd.mem;rw [hnn] at hMd;obtain ⟨vs,v,hvs,hv,hov⟩:=hMd.ss hn hqn';rw [es1] at hov;refine aJ.mk' (λw'=>aE w11.drew w') (aE.refl _) ?_;refine yA (λw' hw=>hb5.ext (D1.trans hw)) gU rfl ?_;refine ⟨.inl ⟨_,rfl⟩,gY (λw' hw=>hbox (hWd.boxed.ext hw)) bL eW rfl ?_⟩;refine lT kQ bJ hvs (λ_ h=>h) (by omega) (by omega) hv ?_;refine aMs hWd.wr ox (aA.of_own hov) hkd hl8 λv2 e2 w12 hdo x12=>?_;refine ⟨x12,aC.ok (λw' _=>lS) (aC.ok (λw' _=>lR) ?_)⟩;refine lF (hb5.ext (D1.trans x12)) gU rfl ?_;refine aCa (x:=m.ins q) (pc:=q) (by omega) λtv w13 hot x13=>?_;have ht0:=xK ox (pc:=q);have hLl:(fK (m.ins q) q).length<=2:=AY _ _;generalize fK (m.ins q) q=L at hot ht0 estep hLl;have hW13:=hWd.ext (x12.trans x13);have hBo:=hMd.o;have hBd:c.B<=w11.drew.heap.size:=hBo.2.2.2.2;have hg3:c.g1 < c.B/\c.g2 < c.B/\c.g3 < c.B:=⟨hBo.2.1,hBo.2.2.1,hBo.2.2.2.1⟩;have hot:=aX hot (B':=c.B) (Nat.le_trans hBd x12.size)
 have wf1:WF m st1:=by
  rw [<- hst1];refine ⟨wf.l1,wf.l2,by simpa using wf.l3,wf.kd,λk hk=>⟨(wf.no k hk).1,?_⟩⟩;simp only [St.t,jI];split
  ·rfl
  ·exact (wf.no k hk).2
 have hdo':(e2≠0/\lK i m none/\aE w0 w13)\/(e2=0/\∃ out st',tS i m (m.ins q) (st.s q)=some out/\sT w0 w13 c i m st'/\kB n out (L.take 0) st1=some st'/\w13.ownsRow c.B 3 1 v2 out.length (out.map i64)):=by
  rcases hdo with ⟨h1,h2⟩|⟨h1,out,h2,h3⟩
  ·exact .inl ⟨h1,hWk (.fail hfirst (by rw [estep,h2];rfl)),hW13.x⟩
  ·exact .inr ⟨h1,out,st1,h2,hW13,rfl,aX (x13.own h3) hBd⟩
 refine hU aM (aA.of_own hot) ?_;refine ⟨λev v w'=>∃ (j:Nat) (e:Int),v=i64 j/\ev=i64 e/\j<=L.length/\w'.ownsRow c.B 3 1 tv L.length (L.map i64)/\((e≠0/\lK i m none/\aE w0 w')\/(e=0/\∃ out st',tS i m (m.ins q) (st.s q)=some out/\sT w0 w' c i m st'/\kB n out (L.take j) st1=some st'/\w'.ownsRow c.B 3 1 v2 out.length (out.map i64))),λ_ v _=>L.length - (RowKit.intOf v).toNat,⟨0,e2,rfl,rfl,Nat.zero_le _,hot,hdo'⟩,?_⟩;rintro _ _ w14 ⟨j,e,rfl,rfl,hj,hot4,hst⟩ _;refine bP.2 (aK (λhlt=>?_) λhge=>?_)
 case refine_2=>
  have hjL:j=L.length:=by omega
  subst hjL;rw [List.take_length] at hst;refine dZ.2 ?_;rcases hst with ⟨h1,h2,h3⟩|⟨h1,out,st',h2,h3,h4,_⟩
  ·simp only [h1,aN];exact no q e _ h2 h1 h3
  ·simp only [h1,aN];have es:oR i m st q=some st':=by rw [estep,h2];exact h4
   obtain ⟨s1,s2,s3⟩:=sY hox wf inv hfirst es;have hI:sT w0 w14 c i m st'/\WF m st'/\OJ i m st'/\∀ r,mA i m st' r->mA i m (St.first n) r:=⟨h3,s1,s2,λr hr=>hR r (.go hfirst es hr)⟩;rw [hnn] at s3;exact ⟨⟨st',hI⟩,Nat.lt_of_le_of_lt (FT ⟨st',hI,rfl⟩) (Nat.lt_of_lt_of_eq s3 hmu)⟩
 obtain ⟨to,hto⟩:=fQ (l:=L) (j:=j) (by omega);have hto0:=ht0 to (List.mem_of_getElem? hto);refine TP aM aF hot4 (by omega) (by omega) (fD hto) (aO.2 ?_);rcases hst with ⟨h1,h2,h3⟩|⟨h1,out,st',h2,h3,h4,ho4⟩
 ·simp only [h1,aN];refine mJ (by omega) ?_;exact ⟨⟨j+1,e,rfl,rfl,by omega,hot4,.inl ⟨h1,h2,h3⟩⟩,by simp only [aW];omega⟩
 ·simp only [h1,aN];obtain ⟨od1,od2,_,_⟩:=uL ox hkd h2;have wf':WF m st':=(oZ od1 od2 wf1 (λto ht=>ht0 to (List.mem_of_mem_take ht)) (by rw [hnn];exact h4)).1;have hlo:=h3.lo;refine QB h3 wf' (by rw [hnn];exact hn) hto0 (aA.of_own ho4) od1 od2 (λst'' w15 hg h5 hf=>dS.2 ?_) λe' w15 hg hne hf=>dS.2 ?_
  ·rw [hnn] at hg;rw [aU (by omega),eI];exact ⟨⟨j+1,0,rfl,rfl,by omega,MR hf hot4 hg3,.inr ⟨rfl,out,st'',h2,h5,xZ h4 hto hg,MR hf ho4 hg3⟩⟩,by simp only [aW];omega⟩
  ·rw [hnn] at hg;rw [aU (by omega),eI];refine ⟨⟨j+1,e',rfl,rfl,by omega,MR hf hot4 hg3,.inl ⟨hne,hWk (.fail hfirst ?_),hf.ext h3.x λk hk=>?_⟩⟩,by simp only [aW];omega⟩
   ·rw [estep,h2];exact yC h4 hto hg
   ·rcases hk with rfl|rfl|rfl
    ·exact hlo.2.1
    ·exact hlo.2.2.1
    ·exact hlo.2.2.2
end Go.Proofs.YtgkkecladbmjkaaGreatDoor
namespace Go.Vc
variable {P:Program} {w:O} {a:Addr} {x:Operand}
theorem WJ {s e:TypeId} (hs:P.underlying s=some (.pointer e)) (d:Nat):(Op.equalIn (d+1) s (.pointer (some a)) (Value.pointer none)).run P w=.ok false w:=by
 simp [Op.equalIn,run_underlying hs]
theorem SX {s e:TypeId} (hs:P.underlying s=some (.pointer e)) (d:Nat):(Op.equalIn (d+1) s (Value.pointer none) (Value.pointer none)).run P w=.ok true w:=by
 simp [Op.equalIn,run_underlying hs]
theorem MO {s e:TypeId} (hs:P.underlying s=some (.pointer e)) {y:Operand} :
  (do eqGuard .eql s x y (.pointer (some a)) (Value.pointer none);binOp .eql s (.pointer (some a)) (Value.pointer none)).run P w=.ok (.bool false) w:=by
 simp [eqGuard,binOp,kI,WJ hs]
theorem FB {s e:TypeId} (hs:P.underlying s=some (.pointer e)) {y:Operand} :
  (do eqGuard .eql s x y (Value.pointer none) (Value.pointer none);binOp .eql s (Value.pointer none) (Value.pointer none)).run P w=.ok (.bool true) w:=by
 simp [eqGuard,binOp,kI,SX hs]
end Go.Vc
namespace Go.Proofs.YtgkkecladbmjkaaGreatDoor
open Tryz
open Go.Vc Go.Tc
variable {w:O} {K:Z->O->Prop}
variable {p:fZ} {i:dN} {k:Int} {B:Nat} {n:aL} {x:gN}
theorem SH (h:gZ w p i) (hn:jL w i) (hb7:dN.rg i) (hk:∀ a b e w',(e=0↔lL i)->aE w w'->K (.tuple #[.agg #[i64 a,i64 b],i64 e]) w'):aB prog 154 #[p.val i] w K:=by
 apply aGz;unfold KJ fZ.val;refine bx λb1 w1 hb1 x1=>?_;refine alK vC λw2 hB2 x2=>?_;have x12:=x1.trans x2;have hg:w.heap.size<=w1.heap.size:=x1.size;have hb1:=hb1.ext x2;generalize w1.heap.size=g at hB2 hg;have hB2:dW w2 g [i64 0,i64 0] 76:=hB2;refine lF hb1 kF rfl ?_;refine (VY (h.ext x12) hb7 (hn.ext x12)).mono λv w3 ⟨b,hv,hb,x3⟩=>?_;subst hv;have x13:=x12.trans x3
 have fin:∀ {w':O} {a b e:Int},dW w' g [i64 0,i64 0] 76->aE w w'->(e=0↔lL i)->U prog (Instr.storeAt 76 (.pointer (some ⟨g,0,none⟩)) (.agg #[i64 a,i64 b])) w' λ_ w7=>
   ∃ r1,(loadVar 76 (match (Value.pointer (some ⟨g,0,none⟩)) with|.pointer (some p)=>p|_=>⟨0,0,none⟩)).run prog w7=.ok r1 w7/\(∃ p,(Value.pointer (some ⟨g,0,none⟩))=Value.pointer (some p))/\K (.tuple #[r1,i64 e]) w7:=by
  intro w' a b e hB hx he;refine stA vC hB (l:=[i64 a,i64 b]) rfl rfl rfl rfl λw7 hB7 hc=>?_;exact ⟨_,xC underlying76 rfl vC hB7 rfl,⟨_,rfl⟩,hk a b e _ he (hc.ext _ hx hg)⟩
 refine gG.2 ?_;cases b with
 | false=>
  simp only [aN];refine kO BT [] rfl rfl ?_;exact fin (hB2.ext x3) x13 ⟨λh=>(by cases h),λh=>by have:=hb.2 h.1;cases this⟩
 | true=>
 simp only [aN];have ir:=hb.1 rfl;have hm8:=ir.2.2.1.1.2;refine bQ (hb1.ext x3) bF fS rfl (vS iA (h.ext x13).mt ?_);refine ⟨λv w'=>∃ j:Nat,v=i64 j/\j<=i.methods.length/\aE w2 w'/\∀ q,q < j->∃ st,lK i (i.meth q) (some st),λv _=>i.methods.length - (RowKit.intOf v).toNat,⟨0,rfl,Nat.zero_le _,x3,λ_ h=>absurd h (Nat.not_lt_zero _)⟩,?_⟩;rintro _ w4 ⟨j,rfl,hj,x4,hall⟩ _;refine bP.2 (aK (λhlt=>?_) λhge=>?_)
 ·refine lF (hb1.ext x4) kF rfl ?_;have hmm:=iI (i:=i) (a:=(j:Int)) (by omega) (by omega);have mr:(i.meth j).right:=ir.2.2.1.2.1 _ (List.mem_of_getElem? hmm);refine BA ((h.ext x12).ext x4) ir (by omega) λw0 c w5 x40 hW x45=>?_;refine VU hW ir mr (λst w6 hw hW6=>?_) λpc e w6 hw hne x6=>?_
  ·refine gM.2 (gL.2 (dZ.2 ?_));simp only [aN];refine dS.2 ?_;rw [aU (by omega)];refine ⟨⟨j+1,rfl,by omega,x4.trans (x40.trans hW6.x),λq hq=>?_⟩,by simp only [aW];omega⟩;by_cases hqj:q=j
   ·subst hqj;exact ⟨st,hw⟩
   ·exact hall q (by omega)
  ·refine gM.2 (gL.2 (dZ.2 ?_));simp only [hne,aN];refine kO BT [(0,i64 j),(1,i64 pc)] rfl rfl ?_;refine fin (hB2.ext (x4.trans (x40.trans x6))) ((x12.trans x4).trans (x40.trans x6)) ⟨λh=>absurd h hne,λht=>?_⟩;obtain ⟨s,hs⟩:=ht.2 _ (List.mem_of_getElem? hmm);have:=hs.det hw;cases this
 ·have hjl:j=i.methods.length:=by omega
  subst hjl;refine kO BT [] rfl rfl ?_;refine fin (hB2.ext x4) (x12.trans x4) ⟨λ_=>⟨ir,λm hm=>?_⟩,λ_=>rfl⟩;obtain ⟨q,hq⟩:=List.getElem?_of_mem hm;have hlt:=(List.getElem?_eq_some_iff.1 hq).1;have hmm:=iI (i:=i) (a:=(q:Int)) (by omega) (by omega);rw [Int.toNat_natCast,hq] at hmm;cases hmm;exact hall q hlt
theorem UT (h:gZ w p i) (hn:jL w i) (hb7:dN.rg i)
  (yes:∀ w0 c st w',lL i->0<=k->k < i.methods.length->lK i (i.meth k) (some st)->aE w w0->sT w0 w' c i (i.meth k) st->K (.pointer (some ⟨c.gb,0,none⟩)) w')
  (no:∀ w',¬ (lL i/\0<=k/\k < i.methods.length)->aE w w'->K (Value.pointer none) w'):aB prog 117 #[p.val i,i64 k] w K:=by
 apply aId;unfold LL fZ.val;refine bx λb1 w1 hb1 x1=>?_;refine lF hb1 kF rfl ?_;refine SH (h.ext x1) (hn.ext x1) hb7 λa b e w2 he x2=>?_;refine gM.2 (gL.2 ?_);refine pX ER rfl rfl λb3 w3 _ x3=>?_;have x13:=(x1.trans x2).trans x3;have hb1:=hb1.ext (x2.trans x3);refine dZ.2 ?_;by_cases he0:e=0
 case neg=>
  simp only [he0,aN];exact no _ (λht=>he0 (he.2 ht.1)) x13
 have ht:=he.1 he0;by_cases hk0:k < 0
 ·simp only [he0,hk0,aN];exact no _ (λht=>by omega) x13
 simp only [he0,hk0,aN];refine bQ hb1 bF fS rfl (vS iA (h.ext x13).mt (jU.2 ?_));by_cases hkl:(i.methods.length:Int)<=k
 ·simp only [hkl,aN];exact no _ (λht=>by omega) x13
 simp only [hkl,aN];obtain ⟨q,rfl⟩:∃ q:Nat,k=q:=⟨k.toNat,by omega⟩;have hmm:=iI (i:=i) (a:=(q:Int)) (by omega) (by omega);have mr:(i.meth q).right:=ht.1.2.2.1.2.1 _ (List.mem_of_getElem? hmm);refine lF hb1 kF rfl ?_;refine BA (h.ext x13) ht.1 (by omega) λw0 c w5 x30 hW x35=>?_;refine VU hW ht.1 mr (λst w6 hw hW6=>?_) λpc e' w6 hw hne x6=>?_
 ·exact yes w0 c st w6 ht (by omega) (by omega) hw (x13.trans x30) hW6
 ·obtain ⟨s,hs⟩:=ht.2 _ (List.mem_of_getElem? hmm);have:=hs.det hw;cases this
theorem VC (h:gZ w p i) (hn:jL w i) (hb7:dN.rg i)
  (yes:∀ st sv w',lL i->0<=k->k < i.methods.length->lK i (i.meth k) (some st)->nY w' sv st.st->aE w w'->K (.tuple #[sv,.bool true]) w')
  (no:∀ w',¬ (lL i/\0<=k/\k < i.methods.length)->aE w w'->K (.tuple #[cM,.bool false]) w'):aB prog 74 #[p.val i,i64 k] w K:=by
 apply aOl;unfold RG fZ.val;refine bx λb1 w1 hb1 x1=>?_;refine lF hb1 kF rfl ?_;refine UT (h.ext x1) (hn.ext x1) hb7 (λw0 c st w2 ht h0 hk hw x2 hW=>?_) λw2 hne x2=>?_
 ·refine V.ok (MO underlying217) ?_;simp only [aN];refine ⟨.inl ⟨_,rfl⟩,bQ hW.boxed bL eW rfl ?_⟩;have hm:=iI (i:=i) (a:=k) h0 hk;have mr:(i.meth k).right:=ht.1.2.2.1.2.1 _ (List.mem_of_getElem? hm);have:=mr.2.2.2.1.2;exact yes st _ _ ht h0 hk hw (hW.mem.states (by omega)) ((x1.trans x2).trans hW.x)
 ·refine V.ok (FB underlying217) ?_;simp only [aN];exact no _ hne (x1.trans x2)
def kL (op:Int):Int × Bool:=if op=27\/op=28 then (1,true) else if op=17\/op=18\/op=29 then (2,true) else if op=30\/op=36 then (3,false) else if op=31 then (5,false) else if op=32 then (5,true) else (0,false)
def qE (h n:Nat):List Int:=(List.range n).map λk=>10+((h - n+k:Nat):Int)
def wY (r:Int) (k:Int):Int:=if r=0 then -1 else 10+k
def eU (i:dN) (m:gA) (x:gN) (h:Nat):Option aL:=
 if x.op=1 then some (.const (10+(h:Int)) (IntKind.i32.wrap x.a)) else if x.op=2 then some (.move (10+(h:Int)) x.a) else if x.op=3 then some (.move x.a (10+((h:Int) - 1))) else if x.op=4 then none
 else if x.op=5 then some (.move (10+(h:Int)) (10+((h:Int) - 1))) else if x.op=15\/x.op=16\/x.op=26 then some (.un x.op (10+((h:Int) - 1)) (10+((h:Int) - 1)))
 else if x.op=22 then some (.choose (10+((h:Int) - 3)) (10+((h:Int) - 3)) (10+((h:Int) - 2)) (10+((h:Int) - 1))) else if x.op=23 then some (.goto x.a) else if x.op=24 then some (.branch (10+((h:Int) - 1)) x.a)
 else if x.op=25 then some (.const (10+(h:Int)) 0) else if x.op=35 then some (.const (10+(h:Int)) (IntKind.i32.wrap x.a)) else if x.op=33 then some (.getField (10+(h:Int)) x.a) else if x.op=34 then some (.putField x.a (10+((h:Int) - 1)))
 else if x.op=37 then some (.call x.a (wY (i.meth x.a).result ((h:Int) - (i.meth x.a).params.length)) (qE h (i.meth x.a).params.length))
 else if x.op=38 then some (.callX x.a (wY (i.imp x.a).result ((h:Int) - (i.imp x.a).params.length)) (qE h (i.imp x.a).params.length))
 else if x.op=39 then some (.ret (wY m.result ((h:Int) - 1)))
 else if (kL x.op).1≠0 then some (.serve x.op x.a x.b (if (kL x.op).2 then 10+((h:Int) - (kL x.op).1) else -1) (qE h (kL x.op).1.toNat))
 else some (.bin x.op (10+((h:Int) - 2)) (10+((h:Int) - 2)) (10+((h:Int) - 1)))
def kJ (B:Nat) (w:O) (v:Z) (n:aL):Prop:=∃ sv,v=n.val sv/\w.ownsRow B 3 1 sv n.args.length (n.args.map i64)
theorem kJ.fr {w':O} {v:Z} {S:Nat->Prop} (h:kJ B w v n) (f:Fr S w w') (hS:∀ k,B<=k->k < w.heap.size->¬ S k):kJ B w' v n:=by
 obtain ⟨sv,h1,h2⟩:=h;exact ⟨sv,h1,f.own h2 λk hk=>hS k (h2.lt k hk).1 (h2.lt k hk).2⟩
def LN (B:Nat) (w:O) (v:Z):Option aL->Prop
 | none=>v=Value.nilIface
 | some n=>kJ B w v n
theorem mB (h:-1000<=k/\k<=1000) (hk:K (i64 (10+k)) w):aB prog 118 #[i64 k] w K:=by
 apply aIc;unfold LK;refine dS.2 ?_;rw [aU (by omega)];exact hk
theorem wX {r:Int} (h:-1000<=k/\k<=1000) (hk:K (i64 (wY r k)) w):aB prog 119 #[i64 r,i64 k] w K:=by
 apply aIb;unfold LJ;unfold wY at hk;refine aO.2 (aK (λhe=>?_) λhe=>?_)
 ·rw [if_pos he] at hk;exact hk
 ·rw [if_neg he] at hk;exact mB h hk
theorem SP {h n j:Nat} (hj:j < n):(qE h n).take (j+1)=(qE h n).take j++[10+((h - n+j:Nat):Int)]:=by
 have hl:(qE h n).length=n:=by simp [qE]
 rw [List.take_add_one]
 congr 1
 simp [qE,hj]
theorem VV {h n:Nat} (hn:n<=h) (hh:h<=500) (hk:∀ v w',w'.ownsRow w.heap.size 3 1 v (qE h n).length ((qE h n).map i64)->aE w w'->K v w'):aB prog 120 #[i64 h,i64 n] w K:=by
 have hl:(qE h n).length=n:=by simp [qE]
 apply aIa;unfold LI;refine iL.2 ?_;rw [aU (by omega)];refine ⟨λtv v w'=>∃ j:Nat,v=i64 ((h - n+j:Nat):Int)/\j<=n/\aE w w'/\w'.ownsRow w.heap.size 3 1 tv j (((qE h n).take j).map i64),λ_ v _=>h - (RowKit.intOf v).toNat,⟨0,by congr 1;omega,Nat.zero_le _,aE.refl _,World.ownsRow_nil _ _ _ _⟩,?_⟩;rintro tv _ w1 ⟨j,rfl,hj,x1,ho⟩ _;refine bP.2 (aK (λhlt=>?_) λhge=>?_)
 ·refine mB (by omega) ?_;refine iT aZ [i64 (10+((h - n+j:Nat):Int))] rfl rfl (by simp) rfl λv2 w2 ho2 x2=>?_;refine EK aZ (x2.own ho) (aA.of_own ho2) rfl (by omega) (by unfold maxLen;omega) (x1.trans x2).size λv3 w3 ho3 hg3=>?_;refine mJ (by omega) ?_;refine ⟨⟨j+1,rfl,by omega,(x1.trans x2).grown hg3 λq hq=>((x2.own ho).lt q hq).1,?_⟩,by simp only [aW];omega⟩;rw [SP (by omega),List.map_append];exact ho3
 ·have hjn:j=n:=by omega
  subst hjn;refine hk tv w1 ?_ x1;rw [hl];have:=ho;rw [List.take_of_length_le (by omega)] at this;exact this
theorem SL {op:Int} (hk:K (.tuple #[i64 (kL op).1,.bool (kL op).2]) w):aB prog 157 #[i64 op] w K:=by
 apply aGw;unfold KG;by_cases c27:op=27
 ·subst c27;simp only [aN,Int.reduceEq];exact hk
 by_cases c28:op=28
 ·subst c28;simp only [aN,Int.reduceEq];exact hk
 by_cases c17:op=17
 ·subst c17;simp only [aN,Int.reduceEq];intros;exact hk
 by_cases c18:op=18
 ·subst c18;simp only [aN,Int.reduceEq];intros;exact hk
 by_cases c29:op=29
 ·subst c29;simp only [aN,Int.reduceEq];intros;exact hk
 by_cases c30:op=30
 ·subst c30;simp only [aN,Int.reduceEq];intros;exact hk
 by_cases c36:op=36
 ·subst c36;simp only [aN,Int.reduceEq];intros;exact hk
 by_cases c31:op=31
 ·subst c31;simp only [aN,Int.reduceEq];intros;exact hk
 by_cases c32:op=32
 ·subst c32;simp only [aN,Int.reduceEq];intros;exact hk
 simp only [c27,c28,c17,c18,c29,c30,c36,c31,c32,aN]
 intros
 simp only [kL,c27,c28,c17,c18,c29,c30,c36,c31,c32,or_self,if_false] at hk;exact hk
theorem iD {v:Z} (h:v=n.val cM) (ha:n.args=[]):kJ B w v n:=⟨cM,h,by rw [ha];exact World.ownsRow_nil _ _ _ _⟩
theorem aAy (op:Int):0<=(kL op).1/\(kL op).1<=5:=by
 unfold kL;split
 ·exact ⟨by decide,by decide⟩
 split
 ·exact ⟨by decide,by decide⟩
 split
 ·exact ⟨by decide,by decide⟩
 split
 ·exact ⟨by decide,by decide⟩
 split
 iterate 2
  ·exact ⟨by decide,by decide⟩
theorem gP {h:Nat} (hn:(kL x.op).1.toNat<=h) (hh:h<=500) (hk:∀ v w',LN w.heap.size w' v (if (kL x.op).1=0 then none else some (.serve x.op x.a x.b (if (kL x.op).2 then 10+((h:Int) - (kL x.op).1) else -1) (qE h (kL x.op).1.toNat)))->aE w w'->K v w') :
  aB prog 121 #[.agg #[i64 x.op,i64 x.a,i64 x.b],i64 h] w K:=by
 have h0:=aAy x.op;apply aHz;unfold LH;refine bx λb1 w1 hb1 x1=>?_;refine bQ hb1 aT aF rfl (SL (gM.2 (gL.2 (aO.2 ?_))));by_cases hz:(kL x.op).1=0
 ·simp only [hz,aN,Int.reduceNeg];exact hk _ _ (by rw [if_pos hz];rfl) x1
 simp only [hz,aN,Int.reduceNeg];rw [if_neg hz] at hk;obtain ⟨n,hn1⟩:∃ n:Nat,(kL x.op).1=n:=⟨(kL x.op).1.toNat,by omega⟩;rw [hn1] at hk hn h0 ⊢;rw [Int.toNat_natCast] at hk hn;refine ⟨λv w'=>v=i64 (if (kL x.op).2 then 10+((h:Int) - (n:Int)) else -1)/\w'=w1,?_,?_⟩
 ·cases h2:(kL x.op).2 with
  | true=>
   refine aS.2 (iL.2 ?_);rw [aU (by omega)];exact mB (by omega) ⟨rfl,rfl⟩
  | false=>exact aD.2 ⟨rfl,rfl⟩
 rintro _ w9 ⟨rfl,hw⟩ _;have hw:=hw.symm;subst hw;have D1:aE w1 w1.drew:=(aE.refl _).drew;refine aJ.mk' (λw'=>aE w1 w') D1 ?_;refine gY (λw' hw=>hb1.ext hw) aT aF rfl (gY (λw' hw=>hb1.ext hw) aR aF rfl (gY (λw' hw=>hb1.ext hw) gJ aF rfl ?_));refine VV hn hh λv w2 ho x2=>⟨D1.trans x2,?_⟩;refine mN aNa [(0,i64 x.op),(1,i64 x.a),(2,i64 x.b),(3,i64 _),(4,v)] rfl (by simp [oA ho,uX]) (nJ aLb ?_);refine hk _ _ ⟨v,rfl,aX ho (x1.trans D1).size⟩ ((x1.trans D1).trans x2)
theorem aKy {row:List Z} {m:gA} {h:Nat} (hA:gZ w p i) (hm:iO w row m) (hx:rT i m x) (hh:h<=8) (ha:(aI i m x).length<=h) (hk:∀ v w',LN w.heap.size w' v (eU i m x h)->aE w w'->K v w') :
  aB prog 76 #[p.val i,.agg row.toArray,.agg #[i64 x.op,i64 x.a,i64 x.b],i64 h] w K:=by
 obtain ⟨op,a,b⟩:=x;obtain ⟨ir,mr,⟨ho,a1,a2,_⟩,hn⟩:=hx;obtain ⟨pv,lv,cv,rfl,hp,hl,hc⟩:=hm;have ho:1<=op/\op<=39:=ho;apply aOi;unfold RE fZ.val;refine bx λb4 w1 hb4 x1=>bx λb5 w2 hb5 x2=>bx λb6 w3 hb6 x3=>?_;have hb4:fB w3 b4 [.string i.name,p.fv,p.iv,p.mv,p.xv]:=(hb4.ext x2).ext x3;have hb5:fB w3 b5 [pv,i64 m.result,lv,cv]:=hb5.ext x3;have hb6:fB w3 b6 [i64 op,i64 a,i64 b]:=hb6;have xx:=(x1.trans x2).trans x3;have hA:=hA.ext xx;refine bQ hb6 aT aF rfl ?_;have D1:aE w3 w3.drew:=(aE.refl _).drew;have xd:=xx.trans D1;rcases vL ho with rfl|rfl|rfl|rfl|rfl|rfl|rfl|rfl|rfl|rfl|rfl|rfl|rfl|rfl|rfl|rfl|rfl|rfl|rfl|rfl|rfl|rfl|rfl|rfl|rfl|rfl|rfl|rfl|rfl|rfl|rfl|rfl|rfl|rfl|rfl|rfl|rfl|rfl|rfl
 ·simp only [aN,Int.reduceEq]
  intros
  refine aJ.mk' (λw'=>aE w3 w') D1 ?_;refine gY (λw' hw=>hb6.ext hw) aR aF rfl ?_;refine aC.ok (λw' _=>jK underlying3 underlying21) ?_;refine mB (by omega) ⟨D1,?_⟩;refine mN yL [(0,i64 (10+(h:Int))),(1,i32 (IntKind.i32.wrap a))] rfl rfl (nJ DD ?_);exact hk _ _ (iD rfl rfl) xd
 ·simp only [aN,Int.reduceEq]
  intros
  refine aJ.mk' (λw'=>aE w3 w') D1 ?_;refine gY (λw' hw=>hb6.ext hw) aR aF rfl ?_;refine mB (by omega) ⟨D1,?_⟩;refine mN NX [(0,i64 (10+(h:Int))),(1,i64 a)] rfl rfl (nJ MV ?_);exact hk _ _ (iD rfl rfl) xd
 ·simp only [aN,Int.reduceEq]
  intros
  refine aJ.mk' (λw'=>aE w3 w') D1 ?_;refine gY (λw' hw=>hb6.ext hw) aR aF rfl ?_;refine aC.ok (λw' _=>fJ) ?_;rw [aU (by omega)];refine mB (by omega) ⟨D1,?_⟩;refine mN NX [(0,i64 a),(1,i64 (10+((h:Int) - 1)))] rfl rfl (nJ MV ?_);exact hk _ _ (iD rfl rfl) xd
 ·simp only [aN,Int.reduceEq]
  intros
  exact hk _ _ rfl xx
 ·simp only [aN,Int.reduceEq]
  intros
  refine mB (by omega) ?_;refine iL.2 ?_;rw [aU (by omega)];refine mB (by omega) ?_;refine kO NX [(0,i64 (10+(h:Int))),(1,i64 (10+((h:Int) - 1)))] rfl rfl (XG MV ?_);exact hk _ _ (iD rfl rfl) xx
 ·simp only [aN,Int.reduceEq]
  intros
  refine lF hb6 gU rfl ?_;refine gP (x:=⟨6,a,b⟩) (show _<=h from Nat.zero_le _) (by omega) λv w4 hv x4=>?_;have hv:v=Value.nilIface:=hv;subst hv;refine V.ok (gW underlying94) (aD.2 ?_);have D4:aE w4 w4.drew:=(aE.refl _).drew;refine aJ.mk' (λw'=>aE w4 w') D4 ?_;refine gY (λw' hw=>(hb6.ext x4).ext hw) aT aF rfl ?_;refine aC.ok (λw' _=>fJ) ?_;rw [aU (by omega)];refine aC.ok (λw' _=>fJ) ?_;rw [aU (by omega)];refine aC.ok (λw' _=>fJ) ?_;rw [aU (by omega)];refine mB (by omega) ⟨D4,?_⟩;refine mB (by omega) ⟨D4,?_⟩;refine mB (by omega) ⟨D4,?_⟩;refine mN nM [(0,i64 6),(1,i64 (10+((h:Int) - 2))),(2,i64 (10+((h:Int) - 2))),(3,i64 (10+((h:Int) - 1)))] rfl rfl (nJ nK ?_);exact hk _ _ (iD rfl rfl) ((xx.trans x4).trans D4)
 ·simp only [aN,Int.reduceEq]
  intros
  refine lF hb6 gU rfl ?_;refine gP (x:=⟨7,a,b⟩) (show _<=h from Nat.zero_le _) (by omega) λv w4 hv x4=>?_;have hv:v=Value.nilIface:=hv;subst hv;refine V.ok (gW underlying94) (aD.2 ?_);have D4:aE w4 w4.drew:=(aE.refl _).drew;refine aJ.mk' (λw'=>aE w4 w') D4 ?_;refine gY (λw' hw=>(hb6.ext x4).ext hw) aT aF rfl ?_;refine aC.ok (λw' _=>fJ) ?_;rw [aU (by omega)];refine aC.ok (λw' _=>fJ) ?_;rw [aU (by omega)];refine aC.ok (λw' _=>fJ) ?_;rw [aU (by omega)];refine mB (by omega) ⟨D4,?_⟩;refine mB (by omega) ⟨D4,?_⟩;refine mB (by omega) ⟨D4,?_⟩;refine mN nM [(0,i64 7),(1,i64 (10+((h:Int) - 2))),(2,i64 (10+((h:Int) - 2))),(3,i64 (10+((h:Int) - 1)))] rfl rfl (nJ nK ?_);exact hk _ _ (iD rfl rfl) ((xx.trans x4).trans D4)
 ·simp only [aN,Int.reduceEq]
  intros
  refine lF hb6 gU rfl ?_;refine gP (x:=⟨8,a,b⟩) (show _<=h from Nat.zero_le _) (by omega) λv w4 hv x4=>?_;have hv:v=Value.nilIface:=hv;subst hv;refine V.ok (gW underlying94) (aD.2 ?_);have D4:aE w4 w4.drew:=(aE.refl _).drew;refine aJ.mk' (λw'=>aE w4 w') D4 ?_;refine gY (λw' hw=>(hb6.ext x4).ext hw) aT aF rfl ?_;refine aC.ok (λw' _=>fJ) ?_;rw [aU (by omega)];refine aC.ok (λw' _=>fJ) ?_;rw [aU (by omega)];refine aC.ok (λw' _=>fJ) ?_;rw [aU (by omega)];refine mB (by omega) ⟨D4,?_⟩;refine mB (by omega) ⟨D4,?_⟩;refine mB (by omega) ⟨D4,?_⟩;refine mN nM [(0,i64 8),(1,i64 (10+((h:Int) - 2))),(2,i64 (10+((h:Int) - 2))),(3,i64 (10+((h:Int) - 1)))] rfl rfl (nJ nK ?_);exact hk _ _ (iD rfl rfl) ((xx.trans x4).trans D4)
 ·simp only [aN,Int.reduceEq]
  intros
  refine lF hb6 gU rfl ?_;refine gP (x:=⟨9,a,b⟩) (show _<=h from Nat.zero_le _) (by omega) λv w4 hv x4=>?_;have hv:v=Value.nilIface:=hv;subst hv;refine V.ok (gW underlying94) (aD.2 ?_);have D4:aE w4 w4.drew:=(aE.refl _).drew;refine aJ.mk' (λw'=>aE w4 w') D4 ?_;refine gY (λw' hw=>(hb6.ext x4).ext hw) aT aF rfl ?_;refine aC.ok (λw' _=>fJ) ?_;rw [aU (by omega)];refine aC.ok (λw' _=>fJ) ?_;rw [aU (by omega)];refine aC.ok (λw' _=>fJ) ?_;rw [aU (by omega)];refine mB (by omega) ⟨D4,?_⟩;refine mB (by omega) ⟨D4,?_⟩;refine mB (by omega) ⟨D4,?_⟩;refine mN nM [(0,i64 9),(1,i64 (10+((h:Int) - 2))),(2,i64 (10+((h:Int) - 2))),(3,i64 (10+((h:Int) - 1)))] rfl rfl (nJ nK ?_);exact hk _ _ (iD rfl rfl) ((xx.trans x4).trans D4)
 ·simp only [aN,Int.reduceEq]
  intros
  refine lF hb6 gU rfl ?_;refine gP (x:=⟨10,a,b⟩) (show _<=h from Nat.zero_le _) (by omega) λv w4 hv x4=>?_;have hv:v=Value.nilIface:=hv;subst hv;refine V.ok (gW underlying94) (aD.2 ?_);have D4:aE w4 w4.drew:=(aE.refl _).drew;refine aJ.mk' (λw'=>aE w4 w') D4 ?_;refine gY (λw' hw=>(hb6.ext x4).ext hw) aT aF rfl ?_;refine aC.ok (λw' _=>fJ) ?_;rw [aU (by omega)];refine aC.ok (λw' _=>fJ) ?_;rw [aU (by omega)];refine aC.ok (λw' _=>fJ) ?_;rw [aU (by omega)];refine mB (by omega) ⟨D4,?_⟩;refine mB (by omega) ⟨D4,?_⟩;refine mB (by omega) ⟨D4,?_⟩;refine mN nM [(0,i64 10),(1,i64 (10+((h:Int) - 2))),(2,i64 (10+((h:Int) - 2))),(3,i64 (10+((h:Int) - 1)))] rfl rfl (nJ nK ?_);exact hk _ _ (iD rfl rfl) ((xx.trans x4).trans D4)
 ·simp only [aN,Int.reduceEq]
  intros
  refine lF hb6 gU rfl ?_;refine gP (x:=⟨11,a,b⟩) (show _<=h from Nat.zero_le _) (by omega) λv w4 hv x4=>?_;have hv:v=Value.nilIface:=hv;subst hv;refine V.ok (gW underlying94) (aD.2 ?_);have D4:aE w4 w4.drew:=(aE.refl _).drew;refine aJ.mk' (λw'=>aE w4 w') D4 ?_;refine gY (λw' hw=>(hb6.ext x4).ext hw) aT aF rfl ?_;refine aC.ok (λw' _=>fJ) ?_;rw [aU (by omega)];refine aC.ok (λw' _=>fJ) ?_;rw [aU (by omega)];refine aC.ok (λw' _=>fJ) ?_;rw [aU (by omega)];refine mB (by omega) ⟨D4,?_⟩;refine mB (by omega) ⟨D4,?_⟩;refine mB (by omega) ⟨D4,?_⟩;refine mN nM [(0,i64 11),(1,i64 (10+((h:Int) - 2))),(2,i64 (10+((h:Int) - 2))),(3,i64 (10+((h:Int) - 1)))] rfl rfl (nJ nK ?_);exact hk _ _ (iD rfl rfl) ((xx.trans x4).trans D4)
 ·simp only [aN,Int.reduceEq]
  intros
  refine lF hb6 gU rfl ?_;refine gP (x:=⟨12,a,b⟩) (show _<=h from Nat.zero_le _) (by omega) λv w4 hv x4=>?_;have hv:v=Value.nilIface:=hv;subst hv;refine V.ok (gW underlying94) (aD.2 ?_);have D4:aE w4 w4.drew:=(aE.refl _).drew;refine aJ.mk' (λw'=>aE w4 w') D4 ?_;refine gY (λw' hw=>(hb6.ext x4).ext hw) aT aF rfl ?_;refine aC.ok (λw' _=>fJ) ?_;rw [aU (by omega)];refine aC.ok (λw' _=>fJ) ?_;rw [aU (by omega)];refine aC.ok (λw' _=>fJ) ?_;rw [aU (by omega)];refine mB (by omega) ⟨D4,?_⟩;refine mB (by omega) ⟨D4,?_⟩;refine mB (by omega) ⟨D4,?_⟩;refine mN nM [(0,i64 12),(1,i64 (10+((h:Int) - 2))),(2,i64 (10+((h:Int) - 2))),(3,i64 (10+((h:Int) - 1)))] rfl rfl (nJ nK ?_);exact hk _ _ (iD rfl rfl) ((xx.trans x4).trans D4)
 ·simp only [aN,Int.reduceEq]
  intros
  refine lF hb6 gU rfl ?_;refine gP (x:=⟨13,a,b⟩) (show _<=h from Nat.zero_le _) (by omega) λv w4 hv x4=>?_;have hv:v=Value.nilIface:=hv;subst hv;refine V.ok (gW underlying94) (aD.2 ?_);have D4:aE w4 w4.drew:=(aE.refl _).drew;refine aJ.mk' (λw'=>aE w4 w') D4 ?_;refine gY (λw' hw=>(hb6.ext x4).ext hw) aT aF rfl ?_;refine aC.ok (λw' _=>fJ) ?_;rw [aU (by omega)];refine aC.ok (λw' _=>fJ) ?_;rw [aU (by omega)];refine aC.ok (λw' _=>fJ) ?_;rw [aU (by omega)];refine mB (by omega) ⟨D4,?_⟩;refine mB (by omega) ⟨D4,?_⟩;refine mB (by omega) ⟨D4,?_⟩;refine mN nM [(0,i64 13),(1,i64 (10+((h:Int) - 2))),(2,i64 (10+((h:Int) - 2))),(3,i64 (10+((h:Int) - 1)))] rfl rfl (nJ nK ?_);exact hk _ _ (iD rfl rfl) ((xx.trans x4).trans D4)
 ·simp only [aN,Int.reduceEq]
  intros
  refine lF hb6 gU rfl ?_;refine gP (x:=⟨14,a,b⟩) (show _<=h from Nat.zero_le _) (by omega) λv w4 hv x4=>?_;have hv:v=Value.nilIface:=hv;subst hv;refine V.ok (gW underlying94) (aD.2 ?_);have D4:aE w4 w4.drew:=(aE.refl _).drew;refine aJ.mk' (λw'=>aE w4 w') D4 ?_;refine gY (λw' hw=>(hb6.ext x4).ext hw) aT aF rfl ?_;refine aC.ok (λw' _=>fJ) ?_;rw [aU (by omega)];refine aC.ok (λw' _=>fJ) ?_;rw [aU (by omega)];refine aC.ok (λw' _=>fJ) ?_;rw [aU (by omega)];refine mB (by omega) ⟨D4,?_⟩;refine mB (by omega) ⟨D4,?_⟩;refine mB (by omega) ⟨D4,?_⟩;refine mN nM [(0,i64 14),(1,i64 (10+((h:Int) - 2))),(2,i64 (10+((h:Int) - 2))),(3,i64 (10+((h:Int) - 1)))] rfl rfl (nJ nK ?_);exact hk _ _ (iD rfl rfl) ((xx.trans x4).trans D4)
 ·simp only [aN,Int.reduceEq]
  intros
  refine aJ.mk' (λw'=>aE w3 w') D1 ?_;refine gY (λw' hw=>hb6.ext hw) aT aF rfl ?_;refine aC.ok (λw' _=>fJ) ?_;rw [aU (by omega)];refine aC.ok (λw' _=>fJ) ?_;rw [aU (by omega)];refine mB (by omega) ⟨D1,?_⟩;refine mB (by omega) ⟨D1,?_⟩;refine mN NW [(0,i64 15),(1,i64 (10+((h:Int) - 1))),(2,i64 (10+((h:Int) - 1)))] rfl rfl (nJ MU ?_);exact hk _ _ (iD rfl rfl) xd
 ·simp only [aN,Int.reduceEq]
  intros
  refine aJ.mk' (λw'=>aE w3 w') D1 ?_;refine gY (λw' hw=>hb6.ext hw) aT aF rfl ?_;refine aC.ok (λw' _=>fJ) ?_;rw [aU (by omega)];refine aC.ok (λw' _=>fJ) ?_;rw [aU (by omega)];refine mB (by omega) ⟨D1,?_⟩;refine mB (by omega) ⟨D1,?_⟩;refine mN NW [(0,i64 16),(1,i64 (10+((h:Int) - 1))),(2,i64 (10+((h:Int) - 1)))] rfl rfl (nJ MU ?_);exact hk _ _ (iD rfl rfl) xd
 ·simp only [aN,Int.reduceEq]
  intros
  refine lF hb6 gU rfl ?_;refine gP (x:=⟨17,a,b⟩) (show _<=h from ha) (by omega) λv w4 hv x4=>?_;obtain ⟨sv,rfl,hsv⟩:=(hv:kJ w3.heap.size w4 v _);refine V.ok (gR underlying94) (aS.2 ?_);exact hk _ _ ⟨sv,rfl,aX hsv xx.size⟩ (xx.trans x4)
 ·simp only [aN,Int.reduceEq]
  intros
  refine lF hb6 gU rfl ?_;refine gP (x:=⟨18,a,b⟩) (show _<=h from ha) (by omega) λv w4 hv x4=>?_;obtain ⟨sv,rfl,hsv⟩:=(hv:kJ w3.heap.size w4 v _);refine V.ok (gR underlying94) (aS.2 ?_);exact hk _ _ ⟨sv,rfl,aX hsv xx.size⟩ (xx.trans x4)
 ·simp only [aN,Int.reduceEq]
  intros
  refine lF hb6 gU rfl ?_;refine gP (x:=⟨19,a,b⟩) (show _<=h from Nat.zero_le _) (by omega) λv w4 hv x4=>?_;have hv:v=Value.nilIface:=hv;subst hv;refine V.ok (gW underlying94) (aD.2 ?_);have D4:aE w4 w4.drew:=(aE.refl _).drew;refine aJ.mk' (λw'=>aE w4 w') D4 ?_;refine gY (λw' hw=>(hb6.ext x4).ext hw) aT aF rfl ?_;refine aC.ok (λw' _=>fJ) ?_;rw [aU (by omega)];refine aC.ok (λw' _=>fJ) ?_;rw [aU (by omega)];refine aC.ok (λw' _=>fJ) ?_;rw [aU (by omega)];refine mB (by omega) ⟨D4,?_⟩;refine mB (by omega) ⟨D4,?_⟩;refine mB (by omega) ⟨D4,?_⟩;refine mN nM [(0,i64 19),(1,i64 (10+((h:Int) - 2))),(2,i64 (10+((h:Int) - 2))),(3,i64 (10+((h:Int) - 1)))] rfl rfl (nJ nK ?_);exact hk _ _ (iD rfl rfl) ((xx.trans x4).trans D4)
 ·simp only [aN,Int.reduceEq]
  intros
  refine lF hb6 gU rfl ?_;refine gP (x:=⟨20,a,b⟩) (show _<=h from Nat.zero_le _) (by omega) λv w4 hv x4=>?_;have hv:v=Value.nilIface:=hv;subst hv;refine V.ok (gW underlying94) (aD.2 ?_);have D4:aE w4 w4.drew:=(aE.refl _).drew;refine aJ.mk' (λw'=>aE w4 w') D4 ?_;refine gY (λw' hw=>(hb6.ext x4).ext hw) aT aF rfl ?_;refine aC.ok (λw' _=>fJ) ?_;rw [aU (by omega)];refine aC.ok (λw' _=>fJ) ?_;rw [aU (by omega)];refine aC.ok (λw' _=>fJ) ?_;rw [aU (by omega)];refine mB (by omega) ⟨D4,?_⟩;refine mB (by omega) ⟨D4,?_⟩;refine mB (by omega) ⟨D4,?_⟩;refine mN nM [(0,i64 20),(1,i64 (10+((h:Int) - 2))),(2,i64 (10+((h:Int) - 2))),(3,i64 (10+((h:Int) - 1)))] rfl rfl (nJ nK ?_);exact hk _ _ (iD rfl rfl) ((xx.trans x4).trans D4)
 ·simp only [aN,Int.reduceEq]
  intros
  refine lF hb6 gU rfl ?_;refine gP (x:=⟨21,a,b⟩) (show _<=h from Nat.zero_le _) (by omega) λv w4 hv x4=>?_;have hv:v=Value.nilIface:=hv;subst hv;refine V.ok (gW underlying94) (aD.2 ?_);have D4:aE w4 w4.drew:=(aE.refl _).drew;refine aJ.mk' (λw'=>aE w4 w') D4 ?_;refine gY (λw' hw=>(hb6.ext x4).ext hw) aT aF rfl ?_;refine aC.ok (λw' _=>fJ) ?_;rw [aU (by omega)];refine aC.ok (λw' _=>fJ) ?_;rw [aU (by omega)];refine aC.ok (λw' _=>fJ) ?_;rw [aU (by omega)];refine mB (by omega) ⟨D4,?_⟩;refine mB (by omega) ⟨D4,?_⟩;refine mB (by omega) ⟨D4,?_⟩;refine mN nM [(0,i64 21),(1,i64 (10+((h:Int) - 2))),(2,i64 (10+((h:Int) - 2))),(3,i64 (10+((h:Int) - 1)))] rfl rfl (nJ nK ?_);exact hk _ _ (iD rfl rfl) ((xx.trans x4).trans D4)
 ·simp only [aN,Int.reduceEq]
  intros
  refine iL.2 ?_;rw [aU (by omega)];refine mB (by omega) ?_;refine iL.2 ?_;rw [aU (by omega)];refine mB (by omega) ?_;refine iL.2 ?_;rw [aU (by omega)];refine mB (by omega) ?_;refine iL.2 ?_;rw [aU (by omega)];refine mB (by omega) ?_;refine kO aNi [(0,i64 (10+((h:Int) - 3))),(1,i64 (10+((h:Int) - 3))),(2,i64 (10+((h:Int) - 2))),(3,i64 (10+((h:Int) - 1)))] rfl rfl (XG aLg ?_);exact hk _ _ (iD rfl rfl) xx
 ·simp only [aN,Int.reduceEq]
  intros
  refine bQ hb6 aR aF rfl ?_;refine kO aNh [(0,i64 a)] rfl rfl (XG XI ?_);exact hk _ _ (iD rfl rfl) xx
 ·simp only [aN,Int.reduceEq]
  intros
  refine aJ.mk' (λw'=>aE w3 w') D1 ?_;refine aC.ok (λw' _=>fJ) ?_;rw [aU (by omega)];refine gY (λw' hw=>hb6.ext hw) aR aF rfl ?_;refine mB (by omega) ⟨D1,?_⟩;refine mN aNg [(0,i64 (10+((h:Int) - 1))),(1,i64 a)] rfl rfl (nJ XH ?_);exact hk _ _ (iD rfl rfl) xd
 ·simp only [aN,Int.reduceEq]
  intros
  refine mB (by omega) ?_;refine kO yL [(0,i64 (10+(h:Int)))] rfl rfl (XG DD ?_);exact hk _ _ (iD rfl rfl) xx
 ·simp only [aN,Int.reduceEq]
  intros
  refine aJ.mk' (λw'=>aE w3 w') D1 ?_;refine gY (λw' hw=>hb6.ext hw) aT aF rfl ?_;refine aC.ok (λw' _=>fJ) ?_;rw [aU (by omega)];refine aC.ok (λw' _=>fJ) ?_;rw [aU (by omega)];refine mB (by omega) ⟨D1,?_⟩;refine mB (by omega) ⟨D1,?_⟩;refine mN NW [(0,i64 26),(1,i64 (10+((h:Int) - 1))),(2,i64 (10+((h:Int) - 1)))] rfl rfl (nJ MU ?_);exact hk _ _ (iD rfl rfl) xd
 ·simp only [aN,Int.reduceEq]
  intros
  refine lF hb6 gU rfl ?_;refine gP (x:=⟨27,a,b⟩) (show _<=h from ha) (by omega) λv w4 hv x4=>?_;obtain ⟨sv,rfl,hsv⟩:=(hv:kJ w3.heap.size w4 v _);refine V.ok (gR underlying94) (aS.2 ?_);exact hk _ _ ⟨sv,rfl,aX hsv xx.size⟩ (xx.trans x4)
 ·simp only [aN,Int.reduceEq]
  intros
  refine lF hb6 gU rfl ?_;refine gP (x:=⟨28,a,b⟩) (show _<=h from ha) (by omega) λv w4 hv x4=>?_;obtain ⟨sv,rfl,hsv⟩:=(hv:kJ w3.heap.size w4 v _);refine V.ok (gR underlying94) (aS.2 ?_);exact hk _ _ ⟨sv,rfl,aX hsv xx.size⟩ (xx.trans x4)
 ·simp only [aN,Int.reduceEq]
  intros
  refine lF hb6 gU rfl ?_;refine gP (x:=⟨29,a,b⟩) (show _<=h from ha) (by omega) λv w4 hv x4=>?_;obtain ⟨sv,rfl,hsv⟩:=(hv:kJ w3.heap.size w4 v _);refine V.ok (gR underlying94) (aS.2 ?_);exact hk _ _ ⟨sv,rfl,aX hsv xx.size⟩ (xx.trans x4)
 ·simp only [aN,Int.reduceEq]
  intros
  refine lF hb6 gU rfl ?_;refine gP (x:=⟨30,a,b⟩) (show _<=h from ha) (by omega) λv w4 hv x4=>?_;obtain ⟨sv,rfl,hsv⟩:=(hv:kJ w3.heap.size w4 v _);refine V.ok (gR underlying94) (aS.2 ?_);exact hk _ _ ⟨sv,rfl,aX hsv xx.size⟩ (xx.trans x4)
 ·simp only [aN,Int.reduceEq]
  intros
  refine lF hb6 gU rfl ?_;refine gP (x:=⟨31,a,b⟩) (show _<=h from ha) (by omega) λv w4 hv x4=>?_;obtain ⟨sv,rfl,hsv⟩:=(hv:kJ w3.heap.size w4 v _);refine V.ok (gR underlying94) (aS.2 ?_);exact hk _ _ ⟨sv,rfl,aX hsv xx.size⟩ (xx.trans x4)
 ·simp only [aN,Int.reduceEq]
  intros
  refine lF hb6 gU rfl ?_;refine gP (x:=⟨32,a,b⟩) (show _<=h from ha) (by omega) λv w4 hv x4=>?_;obtain ⟨sv,rfl,hsv⟩:=(hv:kJ w3.heap.size w4 v _);refine V.ok (gR underlying94) (aS.2 ?_);exact hk _ _ ⟨sv,rfl,aX hsv xx.size⟩ (xx.trans x4)
 ·simp only [aN,Int.reduceEq]
  intros
  refine aJ.mk' (λw'=>aE w3 w') D1 ?_;refine gY (λw' hw=>hb6.ext hw) aR aF rfl ?_;refine mB (by omega) ⟨D1,?_⟩;refine mN aNf [(0,i64 (10+(h:Int))),(1,i64 a)] rfl rfl (nJ aLf ?_);exact hk _ _ (iD rfl rfl) xd
 ·simp only [aN,Int.reduceEq]
  intros
  refine aJ.mk' (λw'=>aE w3 w') D1 ?_;refine gY (λw' hw=>hb6.ext hw) aR aF rfl ?_;refine aC.ok (λw' _=>fJ) ?_;rw [aU (by omega)];refine mB (by omega) ⟨D1,?_⟩;refine mN aRz [(0,i64 a),(1,i64 (10+((h:Int) - 1)))] rfl rfl (nJ aRh ?_);exact hk _ _ (iD rfl rfl) xd
 ·simp only [aN,Int.reduceEq]
  intros
  refine aJ.mk' (λw'=>aE w3 w') D1 ?_;refine gY (λw' hw=>hb6.ext hw) aR aF rfl ?_;refine aC.ok (λw' _=>jK underlying3 underlying21) ?_;refine mB (by omega) ⟨D1,?_⟩;refine mN yL [(0,i64 (10+(h:Int))),(1,i32 (IntKind.i32.wrap a))] rfl rfl (nJ DD ?_);exact hk _ _ (iD rfl rfl) xd
 ·simp only [aN,Int.reduceEq]
  intros
  refine lF hb6 gU rfl ?_;refine gP (x:=⟨36,a,b⟩) (show _<=h from ha) (by omega) λv w4 hv x4=>?_;obtain ⟨sv,rfl,hsv⟩:=(hv:kJ w3.heap.size w4 v _);refine V.ok (gR underlying94) (aS.2 ?_);exact hk _ _ ⟨sv,rfl,aX hsv xx.size⟩ (xx.trans x4)
 ·simp only [aN,Int.reduceEq]
  intros
  have a1:0<=a:=a1;have hn:a < (i.methods.length:Int):=hn;have ha:(i.meth a).params.length<=h:=ha;refine bQ hb4 bF fS rfl (bQ hb6 aR aF rfl ?_);obtain ⟨ka,rfl⟩:∃ ka:Nat,a=ka:=⟨a.toNat,by omega⟩;have hmi:=iI a1 hn;rw [Int.toNat_natCast] at hmi;refine XP iA lV hA.mt hmi oI λrow hrow=>?_;obtain ⟨pv9,lv9,cv9,rfl,hp9,_,_⟩:=hrow;obtain ⟨a7,c7,rfl⟩:=hp9.shape
  rename_i hl9 hc9
  obtain ⟨a8,c8,rfl⟩:=hl9.shape;obtain ⟨a9,c9,rfl⟩:=aA.shape hc9;refine pX AE rfl rfl λb9 w9 hb9 x9=>?_;have hb9:fB w9 b9 [.slice a7 (i.meth (ka:Int)).params.length c7,i64 (i.meth (ka:Int)).result,.slice a8 (i.meth (ka:Int)).locals.length c8,.slice a9 (i.meth (ka:Int)).code.length c9]:=hb9;have D9:aE w9 w9.drew:=(aE.refl _).drew;have xd9:=(xx.trans x9).trans D9;have hp9:=(hp9.ext x9).ext D9;refine aJ.mk' (λw'=>aE w9 w') D9 ?_;refine gY (λw' hw=>(hb6.ext x9).ext hw) aR aF rfl ?_;refine gY (λw' hw=>hb9.ext hw) eX aF rfl ?_;refine gY (λw' hw=>hb9.ext hw) dR bJ rfl (qH aM hp9 ?_);refine aC.ok (λw' _=>fJ) ?_;rw [aU (by omega)];refine gY (λw' hw=>hb9.ext hw) dR bJ rfl (qH aM hp9 ?_);refine wX (by omega) ⟨D9,?_⟩;refine VV ha (by omega) λv w10 ho10 x10=>⟨D9.trans x10,?_⟩;refine mN aNe [(0,i64 (ka:Nat)),(1,i64 _),(2,v)] rfl (by simp [oA ho10,uX]) (nJ aLe ?_);exact hk _ _ ⟨v,rfl,aX ho10 xd9.size⟩ (xd9.trans x10)
 ·simp only [aN,Int.reduceEq]
  intros
  have a1:0<=a:=a1;have hn:a < (i.imports.length:Int):=hn;have ha:(i.imp a).params.length<=h:=ha;refine bQ hb4 dI iB rfl (bQ hb6 aR aF rfl ?_);obtain ⟨ka,rfl⟩:∃ ka:Nat,a=ka:=⟨a.toNat,by omega⟩;have hmi:=pU a1 hn;rw [Int.toNat_natCast] at hmi;refine XP lH DI hA.im hmi vV λrow hrow=>?_;obtain ⟨pv9,rfl,hp9⟩:=hrow;obtain ⟨a7,c7,rfl⟩:=hp9.shape;refine pX qM rfl rfl λb9 w9 hb9 x9=>?_;have hb9:fB w9 b9 [.string (i.imp (ka:Int)).name,i64 (i.imp (ka:Int)).exp,.slice a7 (i.imp (ka:Int)).params.length c7,i64 (i.imp (ka:Int)).result]:=hb9;have D9:aE w9 w9.drew:=(aE.refl _).drew;have xd9:=(xx.trans x9).trans D9;have hp9:=(hp9.ext x9).ext D9;refine aJ.mk' (λw'=>aE w9 w') D9 ?_;refine gY (λw' hw=>(hb6.ext x9).ext hw) aR aF rfl ?_;refine gY (λw' hw=>hb9.ext hw) bD aF rfl ?_;refine gY (λw' hw=>hb9.ext hw) bA bJ rfl (qH aM hp9 ?_);refine aC.ok (λw' _=>fJ) ?_;rw [aU (by omega)];refine gY (λw' hw=>hb9.ext hw) bA bJ rfl (qH aM hp9 ?_);refine wX (by omega) ⟨D9,?_⟩;refine VV ha (by omega) λv w10 ho10 x10=>⟨D9.trans x10,?_⟩;refine mN aNd [(0,i64 (ka:Nat)),(1,i64 _),(2,v)] rfl (by simp [oA ho10,uX]) (nJ aLd ?_);exact hk _ _ ⟨v,rfl,aX ho10 xd9.size⟩ (xd9.trans x10)
 ·simp only [aN,Int.reduceEq]
  intros
  refine bQ hb5 eX aF rfl ?_;refine iL.2 ?_;rw [aU (by omega)];refine wX (by omega) ?_;refine kO aNc [(0,i64 _)] rfl rfl (XG aLc ?_);exact hk _ _ (iD rfl rfl) xx
def lJ (st:List Int):aL->aL
 | .goto t=>.goto (cT st t.toNat)
 | .branch c t=>.branch c (cT st t.toNat)
 | n=>n
def QO (st:List Int):aL->Prop
 | .goto t=>0<=t/\t < st.length
 | .branch _ t=>0<=t/\t < st.length
 | _=>True
theorem aDk {av sv:Z} {st:List Int} (hs:aQ w sv st) (hb:QO st n) (hk:∀ w',aE w w'->K ((lJ st n).val av) w'):aB prog 77 #[n.val av,sv] w K:=by
 apply aOh;unfold tX
 have other:∀ {t:Nat} {c:Array Z},t≠228->t≠230->n.val av=.iface t (.agg c)->lJ st n=n->tX (n.val av) sv w K:=λh1 h2 he h3=>by
  unfold tX;rw [he];refine tm iH h1 λ_ _ _=>?_;refine tm jF h2 λ_ _ _=>?_;rw [h3,he] at hk;exact hk _ (aE.refl _)
 unfold tX at other;cases n with
 | goto t=>
  obtain ⟨h0,h1⟩:=hb;refine th iH ?_;refine UP pM rfl rfl λw1 hB x1=>?_;have hB:dW w1 w.heap.size [i64 t] 228:=hB;refine bQ (dW.boxed hB) bX aF rfl ?_;obtain ⟨t,rfl⟩:∃ q:Nat,t=q:=⟨t.toNat,by omega⟩;refine kP aM aF (hs.ext x1) (by omega) (by omega) (fD (jW (by omega))) ?_;refine CK bX fX hB (n:=1) rfl (by decide) rfl ?_;have hB2:=hB.set 0 (i64 (cT st t));have x2:aE w (w1.setCell ⟨w.heap.size,0,none⟩ (i64 (cT st t))):=x1.setCell (Nat.le_refl _) _;generalize w1.setCell ⟨w.heap.size,0,none⟩ (i64 (cT st t))=w2 at hB2 x2;refine lF (dW.boxed hB2) aLp rfl (XG XI ?_);exact hk _ x2
 | branch c t=>
  obtain ⟨h0,h1⟩:=hb;refine tm iH (by decide) λ_ _ _=>?_;refine th jF ?_;refine UP pL rfl rfl λw1 hB x1=>?_;have hB:dW w1 w.heap.size [i64 c,i64 t] 230:=hB;refine bQ (dW.boxed hB) bW aF rfl ?_;obtain ⟨t,rfl⟩:∃ q:Nat,t=q:=⟨t.toNat,by omega⟩;refine kP aM aF (hs.ext x1) (by omega) (by omega) (fD (jW (by omega))) ?_;refine CK bW fX hB (n:=2) rfl (by decide) rfl ?_;have hB2:=hB.set 1 (i64 (cT st t));have x2:aE w (w1.setCell ⟨w.heap.size,1,none⟩ (i64 (cT st t))):=x1.setCell (Nat.le_refl _) _;generalize w1.setCell ⟨w.heap.size,1,none⟩ (i64 (cT st t))=w2 at hB2 x2;refine lF (dW.boxed hB2) aLo rfl (XG XH ?_);exact hk _ x2
 | _=>exact other (by decide) (by decide) rfl rfl
end Go.Proofs.YtgkkecladbmjkaaGreatDoor
namespace Go.Tc
def cf (r:List Bool):Nat:=r.countP (· == false)
theorem aMx {r:List Bool} {k:Nat} (hk:k < r.length) (h:r.getD k false=false):cf (r.set k true)+1=cf r:=by
 have e:r[k]=false:=by
  rw [List.getD_eq_getElem?_getD,List.getElem?_eq_getElem hk] at h;exact h
 have h1:0 < r.countP (· == false):=List.countP_pos_iff.2 ⟨r[k],List.getElem_mem hk,by rw [e];rfl⟩
 have h2:(r.set k true).countP (· == false)=r.countP (· == false) - 1+0:=by
  rw [List.countP_set hk,e];rfl
 unfold cf;omega
def WO (x:gN) (pc:Nat):List Int:=(if x.op=23\/x.op=24 then [x.a] else [])++(if x.op≠23/\x.op≠39 then [(pc:Int)+1] else [])
theorem WN {x:gN} {pc:Nat} {t:Int}:t∈WO x pc↔t∈fK x pc:=by
 unfold WO fK;by_cases c1:x.op=23
 ·simp [c1]
 by_cases c2:x.op=24
 ·simp [c2];exact Or.comm
 by_cases c3:x.op=39
 ·simp [c3]
 ·simp [c1,c2,c3]
end Go.Tc
namespace Go.Proofs.YtgkkecladbmjkaaGreatDoor
open Tryz
open Go.Vc Go.Tc
variable {w:O} {K:Z->O->Prop}
variable {i:dN} {m:gA} {k np:Int} {nv tv:Z} {x:gN} {p:fZ} {α:Type}
structure zY (i:dN) (m:gA) (st:St) (l:List Int) (r:List Bool):Prop where
 rl:r.length=m.code.length
 ls:∀ t∈l,0<=t/\t < m.code.length/\st.h t.toNat=true
 rs:∀ k,r.getD k false=true->st.h k=true
 z:r.getD 0 false=true\/(0:Int)∈l
 cl:∀ k,r.getD k false=true->∀ to∈fK (m.ins k) k,r.getD to.toNat false=true\/to∈l
 bd:3*cf r+l.length<=3*m.code.length+1
structure wG (gr:Nat) (w3 w:O) (v:Z) (l:List Int) (r:List Bool):Prop where
 own:w.ownsRow (gr+1) 3 1 v l.length (l.map i64)
 sh:∃ a c,v=.slice (some ⟨a,0,none⟩) l.length c
 blk:dW w gr (r.map .bool) 4
 fr:Fr (λk=>gr<=k) w3 w
theorem wG.ext {gr:Nat} {w3 w':O} {v:Z} {l:List Int} {r:List Bool} (h:wG gr w3 w v l r) (hx:aE w w'):wG gr w3 w' v l r:=⟨hx.own h.own,h.sh,h.blk.ext hx,h.fr.trans (Fr.of_ext hx) λ_ _ h=>h⟩
theorem wG.push {gr:Nat} {w3:O} {v:Z} {l:List Int} {r:List Bool} {t:Int} (h:wG gr w3 w v l r) (hl:l.length<=100000) (hk:∀ v' w',wG gr w3 w' v' (l++[t]) r->Fr (λk=>v.ownBlock=some k) w w'->K v' w') :
  V prog (Instr.buildSlice 42 1 #[(0,i64 t)]) w λu w1=>V prog (Builtin.append_ #[42,42] 42 #[v,u]) w1 K:=by
 refine iT aZ [i64 t] rfl rfl (by simp) rfl λu w1 ho1 x1=>?_;have h1:=h.ext x1;have hB:=h1.blk.lt;refine EK aZ h1.own (aA.of_own ho1) rfl (by omega) (by unfold maxLen;omega) (by omega) λv2 w2 ho2 hg2=>?_;have hlo:∀ k,v.ownBlock=some k->gr+1<=k:=λk hk=>(h.own.lt k hk).1;have f2:Fr (λk=>v.ownBlock=some k) w1 w2:=Fr.of_grown hg2 λk hk=>hk;have ho2:w2.ownsRow (gr+1) 3 1 v2 (l++[t]).length ((l++[t]).map i64):=by simpa using ho2
 refine hk v2 w2 ⟨ho2,?_,f2.blk h1.blk λhk=>by have:=hlo _ hk;omega,h1.fr.trans (f2.mono λk hk=>by have:=hlo k hk;omega) λ_ _ h=>h⟩ ((Fr.of_ext x1).trans f2 λ_ _ h=>h);rcases ho2.2 with ⟨_,e⟩|⟨g,cap,_,rfl,_⟩
 ·simp at e
 ·exact ⟨_,_,rfl⟩
theorem SQ {row:List Z} {st:St} (hrow:iO w row m) (hn1:1<=m.code.length) (hn2:m.code.length<=120) (h0:st.h 0=true) (hled:∀ k,st.h k=true->Led i m st k) (_:WF m st)
  (hk:∀ g r w',dW w' g (r.map .bool) 4->w.heap.size<=g->zY i m st [] r->aE w w'->K (.slice (some ⟨g,0,none⟩) m.code.length m.code.length) w'):aB prog 75 #[.agg row.toArray] w K:=by
 obtain ⟨pv,lv,cv,rfl,hp,hl,hc⟩:=hrow;apply aOj;unfold RF;refine bx λb1 w1 hb1 x1=>?_;have hb1:fB w1 b1 [pv,i64 m.result,lv,cv]:=hb1;refine bQ hb1 dU fT rfl (hU iZ (hc.ext x1) ?_);refine mkB underlying117 mP rfl (by omega) (by omega) λw2 hB2 x2 z2=>?_;have hgr:w.heap.size<=w1.heap.size:=x1.size;generalize hgr1:w1.heap.size=gr at hB2 z2 hgr;refine iT aZ [i64 0] rfl rfl (by simp) rfl λv3 w3 ho3 x3=>?_;have x13:=x2.trans x3;have hb3:=hb1.ext x13;have hc3:=hc.ext (x1.trans x13);have x03:=x1.trans x13;have hB3:=hB2.ext x3;have cf0:cf (List.replicate m.code.length false)=m.code.length:=by simp [cf,List.countP_replicate]
 have gd0:∀ k,(List.replicate m.code.length false).getD k false=false:=λk=>by
  simp only [List.getD_eq_getElem?_getD,List.getElem?_replicate];split<;>rfl
 have ini:wG gr w3 w3 v3 [0] (List.replicate m.code.length false)/\zY i m st [0] (List.replicate m.code.length false):=by
  refine ⟨⟨aX ho3 (by omega),?_,by simpa using hB3,Fr.refl _ _⟩,by simp,λt ht=>?_,λk hk=>?_,.inr (by simp),λk hk=>?_,by rw [cf0];simp⟩
  ·rcases ho3.2 with ⟨_,e⟩|⟨g,cap,_,rfl,_⟩
   ·cases e
   ·exact ⟨_,_,rfl⟩
  ·rw [List.mem_singleton] at ht;subst ht;exact ⟨by omega,by omega,h0⟩
  iterate 2
   ·rw [gd0] at hk;cases hk
 refine ⟨λt w'=>∃ l r,wG gr w3 w' t l r/\zY i m st l r,λt w'=>mu λq=>∃ l r,(wG gr w3 w' t l r/\zY i m st l r)/\3*cf r+l.length=q,⟨_,_,ini⟩,?_⟩;rintro t w4 ⟨l0,r0,hh0⟩ _;obtain ⟨l,r,⟨M,R⟩,hmu⟩:=tJ (p:=λq=>∃ l r,(wG gr w3 w4 t l r/\zY i m st l r)/\3*cf r+l.length=q) ⟨_,l0,r0,hh0,rfl⟩;clear hh0 l0 r0;obtain ⟨ga,cap,rfl⟩:=M.sh;have ho:=M.own;have hbd:=R.bd;have hrl:=R.rl
 have step:∀ {t':Z} {w':O} {l':List Int} {r':List Bool},wG gr w3 w' t' l' r'->zY i m st l' r'->3*cf r'+l'.length < 3*cf r+l.length->(∃ l r,wG gr w3 w' t' l r/\zY i m st l r)/\mu (λq=>∃ l r,(wG gr w3 w' t' l r/\zY i m st l r)/\3*cf r+l.length=q) < mu (λq=>∃ l' r,(wG gr w3 w4 (.slice (some ⟨ga,0,none⟩) l.length cap) l' r/\zY i m st l' r)/\3*cf r+l'.length=q):=λh1 h2 h3=>⟨⟨_,_,h1,h2⟩,by
  rw [<- hmu];exact Nat.lt_of_le_of_lt (FT ⟨_,_,⟨h1,h2⟩,rfl⟩) h3⟩
 refine hU aM (aA.of_own ho) (jJ.2 (aK (λhgt=>?_) λhle=>?_))
 case refine_2=>
  have:l=[]:=List.eq_nil_of_length_eq_zero (by omega);subst this;exact hk gr r w4 M.blk hgr R (M.fr.ext x03 λk hk=>by omega)
 refine hU aM (aA.of_own ho) (iL.2 ?_);rw [aU (by omega),show (l.length:Int) - 1=((l.length - 1:Nat):Int) by omega];have hlm:=jW (l:=l) (j:=l.length - 1) (by omega);refine TP aM aF ho (by omega) (by omega) (fD hlm) ?_;obtain ⟨t0,t1,t2⟩:=R.ls _ (List.mem_of_getElem? hlm)
 have hsplit:l=l.take (l.length - 1)++[cT l (l.length - 1)]:=by
  have:=List.take_add_one (l:=l) (i:=l.length - 1);rw [hlm] at this;simp only [Option.toList_some] at this;rw [<- this,List.take_of_length_le (by omega)]
 obtain ⟨pc,hpc⟩:∃ pc:Nat,cT l (l.length - 1)=pc:=⟨(cT l (l.length - 1)).toNat,by omega⟩;rw [hpc] at t0 t1 t2 hsplit ⊢;rw [Int.toNat_natCast] at t2;have hlen2:(l.take (l.length - 1)).length=l.length - 1:=by simp
 refine hU aM (aA.of_own ho) (iL.2 ?_);rw [aU (by omega),show (l.length:Int) - 1=((l.length - 1:Nat):Int) by omega];refine slO underlying42 fX (by decide) ho (by omega) (by omega) λho2=>?_;rw [Nat.mul_one,<- List.map_take] at ho2;generalize hl2:l.take (l.length - 1)=l2 at *;have M2:wG gr w3 w4 (.slice (some ⟨ga,0,none⟩) (l.length - 1) cap) l2 r:=⟨by rw [hlen2];exact ho2,⟨ga,cap,by rw [hlen2]⟩,M.blk,M.fr⟩
 have hin:∀ t,t∈l->t∈l2\/t=pc:=λt ht=>by
  rw [hsplit] at ht;rcases List.mem_append.1 ht with h|h
  ·exact .inl h
  ·rw [List.mem_singleton] at h;exact .inr h
 have hin2:∀ t,t∈l2->t∈l:=λt ht=>by rw [hsplit];exact List.mem_append_left _ ht
 have hsl:aA w4 (.slice (some ⟨gr,0,none⟩) m.code.length m.code.length) 1 m.code.length (r.map .bool):=M.blk.slice (by simpa using hrl) (by unfold maxLen;omega);refine kP jV jZ hsl (by omega) (by omega) (BO (by omega)) ?_;cases hr:r.getD pc false with
 | true=>
  refine aS.2 (step M2 ⟨hrl,λt ht=>R.ls t (hin2 t ht),R.rs,?_,λk hk to hto=>?_,by omega⟩ (by omega))
  ·rcases R.z with h|h
   ·exact .inl h
   ·rcases hin _ h with h|h
    ·exact .inr h
    ·left;have:pc=0:=by omega
     rw [<- this];exact hr
  ·rcases R.cl k hk to hto with h|h
   ·exact .inl h
   ·rcases hin _ h with h|h
    ·exact .inr h
    ·left;subst h;rw [Int.toNat_natCast];exact hr
 | false=>
 refine aD.2 ?_;refine stB jV mP M2.blk (n:=m.code.length) (by simpa using hrl) (by omega) (by omega) rfl ?_;rw [Int.toNat_natCast]
 have M3:wG gr w3 (w4.setCell ⟨gr,pc,none⟩ (.bool true)) (.slice (some ⟨ga,0,none⟩) (l.length - 1) cap) l2 (r.set pc true):=by
  refine ⟨(Fr.of_set (S:=λk=>k=gr) rfl).own M2.own λk hk he=>by have:=(M2.own.lt k hk).1;omega,M2.sh,?_,M2.fr.set (Nat.le_refl _)⟩;have:=M2.blk.set pc (.bool true)
  rwa [<- List.map_set] at this
 generalize w4.setCell ⟨gr,pc,none⟩ (.bool true)=w5 at M3;have x15:aE w1 w5:=M3.fr.ext x13 λk hk=>by omega
 have x05:=x1.trans x15;refine bQ (hb1.ext x15) dU fT rfl ?_;have hxi:=oX (m:=m) (k:=pc) (by omega);refine ldI (hc.ext x05) hxi ?_;refine UP OV rfl rfl λw6 hB6 x6=>?_;have hB6:dW w6 w5.heap.size [i64 (m.ins pc).op,i64 (m.ins pc).a,i64 (m.ins pc).b] 70:=hB6;have hga5:=(M3.own.lt ga rfl).2;have hb6:=dW.boxed hB6;have M6:=M3.ext x6;have hcf:=aMx (r:=r) (k:=pc) (by omega) hr
 have fin:∀ {v:Z} {w':O} {l3:List Int},wG gr w3 w' v (l2++l3) (r.set pc true)->(∀ t,t∈l3↔t∈fK (m.ins pc) pc)->l3.length<=2->wG gr w3 w' v (l2++l3) (r.set pc true)/\zY i m st (l2++l3) (r.set pc true)/\3*cf (r.set pc true)+(l2++l3).length < 3*cf r+l.length:=by
  intro v w' l3 hM hl3 hle;obtain ⟨out,_,hout⟩:=hled pc t2;have hlen:(l2++l3).length=l2.length+l3.length:=List.length_append
  have hgs:∀ k,(r.set pc true).getD k false=true↔k=pc\/r.getD k false=true:=λk=>by
   rw [jI];by_cases hkp:k=pc
   ·rw [if_pos ⟨hkp,by omega⟩];simp [hkp]
   ·rw [if_neg λh=>hkp h.1];simp [hkp]
  refine ⟨hM,⟨by simpa using hrl,λt ht=>?_,λk hk=>?_,?_,λk hk to hto=>?_,by omega⟩,by omega⟩
  ·rcases List.mem_append.1 ht with h|h
   ·exact R.ls t (hin2 t h)
   ·obtain ⟨q1,q2,q3,_⟩:=hout t ((hl3 t).1 h);exact ⟨q1,q2,q3⟩
  ·rcases (hgs k).1 hk with h|h
   ·rw [h];exact t2
   ·exact R.rs k h
  ·rcases R.z with h|h
   ·exact .inl ((hgs 0).2 (.inr h))
   ·rcases hin _ h with h|h
    ·exact .inr (List.mem_append_left _ h)
    ·exact .inl ((hgs 0).2 (.inl (by omega)))
  ·rcases (hgs k).1 hk with h|h
   ·subst h;exact .inr (List.mem_append_right _ ((hl3 to).2 hto))
   ·rcases R.cl k h to hto with h|h
    ·exact .inl ((hgs _).2 (.inr h))
    ·rcases hin _ h with h|h
     ·exact .inr (List.mem_append_left _ h)
     ·exact .inl ((hgs _).2 (.inl (by omega)))
 have hpm:=λt=>WN (x:=m.ins pc) (pc:=pc) (t:=t);unfold WO at hpm;obtain ⟨A,hA⟩:∃ A,A=(if (m.ins pc).op=23\/(m.ins pc).op=24 then [(m.ins pc).a] else []):=⟨_,rfl⟩;obtain ⟨C,hC⟩:∃ C,C=(if (m.ins pc).op≠23/\(m.ins pc).op≠39 then [(pc:Int)+1] else []):=⟨_,rfl⟩;rw [<- hA,<- hC] at hpm;have hAl:A.length<=1:=by rw [hA];split<;>simp
 have hCl:C.length<=1:=by rw [hC];split<;>simp
 have fin2:∀ {v:Z} {w':O},wG gr w3 w' v (l2++A++C) (r.set pc true)->(∃ l r,wG gr w3 w' v l r/\zY i m st l r)/\mu (λq=>∃ l r,(wG gr w3 w' v l r/\zY i m st l r)/\3*cf r+l.length=q) < mu (λq=>∃ l' r,(wG gr w3 w4 (.slice (some ⟨ga,0,none⟩) l.length cap) l' r/\zY i m st l' r)/\3*cf r+l'.length=q):=λhM=>by
  rw [List.append_assoc] at hM;obtain ⟨f1,f2,f3⟩:=fin hM hpm (by rw [List.length_append];omega);exact step f1 f2 f3
 clear fin hpm;refine ⟨λv w'=>wG gr w3 w' v (l2++A) (r.set pc true)/\fB w' w5.heap.size [i64 (m.ins pc).op,i64 (m.ins pc).a,i64 (m.ins pc).b],?_,?_⟩
 ·have psh:(m.ins pc).op=23\/(m.ins pc).op=24->V prog (Instr.buildSlice 42 1 #[(0,i64 (m.ins pc).a)]) w6 λu w1=>V prog (Builtin.append_ #[42,42] 42 #[.slice (some ⟨ga,0,none⟩) (l.length - 1) cap,u]) w1 λv w'=>wG gr w3 w' v (l2++A) (r.set pc true)/\fB w' w5.heap.size [i64 (m.ins pc).op,i64 (m.ins pc).a,i64 (m.ins pc).b]:=λhop=>by
   refine M6.push (by omega) λv' w' hM hF=>⟨?_,dW.boxed (hF.blk hB6 λhk=>?_)⟩
   ·rw [hA,if_pos hop];exact hM
   ·have hk:some ga=some w5.heap.size:=hk;rw [Option.some.injEq] at hk;omega
  refine bQ hb6 aT aF rfl (aO.2 ?_);by_cases c1:(m.ins pc).op=23
  ·simp only [c1,aN];rw [<- c1];exact bQ hb6 aR aF rfl (psh (.inl c1))
  simp only [c1,aN];refine bQ hb6 aT aF rfl (aO.2 ?_);by_cases c2:(m.ins pc).op=24
  ·simp only [c2,aN];rw [<- c2];exact bQ hb6 aR aF rfl (psh (.inr c2))
  simp only [c2,aN];refine ⟨?_,hb6⟩;have hA0:A=[]:=by rw [hA,if_neg (by simp [c1,c2])]
  rw [hA0,List.append_nil];exact M6
 rintro v7 w7 ⟨M7,hb7⟩ _;refine bQ hb7 aT aF rfl (dZ.2 ?_);have hl2a:(l2++A).length<=100000:=by rw [List.length_append];omega
 by_cases c1:(m.ins pc).op=23
 ·simp only [c1,aN];refine fin2 ?_;have hC0:C=[]:=by rw [hC,if_neg (by simp [c1])]
  rw [hC0,List.append_nil];exact M7
 simp only [c1,aN];refine bQ hb7 aT aF rfl (dZ.2 ?_);by_cases c2:(m.ins pc).op=39
 ·simp only [c2,aN];refine fin2 ?_;have hC0:C=[]:=by rw [hC,if_neg (by simp [c2])]
  rw [hC0,List.append_nil];exact M7
 simp only [c2,aN];refine dS.2 ?_;rw [aU (by omega)];refine M7.push hl2a λv8 w8 M8 _=>fin2 ?_;have hC1:C=[(pc:Int)+1]:=by rw [hC,if_pos ⟨c1,c2⟩]
 rw [hC1];exact M8
def aV (i:dN) (m:gA) (st:St) (r:List Bool):Nat->List aL × List Int
 | 0=>((List.range m.locals.length).map λ(j:Nat)=>aL.const ((m.params.length:Int)+((j:Nat):Int)) 0,[])
 | k+1=>
  let p:=aV i m st r k
  if r.getD k false then (p.1++.tick::(eU i m (m.ins k) (st.s k).length).toList,p.2++[(p.1.length:Int)]) else (p.1,p.2++[-1])
def jA (i:dN) (m:gA) (st:St) (r:List Bool):List aL:=let p:=aV i m st r m.code.length;p.1.map (lJ p.2)
def OI (g:Nat) (nv tv:Z) (w:O) (u:Z) (n:aL):Prop:=∃ sv,u=n.val sv/\w.ownsRow (g+1) 3 1 sv n.args.length (n.args.map i64)/\∀ q,sv.ownBlock=some q->nv.ownBlock≠some q/\tv.ownBlock≠some q
structure Lp (g:Nat) (np:Int) (nv tv:Z) (w:O) (N:List aL) (T:List Int):Prop where
 blk:dW w g [i64 np,i64 18,nv] 83
 row:∃ xs:List Z,w.ownsRow (g+1) 94 1 nv N.length xs/\∀ (k:Nat) n,N[k]?=some n->∃ u,xs[k]?=some u/\OI g nv tv w u n
 st:w.ownsRow (g+1) 3 1 tv T.length (T.map i64)
 ne:∀ q,nv.ownBlock=some q->tv.ownBlock≠some q
theorem Lp.ext {g:Nat} {np:Int} {nv tv:Z} {w':O} {N:List aL} {T:List Int} (h:Lp g np nv tv w N T) (hx:aE w w'):Lp g np nv tv w' N T:=by
 obtain ⟨h1,⟨xs,h2,h3⟩,h8,h9⟩:=h;refine ⟨h1.ext hx,⟨xs,hx.own h2,λk n hk=>?_⟩,hx.own h8,h9⟩;obtain ⟨u,h4,sv,h5,h6,h7⟩:=h3 k n hk;exact ⟨u,h4,sv,h5,hx.own h6,h7⟩
theorem CH (n:aL) (sv:Z):gO (n.val sv)=true:=by cases n<;>rfl
theorem Lp.nodes {g:Nat} {N:List aL} {T:List Int} (h:Lp g np nv tv w N T):nI w nv N:=by
 obtain ⟨_,⟨xs,h2,h3⟩,_,_⟩:=h;refine ⟨xs,aA.of_own h2,λk n hk=>?_⟩;obtain ⟨u,h4,sv,h5,h6,_⟩:=h3 k n hk;exact ⟨u,h4,sv,h5,aA.of_own h6⟩
theorem Lp.start {g:Nat} {N:List aL} {T:List Int} {t:Int} (h:Lp g np nv tv w N T) (hT:T.length<=100000) (hk:∀ tv' w',Lp g np nv tv' w' N (T++[t])->Fr (λk=>tv.ownBlock=some k) w w'->(∀ q,tv'.ownBlock=some q->tv.ownBlock=some q\/w.heap.size<=q)->K tv' w') :
  V prog (Instr.buildSlice 42 1 #[(0,i64 t)]) w λu w1=>V prog (Builtin.append_ #[42,42] 42 #[tv,u]) w1 K:=by
 obtain ⟨hB,⟨xs,ho,hxs⟩,hst,hne⟩:=h;have hg:=hB.lt;refine iT aZ [i64 t] rfl rfl (by simp) rfl λu w1 ho1 x1=>?_;have s1:=x1.size;refine apS aZ (x1.own hst) (aA.of_own ho1) rfl (by omega) (by unfold maxLen;omega) (by omega) λtv' w2 ho2 hg2 hl2=>?_;have hlo:∀ k,tv.ownBlock=some k->g+1<=k:=λk hk=>(hst.lt k hk).1;have f2:Fr (λk=>tv.ownBlock=some k) w1 w2:=Fr.of_grown hg2 λk hk=>hk
 refine hk tv' w2 ⟨f2.blk (hB.ext x1) λhk=>by have:=hlo _ hk;omega,⟨xs,f2.own (x1.own ho) λk hk hS=>hne k hk hS,λk n hk=>?_⟩,by simpa using ho2,λq hq hq'=>?_⟩ ((Fr.of_ext x1).trans f2 λ_ _ h=>h) (λq hq=>by
   rcases hl2 with h2|h2
   ·rw [h2] at hq;exact .inl hq
   ·rw [h2] at hq;cases hq;exact .inr (by omega))
 ·obtain ⟨u,h4,sv,h5,h6,h7⟩:=hxs k n hk;refine ⟨u,h4,sv,h5,f2.own (x1.own h6) λq hq hS=>(h7 q hq).2 hS,λq hq=>⟨(h7 q hq).1,λhq'=>?_⟩⟩;rcases hl2 with h2|h2
  ·rw [h2] at hq';exact (h7 q hq).2 hq'
  ·rw [h2] at hq';cases hq';have:=(h6.lt _ hq).2;omega
 ·rcases hl2 with h2|h2
  ·rw [h2] at hq';exact hne q hq hq'
  ·rw [h2] at hq';cases hq';have:=(ho.lt _ hq).2;omega
theorem Lp.push {g:Nat} {u:Z} {N:List aL} {T:List Int} {n:aL} {K':O->Prop} (h:Lp g np nv tv w N T) (hu:OI g nv tv w u n) (hN:N.length<=100000) (hk:∀ nv' w',Lp g np nv' tv w' (N++[n]) T->Fr (λk=>k=g\/nv.ownBlock=some k) w w'->(∀ q,nv'.ownBlock=some q->nv.ownBlock=some q\/w.heap.size<=q)->K' w') :
  V prog (Instr.buildSlice 81 1 #[(0,u)]) w λt w1=>V prog (Builtin.append_ #[81,81] 81 #[nv,t]) w1 λt2 w2=>V prog (Instr.fieldAt 83 (.pointer (some ⟨g,0,none⟩)) 2) w2 λq w3=>U prog (Instr.storeAt 81 q t2) w3 λ_ w4=>K' w4:=by
 obtain ⟨sv,rfl,hso,hsn⟩:=hu;obtain ⟨hB,⟨xs,ho,hxs⟩,hst,hne⟩:=h;have hg:=hB.lt;refine iT aIo [n.val sv] rfl rfl (by simp) (by simp [CH]) λt w1 ho1 x1=>?_;have s1:=x1.size;refine apS aIo (x1.own ho) (aA.of_own ho1) (by simp [CH]) (by omega) (by unfold maxLen;omega) (by omega) λnv' w2 ho2 hg2 hl2=>?_;have hlo:∀ k,nv.ownBlock=some k->g+1<=k:=λk hk=>(ho.lt k hk).1;have f2:Fr (λk=>nv.ownBlock=some k) w1 w2:=Fr.of_grown hg2 λk hk=>hk;have hB2:=f2.blk (hB.ext x1) λhk=>by have:=hlo _ hk;omega
 refine CK eZ aJh hB2 (n:=3) rfl (by decide) (oA ho2) ?_;have f3:Fr (λk=>k=g) w2 (w2.setCell ⟨g,2,none⟩ nv'):=Fr.of_set rfl;have hB3:=hB2.set 2 nv';generalize w2.setCell ⟨g,2,none⟩ nv'=w3 at f3 hB3
 have fresh:∀ {q:Nat},q < w.heap.size->nv.ownBlock≠some q->nv'.ownBlock≠some q:=λhlt hb hq'=>by
  rcases hl2 with h2|h2
  ·rw [h2] at hq';exact hb hq'
  ·rw [h2] at hq';cases hq';omega
 have keep0:∀ {sv:Z} {l:List Int},w.ownsRow (g+1) 3 1 sv l.length (l.map i64)->(∀ q,sv.ownBlock=some q->nv.ownBlock≠some q)->w3.ownsRow (g+1) 3 1 sv l.length (l.map i64):=λha hb=>
  f3.own (f2.own (x1.own ha) λk hk hS=>hb k hk hS) λk hk hS=>by have:=(ha.lt k hk).1;have hS:k=g:=hS;omega
 have keep:∀ {sv:Z} {l:List Int},w.ownsRow (g+1) 3 1 sv l.length (l.map i64)->(∀ q,sv.ownBlock=some q->nv.ownBlock≠some q/\tv.ownBlock≠some q)->w3.ownsRow (g+1) 3 1 sv l.length (l.map i64)/\∀ q,sv.ownBlock=some q->nv'.ownBlock≠some q/\tv.ownBlock≠some q:=λha hb=>
  ⟨keep0 ha λq hq=>(hb q hq).1,λq hq=>⟨fresh (ha.lt q hq).2 (hb q hq).1,(hb q hq).2⟩⟩
 refine hk nv' w3 ⟨hB3,⟨xs++[n.val sv],?_,λk y hy=>?_⟩,keep0 hst λq hq hq'=>hne q hq' hq,λq hq hq'=>fresh (hst.lt q hq').2 (λh=>hne q h hq') hq⟩ (((Fr.of_ext x1).trans (f2.mono λk hk=>.inr hk) λ_ _ h=>h).trans (f3.mono λk hk=>.inl hk) λ_ _ h=>h) (λq hq=>by
   rcases hl2 with h2|h2
   ·rw [h2] at hq;exact .inl hq
   ·rw [h2] at hq;cases hq;exact .inr (by omega))
 ·rw [List.length_append];exact f3.own ho2 λk hk hS=>by have:=(ho2.lt k hk).1;have hS:k=g:=hS;omega
 ·rw [List.getElem?_append] at hy ⊢;have hxl:xs.length=N.length:=by have:=ho.1;omega
  split at hy
  ·rename_i hlt
   obtain ⟨u,h4,sv2,h5,h6,h7⟩:=hxs k y hy;rw [if_pos (by omega)];obtain ⟨k1,k2⟩:=keep h6 h7;exact ⟨u,h4,sv2,h5,k1,k2⟩
  ·rename_i hge
   rw [if_neg (by omega),hxl]
   have hk0:k - N.length=0:=by
    have:=(List.getElem?_eq_some_iff.1 hy).1;simpa using this
   rw [hk0] at hy ⊢;cases hy;obtain ⟨k1,k2⟩:=keep hso hsn;exact ⟨n.val sv,rfl,sv,rfl,k1,k2⟩
theorem Lp.set {g:Nat} {np:Int} {gn c j:Nat} {tv u:Z} {N:List aL} {T:List Int} {n:aL} {K':O->Prop} (h:Lp g np (.slice (some ⟨gn,0,none⟩) N.length c) tv w N T) (hj:j < N.length) (hu:OI g (.slice (some ⟨gn,0,none⟩) N.length c) tv w u n)
  (hk:∀ w',Lp g np (.slice (some ⟨gn,0,none⟩) (N.set j n).length c) tv w' (N.set j n) T->Fr (λk=>k=gn) w w'->K' w'):U prog (Instr.storeAt 94 (.pointer (some ⟨gn,0+j*1,none⟩)) u) w λ_ w2=>K' w2:=by
 obtain ⟨sv,rfl,hso,hsn⟩:=hu;obtain ⟨hB,⟨xs,ho,hxs⟩,hst,hne⟩:=h;have hgn:=ho.lt gn rfl;have hxl:xs.length=N.length:=by have:=ho.1;omega
 refine stY PT ho hj (CH _ _) λw' ho' hg'=>?_;have f:Fr (λk=>k=gn) w w':=Fr.of_grown hg' λk hk=>by cases hk;rfl
 have keep:∀ {sv:Z} {l:List Int},w.ownsRow (g+1) 3 1 sv l.length (l.map i64)->(∀ q,sv.ownBlock=some q->gn≠q)->w'.ownsRow (g+1) 3 1 sv l.length (l.map i64):=λha hb=>f.own ha λk hk hS=>hb k hk hS.symm;have hne':∀ {v:Z} {q:Nat},(Value.slice (some ⟨gn,0,none⟩) N.length c).ownBlock≠some q->gn≠q:=λh e=>h (by rw [e];rfl);refine hk w' ⟨by rw [List.length_set];exact f.blk hB (by omega),⟨xs.set j (n.val sv),by rw [List.length_set];exact ho',λk y hy=>?_⟩,keep hst λq hq e=>hne gn rfl (by rw [e];exact hq),by rw [List.length_set];exact hne⟩ f;rw [List.length_set];rw [List.getElem?_set] at hy ⊢;by_cases hkj:j=k
 ·subst hkj;rw [if_pos rfl,if_pos hj] at hy;rw [if_pos rfl,if_pos (by omega)];cases hy;exact ⟨_,rfl,sv,rfl,keep hso λq hq=>hne' (v:=sv) (hsn q hq).1,hsn⟩
 ·rw [if_neg hkj] at hy ⊢;obtain ⟨u2,h4,sv2,h5,h6,h7⟩:=hxs k y hy;exact ⟨u2,h4,sv2,h5,keep h6 λq hq=>hne' (v:=sv2) (h7 q hq).1,h7⟩
theorem TO {h pc:Nat} {n:aL} {T:List Int} (hn:eU i m x h=some n) (hT:∀ to∈fK x pc,0<=to/\to < T.length):QO T n:=by
 by_cases c1:x.op=23
 ·have:n=.goto x.a:=by simp [eU,c1] at hn;exact hn.symm
  subst this;exact hT x.a (by simp [fK,c1])
 by_cases c2:x.op=24
 ·have:n=.branch (10+((h:Int) - 1)) x.a:=by simp [eU,c2] at hn;exact hn.symm
  subst this;exact hT x.a (by simp [fK,c2])
 unfold eU at hn;by_cases d0:x.op=1
 ·rw [if_pos d0] at hn;cases hn;trivial
 rw [if_neg d0] at hn;by_cases d1:x.op=2
 ·rw [if_pos d1] at hn;cases hn;trivial
 rw [if_neg d1] at hn;by_cases d2:x.op=3
 ·rw [if_pos d2] at hn;cases hn;trivial
 rw [if_neg d2] at hn;by_cases d3:x.op=4
 ·rw [if_pos d3] at hn;cases hn
 rw [if_neg d3] at hn;by_cases d4:x.op=5
 ·rw [if_pos d4] at hn;cases hn;trivial
 rw [if_neg d4] at hn;by_cases d5:x.op=15\/x.op=16\/x.op=26
 ·rw [if_pos d5] at hn;cases hn;trivial
 rw [if_neg d5] at hn;by_cases d6:x.op=22
 ·rw [if_pos d6] at hn;cases hn;trivial
 rw [if_neg d6] at hn;rw [if_neg c1] at hn;rw [if_neg c2] at hn;by_cases d9:x.op=25
 ·rw [if_pos d9] at hn;cases hn;trivial
 rw [if_neg d9] at hn;by_cases d10:x.op=35
 ·rw [if_pos d10] at hn;cases hn;trivial
 rw [if_neg d10] at hn;by_cases d11:x.op=33
 ·rw [if_pos d11] at hn;cases hn;trivial
 rw [if_neg d11] at hn;by_cases d12:x.op=34
 ·rw [if_pos d12] at hn;cases hn;trivial
 rw [if_neg d12] at hn;by_cases d13:x.op=37
 ·rw [if_pos d13] at hn;cases hn;trivial
 rw [if_neg d13] at hn;by_cases d14:x.op=38
 ·rw [if_pos d14] at hn;cases hn;trivial
 rw [if_neg d14] at hn;by_cases d15:x.op=39
 ·rw [if_pos d15] at hn;cases hn;trivial
 rw [if_neg d15] at hn;by_cases d16:(kL x.op).1≠0
 ·rw [if_pos d16] at hn;cases hn;trivial
 rw [if_neg d16] at hn;cases hn;trivial
theorem BF {i:dN} {m:gA} {st:St} {r:List Bool} {T:List Int} (hT:T.length=m.code.length) (hled:∀ k,st.h k=true->Led i m st k) (hr:∀ k,r.getD k false=true->st.h k=true):∀ (k:Nat) (n:aL),n∈(aV i m st r k).1->QO T n
 | 0,n,h=>by
  simp only [aV,List.mem_map] at h;obtain ⟨j,_,rfl⟩:=h;trivial
 | k+1,n,h=>by
  have ih:=BF hT hled hr k;cases hk:r.getD k false with
  | false=>
   have e:(aV i m st r (k+1)).1=(aV i m st r k).1:=by simp only [aV,hk];rfl
   rw [e] at h;exact ih n h
  | true=>
   have e:(aV i m st r (k+1)).1=(aV i m st r k).1++.tick::(eU i m (m.ins k) (st.s k).length).toList:=by simp only [aV,hk];rfl
   rw [e] at h;rcases List.mem_append.1 h with h|h
   ·exact ih n h
   ·rcases List.mem_cons.1 h with h|h
    ·subst h;trivial
    ·obtain ⟨out,_,hto⟩:=hled k (hr k hk);refine TO (pc:=k) (by simpa using h) λto ht=>?_;obtain ⟨q1,q2,_⟩:=hto to ht;exact ⟨q1,by rw [hT];exact q2⟩
theorem aAp {n:aL} {sv:Z} {x y:Operand} {R:Z->O->Prop} (hk:R (.bool true) w):V prog (do eqGuard .neq 94 x y (n.val sv) Value.nilIface;binOp .neq 94 (n.val sv) Value.nilIface) w R:=by
 cases n<;>exact V.ok (gR underlying94) hk
def yN (B:Nat) (w:O) (v:Z) (l:List aL):Prop:=∃ xs:List Z,w.ownsRow B 94 1 v l.length xs/\∀ (k:Nat) n,l[k]?=some n->∃ u,xs[k]?=some u/\kJ B w u n
theorem yN.nodes {B:Nat} {v:Z} {l:List aL} (h:yN B w v l):nI w v l:=by
 obtain ⟨xs,h1,h2⟩:=h;refine ⟨xs,aA.of_own h1,λk n hk=>?_⟩;obtain ⟨u,h3,sv,h4,h5⟩:=h2 k n hk;exact ⟨u,h3,sv,h4,aA.of_own h5⟩
theorem PL (h:gZ w p i) (hn:jL w i) (hrg:i.rg)
  (yes:∀ st r nv sv w',lL i->0<=k->k < i.methods.length->lK i (i.meth k) (some st)->zY i (i.meth k) st [] r->yN w.heap.size w' nv (jA i (i.meth k) st r)->aQ w' sv (aV i (i.meth k) st r (i.meth k).code.length).2->aE w w'->K (.tuple #[.agg #[i64 (i.meth k).params.length,i64 18,nv],sv,.bool true]) w')
  (no:∀ w',¬ (lL i/\0<=k/\k < i.methods.length)->aE w w'->K (.tuple #[.agg #[i64 0,i64 0,cM],cM,.bool false]) w'):aB prog 34 #[p.val i,i64 k] w K:=by
 apply aOz;unfold RS fZ.val;refine bx λb2 w1 hb2 x1=>?_;have hb2:fB w1 b2 [.string i.name,p.fv,p.iv,p.mv,p.xv]:=hb2;refine alK vB λw2 hB4 x2=>?_;have hB4:dW w2 w1.heap.size [i64 0,i64 0,cM] 83:=hB4;have x02:=x1.trans x2;have hg4:=x1.size;have hb2:=hb2.ext x2;generalize w1.heap.size=g4 at hB4 hg4;refine lF hb2 kF rfl ?_;refine VC (p:=p) (i:=i) (h.ext x02) (hn.ext x02) hrg (λst sv w3 ht h0 hkl hw hst x3=>?_) λw3 hne x3=>?_
 case refine_2=>
  refine gM.2 (gL.2 (gG.2 ?_));simp only [aN,Int.reduceNeg];refine kO aJo [] rfl rfl ?_;refine stA vB (hB4.ext x3) (l:=[i64 0,i64 0,cM]) rfl rfl rfl rfl λw4 hB hc=>?_;exact ⟨_,xC underlying83 rfl vB hB rfl,⟨_,rfl⟩,no w4 hne (hc.ext _ (x02.trans x3) hg4)⟩
 refine gM.2 (gL.2 (gG.2 ?_));simp only [aN,Int.reduceNeg];obtain ⟨kn,rfl⟩:∃ q:Nat,k=q:=⟨k.toNat,by omega⟩;have hmi:=iI (i:=i) (a:=(kn:Int)) (by omega) (by omega);rw [Int.toNat_natCast] at hmi;have ir:=ht.1;have mr:(i.meth kn).right:=ir.2.2.1.2.1 _ (List.mem_of_getElem? hmi);obtain ⟨hox,hwf,hh0,hs0,hled⟩:=hw.led ir mr;have x03:=x02.trans x3;have hb3:=hb2.ext x3;refine bQ hb3 bF fS rfl ?_;refine XP iA lV (h.ext x03).mt hmi oI λrow hrow=>?_;generalize hmm:i.meth kn=m at *;have hrow0:=hrow;obtain ⟨pv,lv,cv,rfl,hp,hl,hc⟩:=hrow
 have hone:([pv,i64 m.result,lv,cv]:List Z).all gO=true:=by
  obtain ⟨a1,c1,rfl⟩:=hp.shape;obtain ⟨a2,c2,rfl⟩:=hl.shape;obtain ⟨a3,c3,rfl⟩:=aA.shape hc;rfl
 refine pX AE rfl hone λb9 w4 hb9 x4=>?_;have hb9:fB w4 b9 [pv,i64 m.result,lv,cv]:=hb9;have hp4:=hp.ext x4;refine bQ hb9 dR bJ rfl (hU aM hp4 ?_);refine kO aJo [(0,i64 m.params.length),(1,i64 18)] rfl rfl ?_;refine UP VL rfl rfl λw5 hB5 x5=>?_;have hB5:dW w5 w4.heap.size [i64 m.params.length,i64 18,cM] 83:=hB5;have hg4':g4 < w4.heap.size:=by have:=hB4.lt;have:=x3.size;have:=x4.size;omega
 have hb9':=hb9.ext x5;refine bQ hb9' gI bJ rfl (hU aM ((hl.ext x4).ext x5) ?_);have hL0:Lp w4.heap.size m.params.length cM cM w5 [] []:=⟨hB5,⟨[],World.ownsRow_nil _ _ _ _,λk n hk=>by simp at hk⟩,World.ownsRow_nil _ _ _ _,λq hq=>by cases hq⟩;have x04:=x03.trans x4;have hgx:=hB5.lt;generalize hgg:w4.heap.size=g at *;have pl:=mr.1.2;have ll:=mr.2.2.1.2;refine ⟨λv w'=>∃ (j:Nat) (nv:Z),v=i64 j/\j<=m.locals.length/\aE w4 w'/\Lp g m.params.length nv cM w' ((List.range j).map λ(j:Nat)=>aL.const ((m.params.length:Int)+((j:Nat):Int)) 0) [],λv _=>m.locals.length - (RowKit.intOf v).toNat,⟨0,cM,rfl,Nat.zero_le _,x5,hL0⟩,?_⟩;clear hL0 hB5;rintro _ w6 ⟨j,nv,rfl,hj,x6,hL⟩ _;refine bP.2 (aK (λhlt=>?_) λhge=>?_)
 ·refine bQ (dW.boxed hL.blk) eZ jH rfl ?_;refine bQ (hb9.ext x6) dR bJ rfl (hU aM (hp4.ext x6) (dS.2 ?_));rw [aU (by omega)];refine kO yL [(0,i64 ((m.params.length:Int)+(j:Int)))] rfl rfl (XG DD ?_);refine hL.push (n:=.const ((m.params.length:Int)+(j:Int)) 0) ⟨cM,rfl,World.ownsRow_nil _ _ _ _,λq hq=>by cases hq⟩ (by simp;omega) λnv' w7 hL7 f7 _=>dS.2 ?_;rw [aU (by omega),eI];have hnv:∀ q,nv.ownBlock=some q->g+1<=q:=λq hq=>by obtain ⟨xs,ho,_⟩:=hL.row;exact (ho.lt q hq).1
  refine ⟨⟨j+1,nv',rfl,by omega,f7.ext x6 λq hq=>?_,?_⟩,by simp only [aW];omega⟩
  ·rcases hq with hq|hq
   ·omega
   ·have:=hnv q hq;omega
  ·rw [List.range_succ,List.map_append];exact hL7
 have hjl:j=m.locals.length:=by omega
 subst hjl;have hn1:=mr.2.2.2.1.1;have hn2:=mr.2.2.2.1.2;refine lF (hb9.ext x6) lV rfl ?_;refine SQ (i:=i) (m:=m) (st:=st) (row:=[pv,i64 m.result,lv,cv]) ((hrow0.ext x4).ext x6) hn1 (by omega) hh0 hled hwf λgr r w7 hBr hgr R x7=>?_;have x47:=x6.trans x7;refine bQ (hb9.ext x47) dU fT rfl (hU iZ ((hc.ext x4).ext x47) ?_);have hnvb:∀ q,nv.ownBlock=some q->q≠gr:=λq hq=>by obtain ⟨xs,ho,_⟩:=hL.row;have:=(ho.lt q hq).2;omega
 have hgg6:g < w6.heap.size:=hL.blk.lt;have hgrg:gr≠g:=by omega
 refine ⟨λtv v w'=>∃ (j:Nat) (nv:Z),v=i64 j/\j<=m.code.length/\aE w4 w'/\Lp g m.params.length nv tv w' (aV i m st r j).1 (aV i m st r j).2/\(aV i m st r j).1.length<=10+2*j/\(aV i m st r j).2.length=j/\dW w' gr (r.map .bool) 4/\∀ q,nv.ownBlock=some q\/tv.ownBlock=some q->q≠gr,
  λ_ v _=>m.code.length - (RowKit.intOf v).toNat,⟨0,nv,rfl,Nat.zero_le _,x47,hL.ext x7,by simp [aV];omega,rfl,hBr,λq hq=>?_⟩,?_⟩
 ·rcases hq with hq|hq
  ·exact hnvb q hq
  ·cases hq
 clear hL hBr hnvb;rintro tv _ w8 ⟨j,nv,rfl,hj,x8,hL,hNl,hTl,hBr,hgb⟩ _;refine bP.2 (aK (λhlt=>?_) λhge=>?_)
 ·have hj':j < m.code.length:=by omega
  have hxi:=oX (m:=m) (k:=j) hj';have ox:=hox _ (List.mem_of_getElem? hxi);refine ldI ((hc.ext x4).ext x8) hxi ?_;refine UP OV rfl rfl λw9 hB15 x9=>?_;have hB15:dW w9 w8.heap.size [i64 (m.ins j).op,i64 (m.ins j).a,i64 (m.ins j).b] 70:=hB15;have hnv8:∀ q,nv.ownBlock=some q->q < w8.heap.size:=λq hq=>by obtain ⟨xs,ho,_⟩:=hL.row;exact (ho.lt q hq).2
  have htv8:∀ q,tv.ownBlock=some q->q < w8.heap.size:=λq hq=>(hL.st.lt q hq).2;have hg8:g < w8.heap.size:=hL.blk.lt;have x49:=x8.trans x9;have hL9:=hL.ext x9;have hB9:=hBr.ext x9;have hrl:=R.rl;have hsl:aA w9 (.slice (some ⟨gr,0,none⟩) m.code.length m.code.length) 1 m.code.length (r.map .bool):=hB9.slice (by simpa using hrl) (by unfold maxLen;omega);refine kP jV jZ hsl (by omega) (by omega) (BO (by omega)) (gG.2 ?_)
  have hlo:∀ q,nv.ownBlock=some q\/tv.ownBlock=some q->g+1<=q:=λq hq=>by
   rcases hq with hq|hq
   ·obtain ⟨xs,ho,_⟩:=hL.row;exact (ho.lt q hq).1
   ·exact (hL.st.lt q hq).1
  cases hrj:r.getD j false with
  | false=>
   simp only [aN,Int.reduceNeg];refine hL9.start (by omega) λtv' w10 hL10 f10 q10=>dS.2 ?_;rw [aU (by omega),eI];have hK:aV i m st r (j+1)=((aV i m st r j).1,(aV i m st r j).2++[-1]):=by simp only [aV,hrj];rfl
   refine ⟨⟨j+1,nv,rfl,by omega,f10.ext x49 λq hq=>?_,by rw [hK];exact hL10,by rw [hK];dsimp only;omega,by rw [hK];simp [hTl],f10.blk hB9 λhq=>hgb gr (.inr hq) rfl,λq hq=>?_⟩,by simp only [aW];omega⟩
   ·have:=hlo q (.inr hq);omega
   ·have hs9:=hB9.lt;rcases hq with hq|hq
    ·exact hgb q (.inl hq)
    ·rcases q10 q hq with h10|h10
     ·exact hgb q (.inr h10)
     ·omega
  | true=>
   simp only [aN,Int.reduceNeg];have hh:=R.rs j hrj;obtain ⟨out,hdo,_⟩:=hled j hh;obtain ⟨hkd,hl8⟩:=hwf.kd j hh;obtain ⟨_,_,hask,_⟩:=uL ox hkd hdo;refine bQ (dW.boxed hL9.blk) eZ jH rfl ?_;have hnl:∀ {nv tv w' N T},Lp g m.params.length nv tv w' N T->∃ vs,aA w' nv 1 N.length vs:=λh=>by obtain ⟨vs,h1,_⟩:=h.nodes;exact ⟨vs,h1⟩
   obtain ⟨nvs,hnvs⟩:=hnl hL9;refine hU nA hnvs ?_;refine hL9.start (by omega) λtv' w10 hL10 f10 q10=>?_;have x10:aE w4 w10:=f10.ext x49 λq hq=>by have:=hlo q (.inr hq);omega
   have hB10:=f10.blk hB9 λhq=>hgb gr (.inr hq) rfl;refine bQ (dW.boxed hL10.blk) eZ jH rfl ?_;refine kO NY [] rfl rfl (XG MW ?_);refine hL10.push (n:=.tick) ⟨cM,rfl,World.ownsRow_nil _ _ _ _,λq hq=>by cases hq⟩ (by omega) λnv' w11 hL11 f11 q11=>?_;have hgw:w4.heap.size=g:=hgg
   have x11:aE w4 w11:=f11.ext x10 λq hq=>by
    rcases hq with hq|hq
    ·omega
    ·have:=hlo q (.inl hq);omega
   have hB11:=f11.blk hB10 λhq=>by
    rcases hq with hq|hq
    ·exact hgrg hq
    ·exact hgb gr (.inl hq) rfl
   have hB15':=f11.blk (f10.blk hB15 λhq=>by have:=htv8 _ hq;omega) λhq=>by
    rcases hq with hq|hq
    ·omega
    ·have:=hnv8 _ hq;omega
   have D1:aE w11 w11.drew:=(aE.refl _).drew;have x1D:=x11.trans D1;obtain ⟨svs,hsv1,hsv2⟩:=(hst.ext x4).ext x1D;have hstl:st.st.length=m.code.length:=hwf.l1;obtain ⟨su,hsu,hsi⟩:=hsv2 j (by omega);refine aJ.mk' (λw'=>aE w11.drew w') (aE.refl _) ?_;refine yA (λw' hx=>((hb3.ext x4).ext x1D).ext hx) kF rfl ?_;refine yA (λw' hx=>(hb9.ext x1D).ext hx) lV rfl ?_;refine yA (λw' hx=>(dW.boxed (hB15'.ext D1)).ext hx) gU rfl ?_;refine lT kQ bJ hsv1 (λ_ h=>h) (by omega) (by omega) (by simpa using hsu) ?_;refine qH aM hsi ?_;refine aKy (p:=p) (i:=i) (m:=m) (x:=m.ins j) (row:=[pv,i64 m.result,lv,cv]) ((h.ext (x03.trans x4)).ext x1D) ((hrow0.ext x4).ext x1D) ox hl8 hask λv w12 hv x12=>⟨x12,?_⟩;have x1E:=x1D.trans x12;have xDE:=D1.trans x12;have hL12:=hL11.ext xDE;have hB12:=hB11.ext xDE;have sD:=D1.size;have s12:=x12.size;have hK:aV i m st r (j+1)=((aV i m st r j).1++.tick::(eU i m (m.ins j) (st.s j).length).toList,(aV i m st r j).2++[((aV i m st r j).1.length:Int)]):=by simp only [aV,hrj];rfl
   have hs9:=hB9.lt;have hs10:=f10.size;have hs11:=f11.size
   have hgb11:∀ q,nv'.ownBlock=some q\/tv'.ownBlock=some q->q≠gr:=λq hq=>by
    rcases hq with hq|hq
    ·rcases q11 q hq with h11|h11
     ·exact hgb q (.inl h11)
     ·omega
    ·rcases q10 q hq with h10|h10
     ·exact hgb q (.inr h10)
     ·omega
   have hv:LN w11.drew.heap.size w12 v (eU i m (m.ins j) (st.s j).length):=hv;cases ho:eU i m (m.ins j) (st.s j).length with
   | none=>
    rw [ho] at hv hK;have hv:v=Value.nilIface:=hv;subst hv;refine V.ok (gW underlying94) (aD.2 (dS.2 ?_));rw [aU (by omega),eI];exact ⟨⟨j+1,nv',rfl,by omega,x1E,by rw [hK];exact hL12,by rw [hK];simp;omega,by rw [hK];simp [hTl],hB12,hgb11⟩,by simp only [aW];omega⟩
   | some n=>
    rw [ho] at hv hK;obtain ⟨asv,rfl,hown⟩:=hv;refine aAp (aS.2 ?_);refine bQ (dW.boxed hL12.blk) eZ jH rfl ?_
    have hnv11:∀ q,nv'.ownBlock=some q\/tv'.ownBlock=some q->q < w11.heap.size/\g+1<=q:=λq hq=>by
     rcases hq with hq|hq
     ·obtain ⟨xs,ho,_⟩:=hL11.row;have:=ho.lt q hq;omega
     ·have:=hL11.st.lt q hq;omega
    have hg11:=hL11.blk.lt;refine hL12.push (n:=n) ⟨asv,rfl,aX hown (by omega),λq hq=>⟨λh=>?_,λh=>?_⟩⟩ (by simp;omega) λnv2 w13 hL13 f13 q13=>dS.2 ?_
    ·have:=(hown.lt q hq).1;have:=(hnv11 q (.inl h)).1;omega
    ·have:=(hown.lt q hq).1;have:=(hnv11 q (.inr h)).1;omega
    rw [aU (by omega),eI];refine ⟨⟨j+1,nv2,rfl,by omega,f13.ext x1E λq hq=>?_,by rw [hK];simpa using hL13,by rw [hK];simp;omega,by rw [hK];simp [hTl],f13.blk hB12 λhq=>?_,λq hq=>?_⟩,by simp only [aW];omega⟩
    ·rcases hq with hq|hq
     ·omega
     ·have:=(hnv11 q (.inl hq)).2;omega
    ·rcases hq with hq|hq
     ·exact hgrg hq
     ·exact hgb11 gr (.inl hq) rfl
    ·rcases hq with hq|hq
     ·rcases q13 q hq with h13|h13
      ·exact hgb11 q (.inl h13)
      ·have:=hB12.lt;omega
     ·exact hgb11 q (.inr hq)
 ·have hjn:j=m.code.length:=by omega
  subst hjn;have haim:∀ (q:Nat) y,(aV i m st r m.code.length).1[q]?=some y->QO (aV i m st r m.code.length).2 y:=λq y hy=>BF hTl hled R.rs _ y (List.mem_of_getElem? hy);have eP:jA i m st r=(aV i m st r m.code.length).1.map (lJ (aV i m st r m.code.length).2):=rfl;generalize hNN:(aV i m st r m.code.length).1=N at *;generalize hTT:(aV i m st r m.code.length).2=T at *;refine bQ (dW.boxed hL.blk) eZ jH rfl ?_;obtain ⟨nvs,hnvs,_⟩:=hL.nodes;refine hU nA hnvs ?_;refine ⟨λv w'=>∃ (q:Nat) (M:List aL),v=i64 q/\q<=N.length/\aE w4 w'/\Lp g m.params.length nv tv w' M T/\M.length=N.length/\∀ a:Nat,M[a]?=if a < q then (N[a]?).map (lJ T) else N[a]?,λv _=>N.length - (RowKit.intOf v).toNat,⟨0,N,rfl,Nat.zero_le _,x8,hL,rfl,λa=>by simp⟩,?_⟩;rintro _ w9 ⟨q,M,rfl,hq,x9,hM,hMl,hMa⟩ _;refine bP.2 (aK (λhlt=>?_) λhge2=>?_)
  ·obtain ⟨xs,hox2,hxs⟩:=hM.row;obtain ⟨y,hy⟩:=fQ (l:=N) (j:=q) (by omega);have hyM:M[q]?=some y:=by rw [hMa,if_neg (by omega)];exact hy
   obtain ⟨u,hu,asv,rfl,has,hapart⟩:=hxs q y hyM
   obtain ⟨gn,cn,rfl⟩:∃ gn c,nv=.slice (some ⟨gn,0,none⟩) M.length c:=by
    rcases hox2.2 with ⟨_,e⟩|⟨g',c',_,rfl,_⟩
    ·omega
    ·exact ⟨g',c',rfl⟩
   refine kP nA lW (aA.of_own hox2) (by omega) (by omega) (by simpa using hu) ?_;have D1:aE w9 w9.drew:=(aE.refl _).drew;have hMd:=hM.ext D1;refine aJ.mk' (λw'=>aE w9.drew w') (aE.refl _) ?_;refine gY (λw' hx=>dW.boxed (hMd.blk.ext hx)) eZ jH rfl ?_;refine aDk (aA.of_own hMd.st) (haim q y hy) λw10 x10=>⟨x10,?_⟩;refine aC.ok (λw' _=>iG underlying81 PT (by omega) (by omega)) ?_;rw [Int.toNat_natCast];have hargs:(lJ T y).args=y.args:=by cases y<;>rfl
   have hMl2:(M.set q (lJ T y)).length=M.length:=List.length_set;have hgn:=hox2.lt gn rfl;refine (hMd.ext x10).set (n:=lJ T y) (by omega) ⟨asv,rfl,by rw [hargs];exact (D1.trans x10).own has,hapart⟩ λw11 hM11 f11=>dS.2 ?_;rw [aU (by omega),eI];rw [hMl2] at hM11;refine ⟨⟨q+1,M.set q (lJ T y),rfl,by omega,f11.ext (x9.trans (D1.trans x10)) λk hk=>by omega,hM11,by omega,λa=>?_⟩,by simp only [aW];omega⟩;rw [List.getElem?_set];by_cases haq:q=a
   ·subst haq;rw [if_pos rfl,if_pos (by omega),if_pos (by omega),hy];rfl
   ·rw [if_neg haq,hMa];by_cases hlt2:a < q
    ·rw [if_pos hlt2,if_pos (by omega)]
    ·rw [if_neg hlt2,if_neg (by omega)]
  ·have hMe:M=jA i m st r:=by
    rw [eP];apply List.ext_getElem?;intro a;rw [hMa,List.getElem?_map];by_cases ha:a < q
    ·rw [if_pos ha]
    ·rw [if_neg ha,List.getElem?_eq_none (by omega)];rfl
   have hB4E:=((hB4.ext x3).ext x4).ext x9;obtain ⟨xs,hox2,hxs⟩:=hM.row;refine lF (dW.boxed hM.blk) PN rfl ?_;refine stA vB hB4E (l:=[i64 m.params.length,i64 18,nv]) rfl rfl rfl (by simp [oA hox2,uX]) λwE hBE hcE=>?_;refine ⟨_,xC underlying83 rfl vB hBE rfl,⟨_,rfl⟩,?_⟩;have fE:=qW hcE;have kp:∀ {e:TypeId} {v:Z} {n:Nat} {ys:List Z},w9.ownsRow (g+1) e 1 v n ys->wE.ownsRow (g+1) e 1 v n ys:=λho=>fE.own ho λk hk hS=>by have:=(ho.lt k hk).1;have hS:k=g4:=hS;omega
   refine yes st r nv tv wE ht h0 hkl hw R ?_ (by rw [hTT];exact aA.of_own (kp hM.st)) (hcE.ext _ (x04.trans x9) (by omega));rw [<- hMe];have s04:=x04.size;refine ⟨xs,aX (kp hox2) (by omega),λk y hy=>?_⟩;obtain ⟨u,h4,asv,h5,h6,_⟩:=hxs k y hy;exact ⟨u,h4,asv,h5,aX (kp h6) (by omega)⟩
theorem aLj (h:gZ w p i) (hn:jL w i) (hrg:i.rg)
  (yes:∀ st r nv sv w',lL i->0<=k->k < i.methods.length->lK i (i.meth k) (some st)->zY i (i.meth k) st [] r->nI w' nv (jA i (i.meth k) st r)->aQ w' sv (aV i (i.meth k) st r (i.meth k).code.length).2->aE w w'->K (.tuple #[.agg #[i64 (i.meth k).params.length,i64 18,nv],sv,.bool true]) w')
  (no:∀ w',¬ (lL i/\0<=k/\k < i.methods.length)->aE w w'->K (.tuple #[.agg #[i64 0,i64 0,cM],cM,.bool false]) w'):aB prog 34 #[p.val i,i64 k] w K:=
 PL h hn hrg (λst r nv sv w' a b c d e f g x=>yes st r nv sv w' a b c d e f.nodes g x) no
def aL.isTick:aL->Bool
 | .tick=>true
 | _=>false
theorem tN {c:Prop} [Decidable c] {a b:Option α} {n:α} (h:(if c then a else b)=some n):(c/\a=some n)\/(¬ c/\b=some n):=by
 by_cases hc:c
 ·rw [if_pos hc] at h;exact .inl ⟨hc,h⟩
 ·rw [if_neg hc] at h;exact .inr ⟨hc,h⟩
theorem XW {c:Prop} [Decidable c] {a b:Option α} (h:(if c then a else b)=none):(c/\a=none)\/(¬ c/\b=none):=by
 by_cases hc:c
 ·rw [if_pos hc] at h;exact .inl ⟨hc,h⟩
 ·rw [if_neg hc] at h;exact .inr ⟨hc,h⟩
theorem HA (T:List Int) (n:aL):(lJ T n).isTick=n.isTick:=by cases n<;>rfl
theorem xM {h:Nat} {n:aL} (hn:eU i m x h=some n):n.isTick=false:=by
 unfold eU at hn
 repeat (rcases tN hn with ⟨_,hn⟩|⟨_,hn⟩;· (first|(cases hn;done)|(cases hn;rfl)))
 cases hn;rfl
def AA (l:List aL):Nat:=l.countP aL.isTick
def onC (T:List Int):Nat:=T.countP λt=>decide (0<=t)
theorem oJ (i:dN) (m:gA) (st:St) (r:List Bool):∀ k,AA (aV i m st r k).1=onC (aV i m st r k).2/\(aV i m st r k).2.length=k/\(aV i m st r k).1.length<=m.locals.length+2*k/\∀ (pc:Nat) (t:Int),(aV i m st r k).2[pc]?=some t->0<=t->(aV i m st r k).1[t.toNat]?=some .tick
 | 0=>by
  refine ⟨?_,rfl,by simp [aV],λpc t h=>by simp [aV] at h⟩;simp [aV,AA,onC,List.countP_eq_zero,aL.isTick]
 | k+1=>by
  obtain ⟨h1,h2,h3,h4⟩:=oJ i m st r k;cases hk:r.getD k false with
  | false=>
   have e:aV i m st r (k+1)=((aV i m st r k).1,(aV i m st r k).2++[-1]):=by simp only [aV,hk];rfl
   rw [e];refine ⟨by simpa [onC] using h1,by simp [h2],by dsimp only;omega,λpc t h h0=>?_⟩;rw [List.getElem?_append] at h;split at h
   ·exact h4 pc t h h0
   ·have:t=-1:=by
     have:=List.mem_of_getElem? h;simpa using this
    omega
  | true=>
   have e:aV i m st r (k+1)=((aV i m st r k).1++.tick::(eU i m (m.ins k) (st.s k).length).toList,(aV i m st r k).2++[((aV i m st r k).1.length:Int)]):=by simp only [aV,hk];rfl
   rw [e]
   have hz:AA (eU i m (m.ins k) (st.s k).length).toList=0:=by
    cases ho:eU i m (m.ins k) (st.s k).length with
    | none=>rfl
    | some n=>simp [AA,xM ho]
   have hl:(eU i m (m.ins k) (st.s k).length).toList.length<=1:=by cases eU i m (m.ins k) (st.s k).length<;>simp
   refine ⟨?_,by simp [h2],by simp;omega,λpc t h h0=>?_⟩
   ·simp only [AA,onC] at h1 hz ⊢;rw [List.countP_append,List.countP_cons,List.countP_append,h1,hz];simp [aL.isTick]
   ·rw [List.getElem?_append] at h;split at h
    ·have:=h4 pc t h h0;rw [List.getElem?_append_left (List.getElem?_eq_some_iff.1 this).1];exact this
    ·have:t=((aV i m st r k).1.length:Int):=by
      have:=List.mem_of_getElem? h;simpa using this
     subst this;rw [Int.toNat_natCast,List.getElem?_append_right (Nat.le_refl _)];simp
theorem FW (i:dN) (m:gA) (st:St) (r:List Bool):AA (jA i m st r)=onC (aV i m st r m.code.length).2/\(aV i m st r m.code.length).2.length=m.code.length/\(jA i m st r).length<=m.locals.length+2*m.code.length/\∀ (pc:Nat) (t:Int),(aV i m st r m.code.length).2[pc]?=some t->0<=t->(jA i m st r)[t.toNat]?=some .tick:=by
 obtain ⟨h1,h2,h3,h4⟩:=oJ i m st r m.code.length;refine ⟨?_,h2,by simpa [jA] using h3,λpc t h h0=>?_⟩
 ·rw [<- h1];show ((aV i m st r m.code.length).1.map _).countP _=_;rw [List.countP_map];exact List.countP_congr λn _=>by simp [HA]
 ·show ((aV i m st r m.code.length).1.map _)[t.toNat]?=_;rw [List.getElem?_map,h4 pc t h h0];rfl
end Go.Proofs.YtgkkecladbmjkaaGreatDoor
namespace Go.Proofs.YtgkkecladbmjkaaGreatDoor
open Tryz
open Go.Vc
variable {w:O} {k:Int} {p:mM} {pv:Z}
theorem aDi (l:List Int):(l.map i64).all gO=true:=by simp [gO]
theorem UA {v:Z} {l:List Int} (h:aQ w v l) (hl:l.length<=4294967296) :
  aB prog 122 #[v] w λr w'=>w'.ownsRow w.heap.size 3 1 r l.length (l.map i64)/\aE w w':=by
 apply EH;unfold tY;exact yJ (R:=λr w'=>w'.ownsRow w.heap.size 3 1 r l.length (l.map i64)/\aE w w') aZ h (aDi l) (by omega) λv' w' h1 h2=>⟨h1,h2⟩
theorem aMu {n:aL} {v:Z} (h:mT w v n):aB prog 161 #[v] w λr w'=>r=i64 n.df/\aE w w':=by
 obtain ⟨sv,rfl,hs⟩:=h;obtain ⟨sa,sc,rfl⟩:=hs.shape;apply aGs;unfold KC;cases n<;>(dsimp only [aL.val];(repeat (first|(with_reducible refine th (by first|exact dV|exact iU|exact iC|exact iQ|exact jG|exact iH|exact jF|exact lE|exact lP|exact lO|exact lN|exact jP|exact pH) ?_)|((with_reducible refine tm (by first|exact dV|exact iU|exact iC|exact iQ|exact jG|exact iH|exact jF|exact lE|exact lP|exact lO|exact lN|exact jP|exact pH) (by decide) ?_);intro _ _ _)));first|exact ⟨rfl,aE.refl _⟩|(refine pX (by first|exact pN|exact rY|exact qM|exact rX|exact qL|exact qK|exact pM|exact pL|exact wU|exact CQ|exact CP|exact CO|exact wT|exact CN) rfl rfl λb w1 hb x1=>?_;refine bQ hb (by first|exact bO|exact cD|exact bB|exact cC|exact bV|exact bU|exact cG|exact cB|exact cF|exact bN|exact bI|exact bT|exact bG|exact bE|exact cA|exact bZ|exact bS|exact bK|exact bA|exact bD|exact bC|exact bM|exact cE|exact bL|exact cL|exact bY|exact cS|exact cR|exact cK|exact cQ|exact cP|exact cO|exact cJ|exact cI|exact cH|exact bX|exact cN|exact bW|exact cY|exact cX|exact cZ|exact dH|exact dG|exact dF|exact dM|exact dE|exact dD|exact dC|exact dL|exact eO) (by first|exact eG|exact fO|exact eW|exact eV|exact eF|exact eY|exact fN|exact gF|exact gV|exact fM|exact aF) rfl ?_;exact ⟨rfl,x1⟩))
theorem aAq {n:aL} {v:Z} (h:mT w v n) (hl:n.args.length<=4294967296):aB prog 159 #[v] w λr w'=>w'.ownsRow w.heap.size 3 1 r n.us.length (n.us.map i64)/\aE w w':=by
 obtain ⟨sv,rfl,hs⟩:=h;obtain ⟨sa,sc,rfl⟩:=hs.shape;apply aGu;unfold KE;cases n with
 | const _ _|tick|goto _|getField _ _=>dsimp only [aL.val];(repeat (first|(with_reducible refine th dV ?_)|((with_reducible refine tm (by first|exact dV|exact iU|exact iC|exact iQ|exact jG|exact iH|exact jF|exact lE|exact lP|exact lO|exact lN|exact jP|exact pH|exact uS) (by decide) ?_);intro _ _ _)));exact ⟨World.ownsRow_nil _ _ _ _,aE.refl _⟩
 | move _ a|un _ _ a|branch a _|putField _ a=>
  dsimp only [aL.val];(repeat (first|(with_reducible refine th (by first|exact dV|exact iU|exact iC|exact iQ|exact jG|exact iH|exact jF|exact uS) ?_)|((with_reducible refine tm (by first|exact dV|exact iU|exact iC|exact iQ|exact jG|exact iH|exact jF|exact lE|exact lP|exact lO|exact lN|exact jP) (by decide) ?_);intro _ _ _)));refine pX (by first|exact pN|exact rY|exact qM|exact rX|exact qL|exact qK|exact pM|exact pL|exact VK) rfl rfl λb w1 hb x1=>?_;refine bQ hb (by first|exact bO|exact cD|exact bB|exact cC|exact bV|exact bU|exact cG|exact cB|exact cF|exact bN|exact bI|exact bT|exact bG|exact bE|exact cA|exact bZ|exact bS|exact bK|exact bA|exact bD|exact bC|exact bM|exact cE|exact bL|exact cL|exact bY|exact cS|exact cR|exact cK|exact cQ|exact cP|exact cO|exact cJ|exact cI|exact cH|exact bX|exact cN|exact iY) (by first|exact eG|exact fO|exact eW|exact eV|exact eF|exact eY|exact fN|exact gF|exact gV|exact fM|exact aF) rfl ?_;refine iT (by first|exact CD|exact LY|exact CC|exact UR|exact LX|exact wM|exact aZ) [i64 a] rfl rfl (by simp) rfl λv w2 ho x2=>?_
  exact ⟨aX ho x1.size,x1.trans x2⟩
 | bin _ _ a c=>
  dsimp only [aL.val];(repeat (first|(with_reducible refine th (by first|exact dV|exact jP) ?_)|((with_reducible refine tm (by first|exact dV|exact iC) (by decide) ?_);intro _ _ _)));refine pX wT rfl rfl λb w1 hb x1=>?_;refine bQ hb dK aF rfl ?_;refine bQ hb dJ aF rfl ?_;refine iT aZ [i64 a,i64 c] rfl rfl (by simp) rfl λv w2 ho x2=>?_;exact ⟨aX ho x1.size,x1.trans x2⟩
 | choose _ a c d=>
  dsimp only [aL.val];(repeat (first|(with_reducible refine th (by first|exact dV|exact jG) ?_)|((with_reducible refine tm (by first|exact dV|exact iU|exact iC|exact iQ|exact jP) (by decide) ?_);intro _ _ _)));refine pX qK rfl rfl λb w1 hb x1=>?_;refine bQ hb cJ aF rfl ?_;refine bQ hb cI aF rfl ?_;refine bQ hb cH aF rfl ?_;refine iT aZ [i64 a,i64 c,i64 d] rfl rfl (by simp) rfl λv w2 ho x2=>?_;exact ⟨aX ho x1.size,x1.trans x2⟩
 | serve _ _ _ _ l|call _ _ l|callX _ _ l=>
  dsimp only [aL.val];(repeat (first|(with_reducible refine th (by first|exact dV|exact iU|exact iC|exact iQ|exact jG|exact iH|exact jF|exact lE|exact lP|exact lO|exact pH) ?_)|((with_reducible refine tm (by first|exact dV|exact iU|exact iC|exact iQ|exact jG|exact iH|exact jF|exact lE|exact lP|exact lO|exact lN|exact jP|exact pH|exact uS) (by decide) ?_);intro _ _ _)));refine pX (by first|exact pN|exact rY|exact qM|exact rX|exact qL|exact qK|exact pM|exact pL|exact wU|exact CQ|exact CP|exact CN) rfl rfl λb w1 hb x1=>?_;refine bQ hb (by first|exact bO|exact cD|exact bB|exact cC|exact bV|exact bU|exact cG|exact cB|exact cF|exact bN|exact bI|exact bT|exact bG|exact bE|exact cA|exact bZ|exact bS|exact bK|exact bA|exact bD|exact bC|exact bM|exact cE|exact bL|exact cL|exact bY|exact cS|exact cR|exact cK|exact cQ|exact cP|exact cO|exact cJ|exact cI|exact cH|exact bX|exact cN|exact bW|exact cY|exact cX|exact cZ|exact dH|exact dG|exact dF|exact dM|exact dE|exact eB) (by first|exact eG|exact fO|exact eW|exact eV|exact eF|exact eY|exact fN|exact gF|exact gV|exact fM|exact aF|exact iX|exact iW|exact iM|exact jZ|exact bJ) rfl ?_
  exact (UA (hs.ext x1) hl).mono λr w2 ⟨h1,h2⟩=>⟨aX h1 x1.size,x1.trans h2⟩
 | ret s=>
  dsimp only [aL.val];(repeat (first|(with_reducible refine th (by first|exact dV|exact lN) ?_)|((with_reducible refine tm (by first|exact dV|exact iU|exact iC|exact iQ|exact jG|exact iH|exact jF|exact lE|exact lP|exact lO|exact lN|exact jP|exact pH|exact uS) (by decide) ?_);intro _ _ _)));refine pX CO rfl rfl λb w1 hb x1=>?_;refine bQ hb dD aF rfl ?_;refine dZ.2 (aK (λhne=>?_) λheq=>?_)
  ·refine bQ hb dD aF rfl ?_;refine iT aZ [i64 s] rfl rfl (by simp) rfl λv w2 ho x2=>?_;have hu:aL.us (.ret s)=[s]:=by simp only [aL.us];rw [if_neg hne]
   rw [hu];exact ⟨aX ho x1.size,x1.trans x2⟩
  ·have hu:aL.us (.ret s)=[]:=by simp only [aL.us];rw [if_pos (by omega)]
   rw [hu];exact ⟨World.ownsRow_nil _ _ _ _,x1⟩
theorem aBz {n:aL} {v:Z} (h:mT w v n) (h0:0<=k) (h1:k<=1000000):aB prog 160 #[v,i64 k] w λr w'=>w'.ownsRow w.heap.size 3 1 r (n.nx k).length ((n.nx k).map i64)/\aE w w':=by
 obtain ⟨sv,rfl,hs⟩:=h;obtain ⟨sa,sc,rfl⟩:=hs.shape;apply aGt;unfold KD;have hw:IntKind.i64.wrap (k+1)=k+1:=aU (by omega);cases n with
 | goto t=>
  dsimp only [aL.val];refine rG.2 (aD.2 ?_)
  (repeat (first|(with_reducible refine th (by first|exact dV|exact iH) ?_)|((with_reducible refine tm dV (by decide) ?_);intro _ _ _)))
  refine pX pM rfl rfl λb w1 hb x1=>?_;refine bQ hb bX aF rfl ?_;refine iT aZ [i64 t] rfl rfl (by simp) rfl λv w2 ho x2=>?_;exact ⟨aX ho x1.size,x1.trans x2⟩
 | ret s=>
  dsimp only [aL.val];refine rG.2 (aD.2 ?_)
  (repeat (first|(with_reducible refine th (by first|exact dV|exact lN) ?_)|((with_reducible refine tm (by first|exact dV|exact iU|exact iC|exact iQ|exact jG|exact iH|exact jF) (by decide) ?_);intro _ _ _)))
  refine pX CO rfl rfl λb w1 hb x1=>?_;exact ⟨World.ownsRow_nil _ _ _ _,x1⟩
 | branch c t=>
  dsimp only [aL.val];refine rG.2 (aD.2 ?_)
  (repeat (first|(with_reducible refine th (by first|exact dV|exact jF) ?_)|((with_reducible refine tm (by first|exact dV|exact iH) (by decide) ?_);intro _ _ _)))
  refine pX pL rfl rfl λb w1 hb x1=>?_;refine bQ hb bW aF rfl ?_;refine dS.2 ?_;rw [hw];refine dZ.2 (aK (λhne=>?_) λheq=>?_)
  ·refine dS.2 ?_;rw [hw];refine bQ hb bW aF rfl ?_;refine iT aZ [i64 (k+1),i64 t] rfl rfl (by simp) rfl λv w2 ho x2=>?_;have hu:aL.nx (.branch c t) k=[k+1,t]:=by simp only [aL.nx];rw [if_neg hne]
   rw [hu];exact ⟨aX ho x1.size,x1.trans x2⟩
  ·refine dS.2 ?_;rw [hw];refine iT aZ [i64 (k+1)] rfl rfl (by simp) rfl λv w2 ho x2=>?_;have hu:aL.nx (.branch c t) k=[k+1]:=by simp only [aL.nx];rw [if_pos (by omega)]
   rw [hu];exact ⟨aX ho x1.size,x1.trans x2⟩
 | _=>
  dsimp only [aL.val];refine rG.2 (aD.2 ?_)
  (repeat (first|(with_reducible refine th dV ?_)|((with_reducible refine tm (by first|exact dV|exact iU|exact iC|exact iQ|exact jG|exact iH|exact jF|exact lE|exact lP|exact lO|exact lN) (by decide) ?_);intro _ _ _)))
  refine dS.2 ?_;rw [hw];refine iT (by first|exact CD|exact LY|exact CC|exact UR|exact LX|exact wM|exact aZ) [i64 (k+1)] rfl rfl (by simp) rfl λv w2 ho x2=>?_;exact ⟨ho,x2⟩
theorem vE {n c:Int}:aB prog 80 #[i64 n,i64 c] w λr w'=>r=.bool (decide (0<=n/\n < c))/\w'=w:=by
 apply aOe;unfold RC;refine jU.2 ?_;by_cases h:n>=0
 ·simp only [h,decide_true,mQ,reduceIte,bP,bR];have h':0<=n:=h;simp []
 ·simp only [h,decide_false,mQ,Bool.false_eq_true,reduceIte,bR];have h':¬ 0<=n:=h;simp []
def pJ (op:Int):Int:=
 if op=27\/op=28 then 1 else if op=17\/op=18\/op=29 then 2 else if op=30\/op=36 then 3 else if op=31\/op=32 then 5 else -1
def PG (op:Int):Prop:=(6<=op/\op<=14)\/(19<=op/\op<=21)
def aBt (op:Int):Prop:=op=15\/op=16\/op=26
def aL.okF:aL->Prop
 | .bin op _ _ _=>PG op
 | .un op _ _=>aBt op
 | .getField _ f=>0<=f/\f < 8
 | .putField f _=>0<=f/\f < 8
 | .serve op _ _ _ l=>pJ op=l.length
 | .call m _ l=>(0<=m/\m < 8)/\l.length<=4
 | .callX i _ l=>(0<=i/\i < 4)/\l.length<=4
 | _=>True
def aL.bareN:aL->Bool
 | .const _ _|.move _ _|.bin _ _ _ _|.un _ _ _|.choose _ _ _ _|.getField _ _=>false
 | _=>true
theorem NV {op:Int}:aB prog 207 #[i64 op] w λr w'=>(∃ b,r=.bool b/\(b=true↔PG op))/\w'=w:=by
 apply aFm
 have key:∀ R:Z->O->Prop,(∀ b:Bool,(b=true↔PG op)->R (.bool b) w)->zA (i64 op) w R:=by
  intro R hR;unfold zA
  by_cases h1:op>=6<;>by_cases h2:op<=14<;>by_cases h3:op>=19<;>by_cases h4:op<=21 <;>
   simp only [h1,h2,h3,h4,rQ,jU,rJ,mK,yE,QC,yD,bR,reduceIte,Bool.false_eq_true,decide_true,decide_false]<;>exact hR _ (by simp [PG];omega)
 exact key _ λb hb=>⟨⟨b,rfl,hb⟩,rfl⟩
theorem UW {op:Int}:aB prog 208 #[i64 op] w λr w'=>(∃ b,r=.bool b/\(b=true↔aBt op))/\w'=w:=by
 apply aFl
 have key:∀ R:Z->O->Prop,(∀ b:Bool,(b=true↔aBt op)->R (.bool b) w)->yZ (i64 op) w R:=by
  intro R hR;unfold yZ
  rcases Bool.eq_false_or_eq_true (decide (op=15)) with e1|e1<;>rcases Bool.eq_false_or_eq_true (decide (op=16)) with e2|e2<;>rcases Bool.eq_false_or_eq_true (decide (op=26)) with e3|e3 <;>
   simp only [e1,e2,e3,aO,mK,yE,bR,reduceIte,Bool.false_eq_true]<;>exact hR _ (by simp at e1 e2 e3;simp [aBt];omega)
 exact key _ λb hb=>⟨⟨b,rfl,hb⟩,rfl⟩
theorem MC {op:Int}:aB prog 209 #[i64 op] w λr w'=>r=i64 (pJ op)/\w'=w:=by
 apply aFk;unfold IZ;refine ⟨λv w'=>v=.bool (decide (op=27\/op=28))/\w'=w,?_,?_⟩
 ·refine aO.2 (aK (λh=>?_) λh=>aO.2 ?_)<;>exact ⟨by simp [h],rfl⟩
 rintro _ w1 ⟨rfl,rfl⟩ _;refine aK (λh=>⟨by simp [pJ,h],rfl⟩) λh1=>?_;refine ⟨λv w'=>v=.bool (decide (op=17\/op=18\/op=29))/\w'=w1,?_,?_⟩
 ·refine aO.2 (aK (λh=>?_) λh=>aO.2 (aK (λh'=>?_) λh'=>aO.2 ?_))
  ·exact ⟨by simp [h],rfl⟩
  ·exact ⟨by simp [h'],rfl⟩
  ·exact ⟨by simp [h,h'],rfl⟩
 rintro _ w2 ⟨rfl,rfl⟩ _;refine aK (λh=>⟨by simp [pJ,h1,h],rfl⟩) λh2=>?_;refine ⟨λv w'=>v=.bool (decide (op=30\/op=36))/\w'=w2,?_,?_⟩
 ·refine aO.2 (aK (λh=>?_) λh=>aO.2 ?_)<;>exact ⟨by simp [h],rfl⟩
 rintro _ w3 ⟨rfl,rfl⟩ _;refine aK (λh=>⟨by simp [pJ,h1,h2,h],rfl⟩) λh3=>?_;refine aO.2 (aK (λh=>?_) λh=>?_)
 ·exact aK (λ_=>⟨by subst h;rfl,rfl⟩) λh'=>absurd h h'
 refine aO.2 (aK (λh'=>?_) λh'=>?_)
 ·exact ⟨by subst h';rfl,rfl⟩
 ·exact ⟨by simp [pJ,h1,h2,h3,h,h'],rfl⟩
theorem TY {n:aL} {v:Z} (h:mT w v n):aB prog 158 #[v] w λr w'=>(∃ b,r=.bool b/\(b=true↔n.okF))/\aE w w':=by
 obtain ⟨sv,rfl,hs⟩:=h;obtain ⟨sa,sc,rfl⟩:=hs.shape;apply aGv;unfold KF;cases n with
 | bin op _ _ _=>
  dsimp only [aL.val];(repeat (first|(with_reducible refine th (by first|exact dV|exact jP) ?_)|((with_reducible refine tm dV (by decide) ?_);intro _ _ _)));refine pX wT rfl rfl λb w1 hb x1=>?_;refine bQ hb dC aF rfl ?_;exact NV.mono λr w2 ⟨h1,h2⟩=>⟨h1,h2▸x1⟩
 | un op _ _=>
  dsimp only [aL.val];(repeat (first|(with_reducible refine th (by first|exact dV|exact iQ) ?_)|((with_reducible refine tm (by first|exact dV|exact jP) (by decide) ?_);intro _ _ _)));refine pX qL rfl rfl λb w1 hb x1=>?_;refine bQ hb cK aF rfl ?_;exact UW.mono λr w2 ⟨h1,h2⟩=>⟨h1,h2▸x1⟩
 | getField _ f|putField f _=>
  dsimp only [aL.val];(repeat (first|(with_reducible refine th (by first|exact dV|exact iU|exact iC|exact iQ|exact jG|exact iH|exact jF|exact lE|exact uS) ?_)|((with_reducible refine tm (by first|exact dV|exact iU|exact iC|exact iQ|exact jG|exact iH|exact jF|exact lE|exact lP|exact lO|exact lN|exact jP) (by decide) ?_);intro _ _ _)));refine pX (by first|exact pN|exact rY|exact qM|exact rX|exact qL|exact qK|exact pM|exact pL|exact wU|exact VK) rfl rfl λb w1 hb x1=>?_;refine bQ hb (by first|exact bO|exact cD|exact bB|exact cC|exact bV|exact bU|exact cG|exact cB|exact cF|exact bN|exact bI|exact bT|exact bG|exact bE|exact cA|exact bZ|exact bS|exact bK|exact bA|exact bD|exact bC|exact bM|exact cE|exact bL|exact cL|exact bY|exact cS|exact cR|exact cK|exact cQ|exact cP|exact cO|exact cJ|exact cI|exact cH|exact bX|exact cN|exact bW|exact cY|exact cX|exact jS) (by first|exact eG|exact fO|exact eW|exact eV|exact eF|exact eY|exact fN|exact gF|exact gV|exact fM|exact aF) rfl ?_;exact vE.mono λr w2 ⟨h1,h2⟩=>⟨⟨_,h1,by simp [aL.okF]⟩,h2▸x1⟩
 | serve op _ _ _ l=>
  dsimp only [aL.val];(repeat (first|(with_reducible refine th (by first|exact dV|exact pH) ?_)|((with_reducible refine tm (by first|exact dV|exact iU|exact iC|exact iQ|exact jG|exact iH|exact jF|exact lE|exact lP|exact lO|exact lN|exact jP|exact uS) (by decide) ?_);intro _ _ _)));refine pX CN rfl rfl λb w1 hb x1=>?_;refine aJ.mk' (λw'=>fB w' b _) (hb.ext (aE.refl _).drew) ?_;refine aC.ok (λw' hw=>eQ.ex w' b 0) ?_;refine aC.ok (λw' hw=>ML (hw 0 _ rfl)) ?_;refine aC.ok (λw' hw=>eB.ex w' b 0) ?_;refine aC.ok (λw' hw=>tE (hw 4 _ rfl)) ?_;refine aC.ok (λw' hw=>lU underlying42) ?_;refine MC.mono λr w2 ⟨h1,h2⟩=>?_;subst h1 h2;refine ⟨hb.ext (aE.refl _).drew,?_⟩;refine aC.ok (λw' hw=>CU) ?_;exact ⟨⟨_,rfl,decide_eq_true_iff⟩,x1.drew⟩
 | call m _ l|callX m _ l=>
  dsimp only [aL.val];(repeat (first|(with_reducible refine th (by first|exact dV|exact iU|exact iC|exact iQ|exact jG|exact iH|exact jF|exact lE|exact lP|exact lO) ?_)|((with_reducible refine tm (by first|exact dV|exact iU|exact iC|exact iQ|exact jG|exact iH|exact jF|exact lE|exact lP|exact lO|exact lN|exact jP|exact pH|exact uS) (by decide) ?_);intro _ _ _)));refine pX (by first|exact pN|exact rY|exact qM|exact rX|exact qL|exact qK|exact pM|exact pL|exact wU|exact CQ|exact CP) rfl rfl λb w1 hb x1=>?_;refine bQ hb (by first|exact bO|exact cD|exact bB|exact cC|exact bV|exact bU|exact cG|exact cB|exact cF|exact bN|exact bI|exact bT|exact bG|exact bE|exact cA|exact bZ|exact bS|exact bK|exact bA|exact bD|exact bC|exact bM|exact cE|exact bL|exact cL|exact bY|exact cS|exact cR|exact cK|exact cQ|exact cP|exact cO|exact cJ|exact cI|exact cH|exact bX|exact cN|exact bW|exact cY|exact cX|exact cZ|exact dF) (by first|exact eG|exact fO|exact eW|exact eV|exact eF|exact eY|exact fN|exact gF|exact gV|exact fM|exact aF) rfl ?_;refine vE.mono λr w2 ⟨h1,h2⟩=>?_
  subst h1 h2;refine mQ.2 ?_;split
  ·rename_i hin
   refine V.ok (FA.ex (by first|exact bO|exact cD|exact bB|exact cC|exact bV|exact bU|exact cG|exact cB|exact cF|exact bN|exact bI|exact bT|exact bG|exact bE|exact cA|exact bZ|exact bS|exact bK|exact bA|exact bD|exact bC|exact bM|exact cE|exact bL|exact cL|exact bY|exact cS|exact cR|exact cK|exact cQ|exact cP|exact cO|exact cJ|exact cI|exact cH|exact bX|exact cN|exact bW|exact cY|exact cX|exact cZ|exact dH|exact dG|exact dE) _ _ _) (mQ.2 ?_);rw [if_pos hin];refine V.ok (tE (hb 2 _ rfl)) (mQ.2 ?_);rw [if_pos hin];refine V.ok (lU underlying42) (mQ.2 ?_);rw [if_pos hin];refine rQ.2 (tF ?_);rw [if_pos hin];have:=of_decide_eq_true hin;exact ⟨⟨_,rfl,decide_eq_true_iff.trans ⟨λh=>⟨this,by simp only [aL.args] at h;omega⟩,λh=>by have:=h.2;simp only [aL.args];omega⟩⟩,x1⟩
  ·rename_i hin
   refine mQ.2 ?_;rw [if_neg hin];refine mQ.2 ?_;rw [if_neg hin];refine mQ.2 ?_;rw [if_neg hin];refine tF ?_;rw [if_neg hin];exact ⟨⟨_,rfl,by simp [aL.okF] at hin ⊢;omega⟩,x1⟩
 | _=>dsimp only [aL.val];(repeat (first|(with_reducible refine th dV ?_)|((with_reducible refine tm (by first|exact dV|exact iU|exact iC|exact iQ|exact jG|exact iH|exact jF|exact lE|exact lP|exact lO|exact lN|exact jP|exact pH|exact uS) (by decide) ?_);intro _ _ _)));refine OC.2 ?_;exact ⟨⟨_,rfl,by simp [aL.okF]⟩,aE.refl _⟩
theorem aDa {n:aL} {v:Z} (h:mT w v n):aB prog 162 #[v] w λr w'=>r=.bool n.bareN/\w'=w:=by
 obtain ⟨sv,rfl,hs⟩:=h;apply aGr
 have key:∀ R:Z->O->Prop,R (.bool n.bareN) w->zG (n.val sv) w R:=by
  intro R hR;unfold zG;cases n<;>simp only [aL.val,ZP,ZN,ZJ,ZM,ZL,ZK,gM,gL,reduceIte,Nat.reduceEqDiff,bR,aS,aD,Bool.false_eq_true]<;>exact hR
 exact key _ ⟨rfl,rfl⟩
structure OE (n:aL) (k regs count:Int):Prop where
 f:n.okF
 u:∀ r∈n.us,0<=r/\r < regs
 t:∀ r∈n.nx k,0<=r/\r < count
 d:(0<=n.df/\n.df < regs)\/(n.df=-1/\n.bareN=true)
theorem VW {nv:Z} {n:aL} (hp:sR w pv p) (hn:mT w nv n) (hl:n.args.length<=4294967296) (h0:0<=k) (h1:k<=1000000) :
  aB prog 126 #[pv,nv,i64 k] w λr w'=>(∃ b,r=.bool b/\(b=true↔OE n k p.regs p.nodes.length))/\aE w w':=by
 obtain ⟨ns,rfl,⟨vs,hs,_⟩,_⟩:=hp;apply aHv;unfold LC;refine bx λb w1 hb x1=>?_;refine (TY (hn.ext x1)).mono λr w2 ⟨⟨bf,hr,hbf⟩,x2⟩=>?_;subst hr;refine gG.2 (aH.mk (λhf=>?_) λhf=>?_)
 ·refine ⟨⟨false,rfl,⟨(λh=>by cases h),λh=>?_⟩⟩,x1.trans x2⟩;have:=hbf.2 h.f;subst this;cases hf
 have hok:n.okF:=hbf.1 (by cases bf<;>simp_all);refine (aAq (hn.ext (x1.trans x2)) hl).mono λul w3 ⟨hu',x3⟩=>?_;have hu:aQ w3 ul n.us:=aA.of_own hu';clear hu';have X3:=x1.trans (x2.trans x3);have hb3:=hb.ext (x2.trans x3);have hlen:=aKa n;refine hU aM hu ?_
 refine ⟨λv w'=>∃ j:Nat,v=i64 j/\j<=n.us.length/\aE w3 w'/\∀ (i:Nat) u,i < j->n.us[i]?=some u->0<=u/\u < p.regs,λv _=>n.us.length - (RowKit.intOf v).toNat,
  ⟨0,rfl,by omega,aE.refl _,λi u hi=>by omega⟩,?_⟩
 rintro _ w4 ⟨j,rfl,hj,x4,hall⟩ _;refine bP.2 (aK (λhlt=>?_) λhge=>?_)
 ·have hlt':j < n.us.length:=by omega
  obtain ⟨u,hu'⟩:=fQ hlt';refine kP aM aF (hu.ext x4) (by omega) (by omega) (fD hu') ?_;refine bQ (hb3.ext x4) hY aF rfl ?_;refine vE.mono λr w5 ⟨hr,hw⟩=>?_;subst hr hw;refine gG.2 (aH.mk (λhf=>?_) λhf=>?_)
  ·refine ⟨⟨false,rfl,⟨(λh=>by cases h),λh=>?_⟩⟩,X3.trans x4⟩;have:=h.u u (List.mem_of_getElem? hu');simp [this] at hf
  ·have hin:0<=u/\u < p.regs:=by simpa using hf
   refine mJ (by omega) ?_;refine ⟨⟨j+1,rfl,by omega,x4,λi u' hi hu2=>?_⟩,by simp only [aW];omega⟩;by_cases hij:i=j
   ·subst hij;rw [hu'] at hu2;cases hu2;exact hin
   ·exact hall i u' (by omega) hu2
 have hju:j=n.us.length:=by omega
 have hus:∀ r∈n.us,0<=r/\r < p.regs:=λr hr=>by
  obtain ⟨i,hi⟩:=List.getElem?_of_mem hr;exact hall i r (by have:=(List.getElem?_eq_some_iff.1 hi).1;omega) hi
 have X4:=X3.trans x4;have hb4:=hb3.ext x4;refine (aBz (hn.ext X4) h0 h1).mono λtl w5 ⟨ht',x5⟩=>?_;have ht:aQ w5 tl (n.nx k):=aA.of_own ht';clear ht';have X5:=X4.trans x5;have hb5:=hb4.ext x5;have hlen2:=aKw n k;refine hU aM ht ?_
 refine ⟨λv w'=>∃ j:Nat,v=i64 j/\j<=(n.nx k).length/\aE w5 w'/\∀ (i:Nat) u,i < j->(n.nx k)[i]?=some u->0<=u/\u < p.nodes.length,λv _=>(n.nx k).length - (RowKit.intOf v).toNat,
  ⟨0,rfl,by omega,aE.refl _,λi u hi=>by omega⟩,?_⟩
 rintro _ w6 ⟨j2,rfl,hj2,x6,hall2⟩ _;refine bP.2 (aK (λhlt=>?_) λhge2=>?_)
 ·have hlt':j2 < (n.nx k).length:=by omega
  obtain ⟨u,hu'⟩:=fQ hlt';refine kP aM aF (ht.ext x6) (by omega) (by omega) (fD hu') ?_;refine bQ (hb5.ext x6) eZ jH rfl ?_;refine hU nA (hs.ext (X5.trans x6)) ?_;refine vE.mono λr w7 ⟨hr,hw⟩=>?_;subst hr hw;refine gG.2 (aH.mk (λhf=>?_) λhf=>?_)
  ·refine ⟨⟨false,rfl,⟨(λh=>by cases h),λh=>?_⟩⟩,X5.trans x6⟩;have:=h.t u (List.mem_of_getElem? hu');simp [this] at hf
  ·have hin:0<=u/\u < p.nodes.length:=by simpa using hf
   refine mJ (by omega) ?_;refine ⟨⟨j2+1,rfl,by omega,x6,λi u' hi hu2=>?_⟩,by simp only [aW];omega⟩;by_cases hij:i=j2
   ·subst hij;rw [hu'] at hu2;cases hu2;exact hin
   ·exact hall2 i u' (by omega) hu2
 have hns:∀ r∈n.nx k,0<=r/\r < p.nodes.length:=λr hr=>by
  obtain ⟨i,hi⟩:=List.getElem?_of_mem hr;exact hall2 i r (by have:=(List.getElem?_eq_some_iff.1 hi).1;omega) hi
 have X6:=X5.trans x6;have hb6:=hb5.ext x6;refine (aMu (hn.ext X6)).mono λr w7 ⟨hr,x7⟩=>?_;subst hr;refine bQ (hb6.ext x7) hY aF rfl ?_;refine vE.mono λr w8 ⟨hr,hw⟩=>?_;subst hr hw;have X7:=X6.trans x7;by_cases hd:0<=n.df/\n.df < p.regs
 ·simp only [decide_eq_true hd,yE,yD,bR,reduceIte];exact ⟨⟨true,rfl,⟨λ_=>⟨hok,hus,hns,.inl hd⟩,λ_=>rfl⟩⟩,X7⟩
 ·simp only [decide_eq_false hd,mK,bR,aO];by_cases hm:n.df=-1
  ·simp only [decide_eq_true hm,rJ];refine (aDa (hn.ext X7)).mono λr w9 ⟨hr,hw⟩=>?_;subst hr hw;refine ⟨⟨n.bareN,by simp,⟨λhb=>⟨hok,hus,hns,.inr ⟨hm,hb⟩⟩,λh=>?_⟩⟩,X7⟩;rcases h.d with h|h
   ·exact absurd h hd
   ·exact h.2
  ·simp only [decide_eq_false hm,QC];refine ⟨⟨false,by simp,⟨(λh=>by cases h),λh=>?_⟩⟩,X7⟩;rcases h.d with h|h
   ·exact absurd h hd
   ·exact absurd h.1 hm
structure uN (p:mM):Prop where
 l1:1<=p.nodes.length
 l2:p.nodes.length<=250
 r1:0<=p.regs
 r2:p.regs<=40
 p1:0<=p.params
 p2:p.params<=4
 p3:p.params<=p.regs
 nodes:∀ (i:Nat) n,p.nodes[i]?=some n->OE n i p.regs p.nodes.length
theorem YW (hp:sR w pv p) (hv:uN p) :
  aB prog 79 #[pv] w λr w'=>r=.bool true/\aE w w':=by
 obtain ⟨ns,rfl,hn,hargs⟩:=hp;have hn':=hn;obtain ⟨vs,hs,hvs⟩:=hn';obtain ⟨l1,l2,r1,r2,p1,p2,p3,hnodes⟩:=hv;apply aOf;unfold RD;refine bx λb w1 hb x1=>?_;refine bQ hb eZ jH rfl (hU nA (hs.ext x1) (bP.2 ?_));simp only [show decide ((p.nodes.length:Int) < 1)=false from by simp;omega,mK];refine bQ hb eZ jH rfl (hU nA (hs.ext x1) (jJ.2 ?_));simp only [show decide ((p.nodes.length:Int) > 250)=false from by simp;omega,bR,Bool.false_eq_true,reduceIte,mK];refine bQ hb hY aF rfl ?_;refine vE.mono λr w5 ⟨hr,hw⟩=>?_;subst hr hw;simp only [show decide (0<=p.regs/\p.regs < 41)=true from by simp;omega,gG,Bool.not_true,bR,Bool.false_eq_true,reduceIte,mK];refine bQ hb jT aF rfl ?_;refine vE.mono λr w5 ⟨hr,hw⟩=>?_;subst hr hw;simp only [show decide (0<=p.params/\p.params < 5)=true from by simp;omega,gG,Bool.not_true,bR,Bool.false_eq_true,reduceIte,mK];refine bQ hb jT aF rfl (bQ hb hY aF rfl (jJ.2 ?_));simp only [show decide (p.params > p.regs)=false from by simp;omega,aD];refine bQ hb eZ jH rfl (hU nA (hs.ext x1) ?_);refine ⟨λv w'=>∃ j:Nat,v=i64 j/\j<=p.nodes.length/\aE w5 w',λv _=>p.nodes.length - (RowKit.intOf v).toNat,⟨0,rfl,by omega,aE.refl _⟩,?_⟩;rintro _ w6 ⟨j,rfl,hj,x6⟩ _;refine bP.2 (aK (λhlt=>?_) λhge=>⟨trivial,x1.trans x6⟩)
 have hlt':j < p.nodes.length:=by omega
 obtain ⟨n,hn1⟩:=fQ hlt';obtain ⟨u,hu,hnu⟩:=hvs j n hn1;have hb6:=hb.ext x6;refine kP nA lW (hs.ext (x1.trans x6)) (by omega) (by omega) (by simpa using hu) ?_;refine lF hb6 PN rfl ?_;refine (VW (p:=p) ⟨ns,rfl,hn.ext (x1.trans x6),hargs⟩ (hnu.ext (x1.trans x6)) (hargs n (List.mem_of_getElem? hn1)) (by omega) (by omega)).mono λr w7 ⟨⟨bb,hr,hbb⟩,x7⟩=>?_;subst hr;have:=hbb.2 (hnodes j n hn1);subst this;refine gG.2 (aD.2 (dS.2 ?_));rw [aU (by omega),eI];exact ⟨⟨j+1,rfl,by omega,x6.trans x7⟩,by simp only [aW];omega⟩
end Go.Proofs.YtgkkecladbmjkaaGreatDoor
namespace Go.Proofs.YtgkkecladbmjkaaGreatDoor
open Tryz
open Go.Vc Go.Tc
variable {i:dN} {m:gA} {x:gN} {k:Nat}
def ZV (n:aL):Prop:=n.okF/\(∀ r∈n.us,0<=r/\r < 18)/\((0<=n.df/\n.df < 18)\/(n.df=-1/\n.bareN=true))
theorem CR {h n:Nat} (h1:n<=h) (h2:h<=8):∀ r∈qE h n,0<=r/\r < 18:=λr hr=>by
 simp only [qE,List.mem_map,List.mem_range] at hr;obtain ⟨k,hk,rfl⟩:=hr;omega
theorem wW (h n:Nat):(qE h n).length=n:=by simp [qE]
theorem XM {h:Nat} {n:aL} (ox:rT i m x) (h8:h<=8) (ha:(aI i m x).length<=h) (hg:h - (aI i m x).length+hgt i m x<=8) (hn:eU i m x h=some n):ZV n:=by
 have xr:=ox.xr;have hop:=xr.1;have hl:=xr.2.1;have hu:=xr.2.2.1;have nm:=ox.nm;have pl:=ox.mr.1.2;have ll:=ox.mr.2.2.1.2;have fl:=ox.ir.1.2;have locl:m.locs.length<=10:=by simp [gA.locs];omega
 unfold eU at hn;by_cases d0:x.op=1
 ·rw [if_pos d0] at hn;cases hn;have e1:hgt i m x=1:=by simp [hgt,fU,d0]
  have e2:aI i m x=[]:=by simp [aI,d0,fP]
  rw [e1,e2] at hg;exact ⟨trivial,by simp [aL.us],.inl (by simp only [aL.df];simp at hg;omega)⟩
 rw [if_neg d0] at hn;by_cases d1:x.op=2
 ·rw [if_pos d1] at hn;cases hn;have e1:hgt i m x=1:=by simp [hgt,fU,d1]
  have e2:aI i m x=[]:=by simp [aI,d1,fP]
  rw [e1,e2] at hg;simp only [fI,d1,true_or,if_true] at nm;simp [zO,d1] at hl hu;exact ⟨trivial,by simp [aL.us];omega,.inl (by simp only [aL.df];simp at hg;omega)⟩
 rw [if_neg d1] at hn;by_cases d2:x.op=3
 ·rw [if_pos d2] at hn;cases hn;have e2:(aI i m x).length=1:=by simp [aI,d2]
  simp [zO,d2] at hl hu;exact ⟨trivial,by simp [aL.us];omega,.inl (by simp only [aL.df];omega)⟩
 rw [if_neg d2] at hn;by_cases d3:x.op=4
 ·rw [if_pos d3] at hn;cases hn
 rw [if_neg d3] at hn;by_cases d4:x.op=5
 ·rw [if_pos d4] at hn;cases hn;have e1:hgt i m x=2:=by simp [hgt,fU,d4]
  have e2:(aI i m x).length=1:=by simp [aI,d4]
  rw [e1,e2] at hg;exact ⟨trivial,by simp [aL.us];omega,.inl (by simp only [aL.df];omega)⟩
 rw [if_neg d4] at hn;by_cases d5:x.op=15\/x.op=16\/x.op=26
 ·rw [if_pos d5] at hn;cases hn;have e2:(aI i m x).length=1:=by rcases d5 with d5|d5|d5<;>simp [aI,d5,fP]
  exact ⟨d5,by simp [aL.us];omega,.inl (by simp only [aL.df];omega)⟩
 rw [if_neg d5] at hn;by_cases d6:x.op=22
 ·rw [if_pos d6] at hn;cases hn;have e2:(aI i m x).length=3:=by simp [aI,d6,fP]
  exact ⟨trivial,by simp [aL.us];omega,.inl (by simp only [aL.df];omega)⟩
 rw [if_neg d6] at hn;by_cases c1:x.op=23
 ·rw [if_pos c1] at hn;cases hn;exact ⟨trivial,by simp [aL.us],.inr ⟨rfl,rfl⟩⟩
 rw [if_neg c1] at hn;by_cases c2:x.op=24
 ·rw [if_pos c2] at hn;cases hn;have e2:(aI i m x).length=1:=by simp [aI,c2,fP]
  exact ⟨trivial,by simp [aL.us];omega,.inr ⟨rfl,rfl⟩⟩
 rw [if_neg c2] at hn;by_cases d9:x.op=25
 ·rw [if_pos d9] at hn;cases hn;have e1:hgt i m x=1:=by simp [hgt,fU,d9,fP]
  have e2:aI i m x=[]:=by simp [aI,d9,fP]
  rw [e1,e2] at hg;exact ⟨trivial,by simp [aL.us],.inl (by simp only [aL.df];simp at hg;omega)⟩
 rw [if_neg d9] at hn;by_cases d10:x.op=35
 ·rw [if_pos d10] at hn;cases hn;have e1:hgt i m x=1:=by simp [hgt,fU,d10,fP]
  have e2:aI i m x=[]:=by simp [aI,d10,fP]
  rw [e1,e2] at hg;exact ⟨trivial,by simp [aL.us],.inl (by simp only [aL.df];simp at hg;omega)⟩
 rw [if_neg d10] at hn;by_cases d11:x.op=33
 ·rw [if_pos d11] at hn;cases hn;have e1:hgt i m x=1:=by simp [hgt,fU,d11]
  have e2:aI i m x=[]:=by simp [aI,d11,fP]
  rw [e1,e2] at hg;simp [zO,d11] at hl hu;exact ⟨⟨by omega,by omega⟩,by simp [aL.us],.inl (by simp only [aL.df];simp at hg;omega)⟩
 rw [if_neg d11] at hn;by_cases d12:x.op=34
 ·rw [if_pos d12] at hn;cases hn;have e2:(aI i m x).length=1:=by simp [aI,d12]
  simp [zO,d12] at hl hu;exact ⟨⟨by omega,by omega⟩,by simp [aL.us];omega,.inr ⟨rfl,rfl⟩⟩
 rw [if_neg d12] at hn
 have res:∀ {r:Int} {q:Nat},q<=h->h - q+(jD r).length<=8->(0<=wY r ((h:Int) - (q:Nat))/\wY r ((h:Int) - (q:Nat)) < 18)\/wY r ((h:Int) - (q:Nat))=-1:=λ{r q} hq hr=>by
  unfold wY jD at *;by_cases h0:r=0
  ·rw [if_pos h0];exact .inr rfl
  ·rw [if_neg h0] at hr ⊢;simp at hr;exact .inl (by omega)
 by_cases d13:x.op=37
 ·rw [if_pos d13] at hn;cases hn;have e1:hgt i m x=(jD (i.meth x.a).result).length:=by simp [hgt,fU,d13,fP]
  have e2:aI i m x=(i.meth x.a).params:=by simp [aI,d13,fP]
  rw [e2] at ha hg;rw [e1] at hg;simp [zO,d13] at hl hu;simp [fI,d13] at nm;have hp:=(ox.ir.2.2.1.2.1 _ (dN.meth_mem hl nm)).1.2;refine ⟨⟨⟨by omega,by omega⟩,by rw [wW];omega⟩,λr hr=>CR ha h8 r hr,?_⟩;rcases res ha hg with h1|h1
  ·exact .inl h1
  ·exact .inr ⟨h1,rfl⟩
 rw [if_neg d13] at hn;by_cases d14:x.op=38
 ·rw [if_pos d14] at hn;cases hn;have e1:hgt i m x=(jD (i.imp x.a).result).length:=by simp [hgt,fU,d14,fP]
  have e2:aI i m x=(i.imp x.a).params:=by simp [aI,d14,fP]
  rw [e2] at ha hg;rw [e1] at hg;simp [zO,d14] at hl hu;simp [fI,d14] at nm;have hp:=(ox.ir.2.1.2 _ (dN.imp_mem hl nm)).2.1.2;refine ⟨⟨⟨by omega,by omega⟩,by rw [wW];omega⟩,λr hr=>CR ha h8 r hr,?_⟩;rcases res ha hg with h1|h1
  ·exact .inl h1
  ·exact .inr ⟨h1,rfl⟩
 rw [if_neg d14] at hn;by_cases d15:x.op=39
 ·rw [if_pos d15] at hn;cases hn;have e2:aI i m x=jD m.result:=by simp [aI,d15,fP]
  rw [e2] at ha;refine ⟨trivial,λr hr=>?_,.inr ⟨rfl,rfl⟩⟩;simp only [aL.us] at hr;split at hr
  ·simp at hr
  ·rename_i hne
   simp only [List.mem_singleton] at hr;unfold wY at hr hne;unfold jD at ha;by_cases h0:m.result=0
   ·rw [if_pos h0] at hne;exact absurd rfl hne
   ·rw [if_neg h0] at hr ha;simp at ha;omega
 rw [if_neg d15] at hn;by_cases d16:(kL x.op).1≠0
 ·rw [if_pos d16] at hn;cases hn
  have e0:x.op=27\/x.op=28\/x.op=17\/x.op=18\/x.op=29\/x.op=30\/x.op=36\/x.op=31\/x.op=32:=by
   apply Classical.byContradiction;intro hne;apply d16;simp only [kL];rw [if_neg (by omega),if_neg (by omega),if_neg (by omega),if_neg (by omega),if_neg (by omega)]
  rcases e0 with e|e|e|e|e|e|e|e|e <;>
   (have e1:(aI i m x).length=(kL x.op).1.toNat:=by simp [aI,kL,e,fP]
    have e2:hgt i m x=if (kL x.op).2 then 1 else 0:=by first|(simp [hgt,fU,kL,e,fP];done)|(simp [hgt,fU,kL,e,fP];split<;>rfl)
    simp [kL,e] at e1 e2;refine ⟨by simp [aL.okF,pJ,wW,kL,e],λr hr=>CR (n:=(kL x.op).1.toNat) (by simp [kL,e];omega) h8 r hr,?_⟩;simp [aL.df,aL.bareN,kL,e]
    try omega)
 ·rw [if_neg d16] at hn;cases hn
  have e0:fP x.op:=by
   have d16':(kL x.op).1=0:=by simpa using d16
   unfold fP;simp only [kL] at d16'
   repeat' (split at d16'<;>first|(simp at d16';done)|skip)
   omega
  have e2:(aI i m x).length=2:=by
   unfold aI;rw [if_neg (by omega),if_neg (by omega),if_neg (by omega),if_neg (by omega),if_pos e0];rfl
  exact ⟨e0,by simp [aL.us];omega,.inl (by simp only [aL.df];omega)⟩
def aL.falls:aL->Bool
 | .goto _|.ret _=>false
 | _=>true
theorem FX {h:Nat} {n:aL} (hn:eU i m x h=some n) (hf:n.falls=true):((k:Int)+1)∈fK x k:=by
 by_cases c1:x.op=23
 ·have:n=.goto x.a:=by simp [eU,c1] at hn;exact hn.symm
  subst this;cases hf
 by_cases c2:x.op=39
 ·have:n=.ret (wY m.result ((h:Int) - 1)):=by simp [eU,c2] at hn;exact hn.symm
  subst this;cases hf
 unfold fK;rw [if_neg c1];by_cases c3:x.op=24
 ·rw [if_pos c3];exact List.mem_cons_self
 ·rw [if_neg c3,if_neg c2];exact List.mem_singleton.2 rfl
theorem sK {h:Nat} (ho:eU i m x h=none):x.op=4:=by
 apply Classical.byContradiction;intro hne;unfold eU at ho
 iterate 17 (rcases XW ho with ⟨hc,ho⟩|⟨_,ho⟩;· (first|(cases ho;done)|exact absurd hc hne))
 cases ho
theorem MX {h:Nat} {t:Int} (hn:eU i m x h=some (.goto t)):x.op=23/\t=x.a:=by
 unfold eU at hn
 iterate 17 (rcases tN hn with ⟨hc,hn⟩|⟨_,hn⟩;· (first|(cases hn;done)|(cases hn;exact ⟨hc,rfl⟩)))
 cases hn
theorem DH {h:Nat} {q t:Int} (hn:eU i m x h=some (.branch q t)):x.op=24/\t=x.a:=by
 unfold eU at hn
 iterate 17 (rcases tN hn with ⟨hc,hn⟩|⟨_,hn⟩;· (first|(cases hn;done)|(cases hn;exact ⟨hc,rfl⟩)))
 cases hn
theorem BE {i:dN} {m:gA} {st:St} {r:List Bool} (R:zY i m st [] r):∀ k,∀ (a:Nat) (n:aL),(aV i m st r k).1[a]?=some n->n.falls=true->a+1 < (aV i m st r k).1.length\/(a+1=(aV i m st r k).1.length/\r.getD k false=true)
 | 0,a,n,h,_=>by
  have hlt:=(List.getElem?_eq_some_iff.1 h).1;have hz:r.getD 0 false=true:=by rcases R.z with hz|hz;exact hz;cases hz
  by_cases h1:a+1 < (aV i m st r 0).1.length
  ·exact .inl h1
  ·exact .inr ⟨by omega,hz⟩
 | k+1,a,n,h,hf=>by
  have ih:=BE R k;cases hk:r.getD k false with
  | false=>
   have e:(aV i m st r (k+1)).1=(aV i m st r k).1:=by simp only [aV,hk];rfl
   rw [e] at h ⊢;rcases ih a n h hf with h1|⟨_,h1⟩
   ·exact .inl h1
   ·rw [hk] at h1;cases h1
  | true=>
   have e:(aV i m st r (k+1)).1=(aV i m st r k).1++.tick::(eU i m (m.ins k) (st.s k).length).toList:=by simp only [aV,hk];rfl
   have next:((k:Int)+1)∈fK (m.ins k) k->r.getD (k+1) false=true:=λhm=>by
    rcases R.cl k hk _ hm with h1|h1
    ·rwa [show ((k:Int)+1).toNat=k+1 by omega] at h1
    ·cases h1
   rw [e] at h ⊢;rw [List.getElem?_append] at h;split at h
   ·left;simp;omega
   ·rename_i hge
    have hlt:=(List.getElem?_eq_some_iff.1 h).1;cases ho:eU i m (m.ins k) (st.s k).length with
    | none=>
     rw [ho] at hlt;simp at hlt;right;refine ⟨by simp;omega,next ?_⟩;have h4:(m.ins k).op=4:=sK ho;simp [fK,h4]
    | some y=>
     rw [ho] at hlt h;simp at hlt;by_cases ha:a=(aV i m st r k).1.length
     ·left;simp;omega
     ·right;have ea:a - (aV i m st r k).1.length=1:=by omega
      rw [ea] at h;simp at h;subst h;exact ⟨by simp;omega,next (FX ho hf)⟩
theorem xN {i:dN} {m:gA} {st:St} {r:List Bool}:∀ (k pc:Nat),pc < k->r.getD pc false=true->∃ t:Nat,(aV i m st r k).2[pc]?=some (t:Int)/\t < (aV i m st r k).1.length
 | k+1,pc,h,hr=>by
  have hl:=(oJ i m st r k).2.1;by_cases hpk:pc=k
  ·subst hpk;have e:aV i m st r (pc+1)=((aV i m st r pc).1++.tick::(eU i m (m.ins pc) (st.s pc).length).toList,(aV i m st r pc).2++[((aV i m st r pc).1.length:Int)]):=by simp only [aV,hr];rfl
   rw [e];exact ⟨(aV i m st r pc).1.length,by rw [List.getElem?_append_right (by omega),hl];simp,by simp⟩
  ·obtain ⟨t,h1,h2⟩:=xN (i:=i) (m:=m) (st:=st) (r:=r) k pc (by omega) hr;cases hk:r.getD k false with
   | false=>
    have e:aV i m st r (k+1)=((aV i m st r k).1,(aV i m st r k).2++[-1]):=by simp only [aV,hk];rfl
    rw [e];exact ⟨t,by rw [List.getElem?_append_left (by omega)];exact h1,h2⟩
   | true=>
    have e:aV i m st r (k+1)=((aV i m st r k).1++.tick::(eU i m (m.ins k) (st.s k).length).toList,(aV i m st r k).2++[((aV i m st r k).1.length:Int)]):=by simp only [aV,hk];rfl
    rw [e];exact ⟨t,by rw [List.getElem?_append_left (by omega)];exact h1,by simp;omega⟩
theorem BB {i:dN} {m:gA} {st:St} {r:List Bool} (hox:∀ x∈m.code,rT i m x) (hwf:WF m st) (hled:∀ k,st.h k=true->Led i m st k) (R:zY i m st [] r):∀ k,k<=m.code.length->∀ n∈(aV i m st r k).1,ZV n/\(match n with|.goto t|.branch _ t=>r.getD t.toNat false=true|_=>True)
 | 0,_,n,h=>by
  simp only [aV,List.mem_map,List.mem_range] at h;obtain ⟨j,hj,rfl⟩:=h
  have mr:m.right\/m.code.length=0:=by
   by_cases h0:m.code.length=0
   ·exact .inr h0
   ·obtain ⟨x,hx⟩:=fQ (l:=m.code) (j:=0) (by omega);exact .inl (hox x (List.mem_of_getElem? hx)).mr
  have hz:r.getD 0 false=true:=by rcases R.z with hz|hz;exact hz;cases hz
  have h0:0 < r.length:=pV hz;have hrl:=R.rl;rcases mr with mr|mr
  ·have pl:=mr.1.2;have ll:=mr.2.2.1.2;exact ⟨⟨trivial,by simp [aL.us],.inl (by simp only [aL.df];omega)⟩,trivial⟩
  ·omega
 | k+1,hk1,n,h=>by
  have ih:=BB hox hwf hled R k (by omega);cases hk:r.getD k false with
  | false=>
   have e:(aV i m st r (k+1)).1=(aV i m st r k).1:=by simp only [aV,hk];rfl
   rw [e] at h;exact ih n h
  | true=>
   have e:(aV i m st r (k+1)).1=(aV i m st r k).1++.tick::(eU i m (m.ins k) (st.s k).length).toList:=by simp only [aV,hk];rfl
   rw [e] at h;rcases List.mem_append.1 h with h|h
   ·exact ih n h
   ·rcases List.mem_cons.1 h with h|h
    ·subst h;exact ⟨⟨trivial,by simp [aL.us],.inr ⟨rfl,rfl⟩⟩,trivial⟩
    ·have hn:eU i m (m.ins k) (st.s k).length=some n:=by simpa using h
     have hh:=R.rs k hk;obtain ⟨out,hdo,_⟩:=hled k hh;obtain ⟨hkd,hl8⟩:=hwf.kd k hh;have ox:=hox _ (vU (m:=m) (k:=k) (by omega));obtain ⟨_,ho8,hask,hlen⟩:=uL ox hkd hdo;refine ⟨XM ox hl8 hask (by omega) hn,?_⟩
     have jmp:∀ t,t∈fK (m.ins k) k->r.getD t.toNat false=true:=λt ht=>by
      rcases R.cl k hk t ht with h1|h1
      ·exact h1
      ·cases h1
     cases n with
     | goto t=>
      obtain ⟨e1,rfl⟩:=MX hn;exact jmp _ (by simp [fK,e1])
     | branch q t=>
      obtain ⟨e1,rfl⟩:=DH hn;exact jmp _ (by simp [fK,e1])
     | _=>trivial
theorem FV {st:St} {r:List Bool} (ht:lL i) (hk:k < i.methods.length) (hw:lK i (i.meth k) (some st)) (R:zY i (i.meth k) st [] r):uN ⟨(i.meth k).params.length,18,jA i (i.meth k) st r⟩:=by
 have hmi:=iI (i:=i) (a:=(k:Int)) (by omega) (by omega);rw [Int.toNat_natCast] at hmi;have ir:=ht.1;have mr:(i.meth k).right:=ir.2.2.1.2.1 _ (List.mem_of_getElem? hmi);obtain ⟨hox,hwf,hh0,hs0,hled⟩:=hw.led ir mr;generalize hmm:i.meth k=m at *;have pl:=mr.1.2;have ll:=mr.2.2.1.2;have lc:=mr.2.2.2.1.2;obtain ⟨c1,c2,c3,c4⟩:=FW i m st r;have hz:r.getD 0 false=true:=by rcases R.z with hz|hz;exact hz;cases hz
 have hl0:0 < m.code.length:=by have:=pV hz;have:=R.rl;omega
 obtain ⟨t0,ht0,htl⟩:=xN (i:=i) (m:=m) (st:=st) (r:=r) m.code.length 0 hl0 hz;have hlen:(jA i m st r).length=(aV i m st r m.code.length).1.length:=by simp [jA]
 refine ⟨by dsimp only;omega,by dsimp only;omega,by dsimp only;decide,by dsimp only;decide,by dsimp only;omega,by dsimp only;omega,by dsimp only;omega,λa n hn=>?_⟩;have hn:(jA i m st r)[a]?=some n:=hn;have hn':=hn;rw [show jA i m st r=(aV i m st r m.code.length).1.map (lJ (aV i m st r m.code.length).2) from rfl,List.getElem?_map,Option.map_eq_some_iff] at hn';obtain ⟨y,hy,rfl⟩:=hn';obtain ⟨⟨o1,o2,o3⟩,o4⟩:=BB hox hwf hled R m.code.length (Nat.le_refl _) y (List.mem_of_getElem? hy)
 have hcend:r.getD m.code.length false=false:=by
  cases hc:r.getD m.code.length false with
  | false=>rfl
  | true=>have:=pV hc;have:=R.rl;omega
 have fall:y.falls=true->(a:Int)+1 < ((jA i m st r).length:Int):=λhf=>by
  rcases BE R m.code.length a y hy hf with h1|⟨_,h1⟩
  ·omega
  ·rw [hcend] at h1;cases h1
 have aim:∀ t:Int,r.getD t.toNat false=true->0<=cT (aV i m st r m.code.length).2 t.toNat/\cT (aV i m st r m.code.length).2 t.toNat < ((jA i m st r).length:Int):=λt hr=>by
  have:=pV hr;have:=R.rl;obtain ⟨q,h1,h2⟩:=xN (i:=i) (m:=m) (st:=st) (r:=r) m.code.length t.toNat (by omega) hr
  have e:cT (aV i m st r m.code.length).2 t.toNat=(q:Int):=by
   unfold cT;rw [List.getD_eq_getElem?_getD,h1];rfl
  rw [e];omega
 refine ⟨?_,?_,?_,?_⟩
 ·cases y<;>exact o1
 ·cases y<;>exact o2
 ·intro t htn;cases y with
  | goto to=>
   have htn:t∈[cT (aV i m st r m.code.length).2 to.toNat]:=htn;rw [List.mem_singleton] at htn;subst htn;exact aim to o4
  | branch q to=>
   have hA:=aim to o4;have hF:=fall rfl;simp only [lJ,aL.nx] at htn;split at htn
   ·rw [List.mem_singleton] at htn;subst htn;exact ⟨by omega,hF⟩
   ·rcases List.mem_cons.1 htn with h1|h1
    ·subst h1;exact ⟨by omega,hF⟩
    ·rw [List.mem_singleton] at h1;subst h1;exact hA
  | ret s=>simp [lJ,aL.nx] at htn
  | _=>
   have hF:=fall rfl;simp only [lJ,aL.nx,List.mem_singleton] at htn;subst htn;exact ⟨by omega,hF⟩
 ·cases y<;>exact o3
end Go.Proofs.YtgkkecladbmjkaaGreatDoor
namespace Go.Proofs.YtgkkecladbmjkaaGreatDoor
open Tryz
open Go.Vc Go.Tc
variable {w:O} {K:Z->O->Prop}
def uY:gA:=⟨[],0,[],[⟨1,7,0⟩,⟨4,0,0⟩,⟨39,0,0⟩]⟩
def zT:dN:=⟨⟨#[97]⟩,[],[],[uY],[]⟩
theorem CI:lL zT:=by
 refine ⟨by simp [dN.right,oC,lM,gA.right,gN.right,zO,dN.meth,zT,uY],λm hm=>?_⟩;have:m=uY:=by simpa [zT] using hm
 subst this;refine ⟨⟨[[],[1],[]],[true,true,true],[false,false,false]⟩,.inr ⟨by simp [uY,fI],?_⟩⟩;exact .go (pc:=0) (s':=⟨[[],[1],[]],[true,true,false],[false,true,false]⟩) rfl rfl (.go (pc:=1) (s':=⟨[[],[1],[]],[true,true,true],[false,false,true]⟩) rfl rfl (.go (pc:=2) (s':=⟨[[],[1],[]],[true,true,true],[false,false,false]⟩) rfl rfl (.done rfl)))
theorem aLi {st:Tc.St} {r:List Bool} (hw:lK zT uY (some st)) (R:zY zT uY st [] r):jA zT uY st r=[.tick,.const 10 7,.tick,.tick,.ret (-1)]/\(aV zT uY st r 3).2=[0,2,3]:=by
 have mr:uY.right:=CI.1.2.2.1.2.1 uY (by simp [zT]);obtain ⟨hox,hwf,hh0,hs0,hled⟩:=hw.led CI.1 mr;have h0:r.getD 0 false=true:=by rcases R.z with h|h;exact h;cases h
 have h1:r.getD 1 false=true:=by rcases R.cl 0 h0 1 (by decide) with h|h;exact h;cases h
 have h2:r.getD 2 false=true:=by rcases R.cl 1 h1 2 (by decide) with h|h;exact h;cases h
 have e1:eU zT uY (uY.ins 0) (st.s 0).length=some (.const 10 7):=by rw [hs0];rfl
 have e2:eU zT uY (uY.ins 1) (st.s 1).length=none:=rfl;have e3:eU zT uY (uY.ins 2) (st.s 2).length=some (.ret (-1)):=rfl
 have k:aV zT uY st r 3=([.tick,.const 10 7,.tick,.tick,.ret (-1)],[0,2,3]):=by
  simp only [aV,h0,h1,h2,e1,e2,e3,if_true];rfl
 refine ⟨?_,by rw [k]⟩;show (aV zT uY st r 3).1.map (lJ (aV zT uY st r 3).2)=_;rw [k];rfl
theorem aCs {x y:Operand}:(do eqGuard .eql 161 x y (.agg #[i64 10,i32 7]) (.agg #[i64 10,i32 7]);binOp .eql 161 (.agg #[i64 10,i32 7]) (.agg #[i64 10,i32 7])).run prog w=.ok (.bool true) w:=by kernel_rfl
theorem YR {x y:Operand}:(do eqGuard .eql 94 x y (.iface 164 (.agg #[])) (.iface 164 (.agg #[]));binOp .eql 94 (.iface 164 (.agg #[])) (.iface 164 (.agg #[]))).run prog w=.ok (.bool true) w:=by kernel_rfl
theorem aJd (hT:mS w):pY w ⟨#[97]⟩:=λw' hx=>
 have h:PJ ⟨#[97]⟩ [⟨#[97]⟩,⟨#[]⟩] [0,1]=true:=by kernel_rfl
 ⟨GF (hT.ext hx) (qO h),BG (hT.ext hx) (qO h) (by kernel_rfl),by decide⟩
theorem PO (hT:mS w):aB prog 32 #[] w λv w'=>v=.bool true/\aE w w':=by
 apply aPb;suffices key:∀ R:Z->O->Prop,(∀ w',aE w w'->R (.bool true) w')->EF w R from key _ λ_ hx=>⟨rfl,hx⟩;intro R hR;unfold EF;refine kO iK [(0,i64 1),(1,i64 7)] rfl rfl (kO iK [(0,i64 4)] rfl rfl (kO iK [(0,i64 39)] rfl rfl ?_));refine vM underlying71 mE rfl (by decide) [.agg #[i64 1,i64 7,i64 0],.agg #[i64 4,i64 0,i64 0],.agg #[i64 39,i64 0,i64 0]] rfl rfl (by intro v hv;simp only [List.mem_cons,List.not_mem_nil,or_false] at hv;rcases hv with rfl|rfl|rfl<;>rfl) (by decide) (by decide) λcv w1 hc1 x1=>?_;have hc:lG w1 cv uY.code:=aA.of_own hc1;obtain ⟨ca,cc,rfl⟩:=aA.shape hc;refine kO GX [(3,_)] rfl rfl ?_;refine vM underlying44 nD rfl (by decide) [.agg #[cM,i64 0,cM,.slice ca uY.code.length cc]] rfl rfl (by intro v hv;rw [List.mem_singleton] at hv;subst hv;rfl) (by decide) (by decide) λmv w2 hm2 x2=>?_
 have hm:mI w2 mv [uY]:=by
  refine ⟨[cM,i64 0,cM,.slice ca uY.code.length cc],aA.of_own hm2,λk x hk=>?_⟩
  match k,hk with
  | 0,hk=>cases hk;exact ⟨_,rfl,cM,cM,_,rfl,aA.nil _ _,aA.nil _ _,hc.ext x2⟩
  | k+1,hk=>simp at hk
 obtain ⟨ma,mc,rfl⟩:∃ a c,mv=.slice a 1 c:=by obtain ⟨cs,h1,_⟩:=hm;exact aA.shape h1
 refine kO YZ [(0,.string ⟨#[97]⟩),(3,_)] rfl rfl ?_;have x02:=x1.trans x2;have hA:gZ w2 ⟨cM,cM,.slice ma 1 mc,cM⟩ zT:=⟨aA.nil _ _,⟨[],aA.nil _ _,λk x hk=>by simp [zT] at hk⟩,hm,aA.nil _ _⟩;refine aLj (p:=⟨cM,cM,.slice ma 1 mc,cM⟩) (i:=zT) (k:=0) hA ⟨aJd (hT.ext x02),λx hx=>by simp [zT] at hx⟩ (by simp [dN.rg,zT,uY,gN.rg]) (λst r nv sv w3 _ _ _ hw Rc hN hS x3=>?_) λw3 hne _=>absurd ⟨CI,by decide,by decide⟩ hne;have hw:lK zT uY (some st):=hw;have Rc:zY zT uY st [] r:=Rc;obtain ⟨e1,e2⟩:=aLi hw Rc;have hN:nI w3 nv [.tick,.const 10 7,.tick,.tick,.ret (-1)]:=by rw [<- e1];exact hN
 have hS:aQ w3 sv [0,2,3]:=by rw [<- e2];exact hS
 obtain ⟨vs,hvs,hvn⟩:=hN;obtain ⟨na,nc,rfl⟩:=hvs.shape;obtain ⟨u0,hu0,s0,rfl,_⟩:=hvn 0 _ rfl;obtain ⟨u1,hu1,s1,rfl,_⟩:=hvn 1 _ rfl;obtain ⟨u3,hu3,s3,rfl,_⟩:=hvn 3 _ rfl;refine qC (v:=.agg #[i64 0,i64 18,.slice na 5 nc]) rfl (qC (v:=sv) rfl (qC (v:=.bool true) rfl ?_));refine pX VL rfl rfl λb4 w4 hb4 x4=>?_;have hb4:fB w4 b4 [i64 0,i64 18,.slice na 5 nc]:=hb4;have hvs4:aA w4 (.slice na 5 nc) 1 5 vs:=hvs.ext x4;have ne:∀ {a:Int},decide (a≠a)=false:=λ{a}=>decide_eq_false λh=>h rfl;refine gG.2 ?_;simp only [Bool.not_true,mK];refine bQ hb4 eZ jH rfl (hU nA hvs4 (dZ.2 ?_));rw [show decide (((5:Nat):Int)≠5)=false from rfl];simp only [bR,mK,reduceIte,Bool.false_eq_true];refine hU aM (hS.ext x4) (dZ.2 ?_);rw [show decide (((([0,2,3]:List Int).length:Nat):Int)≠3)=false from rfl];simp only [mK];refine bQ hb4 hY aF rfl (dZ.2 ?_);rw [ne];refine aQy (aD.2 ?_);refine bQ hb4 eZ jH rfl (kP nA lW hvs4 (by decide) (by decide) hu1 ?_);refine V.ok (zS underlying161 rfl uJ) ?_;rw [if_pos rfl];refine gM.2 (gL.2 ?_);refine pX pN rfl rfl λb5 w5 hb5 x5=>?_;have hb5:fB w5 b5 [i64 10,i32 7]:=hb5;have hb4:=hb4.ext x5;have hvs5:=hvs4.ext x5;simp only [rJ];refine lF hb5 aLq rfl (kO yL [(0,i64 10),(1,i32 7)] rfl rfl ?_);refine V.ok aCs ?_
 simp only [bR,rJ,reduceIte];refine bQ hb4 eZ jH rfl (kP nA lW hvs5 (by decide) (by decide) hu0 ?_);refine kO NY [] rfl rfl (XG MW (V.ok YR ?_));simp only [bR,rJ,reduceIte];refine bQ hb4 eZ jH rfl (kP nA lW hvs5 (by decide) (by decide) hu3 ?_);refine kO NY [] rfl rfl (XG MW (V.ok YR ?_));simp only [bR,rJ,reduceIte];have hS5:=(hS.ext x4).ext x5;have te:∀ {a:Int},decide (a=a)=true:=λ{a}=>decide_eq_true rfl;refine kP aM aF hS5 (by decide) (by decide) (u:=i64 0) rfl (aO.2 ?_);rw [te];simp only [bR,rJ,reduceIte];refine kP aM aF hS5 (by decide) (by decide) (u:=i64 2) rfl (aO.2 ?_);rw [te];simp only [bR,rJ,reduceIte];refine kP aM aF hS5 (by decide) (by decide) (u:=i64 3) rfl (aO.2 ?_);rw [te];exact hR _ (((x02.trans x3).trans x4).trans x5)
end Go.Proofs.YtgkkecladbmjkaaGreatDoor
namespace Go.Proofs.YtgkkecladbmjkaaGreatDoor
open Tryz
open Go.Vc Go.Tc
def mM.at' (p:mM) (k:Nat):aL:=p.nodes.getD k .tick
def aL.pureB:aL->Bool
 | .const _ _|.move _ _|.bin _ _ _ _|.un _ _ _|.choose _ _ _ _|.tick|.goto _|.branch _ _=>true
 | _=>false
def pA (l:List Int) (r:Int):Int:=(l[r.toNat]?).getD 0
def rO (g:aL) (l:List Int) (a:Int):List Int × Int:=
 match g with
 | .const d n=>(l.set d.toNat n,a+1)
 | .move d s=>(l.set d.toNat (pA l s),a+1)
 | .bin op d x y=>(l.set d.toNat (nL op (pA l x) (pA l y)),a+1)
 | .un op d x=>(l.set d.toNat (unF op (pA l x)),a+1)
 | .choose d c x y=>(l.set d.toNat (sB (pA l c) (pA l x) (pA l y)),a+1)
 | .goto t=>(l,t)
 | .branch c t=>(l,if pA l c≠0 then t else a+1)
 | _=>(l,a+1)
def zP (p:mM):Nat->List Int->Nat->Nat->List Int × Nat × Nat
 | 0,l,f,t=>(l,f,t)
 | n+1,l,f,t=>if (p.at' f).pureB=true then zP p n (rO (p.at' f) l f).1 (rO (p.at' f) l f).2.toNat (if (p.at' f).isTick then t+1 else t) else (l,f,t)
theorem aCv (g:aL) (l:List Int) (a:Int):(rO g l a).1.length=l.length:=by cases g<;>simp [rO]
structure qX (g loc s:List Int):Prop where
 len:g.length=18
 lo:∀ j,j < loc.length->g[j]?=loc[j]?
 st:∀ j,j < s.length->g[10+j]?=s[j]?
 ll:loc.length<=10
 sl:s.length<=8
section
variable {g loc s:List Int}
theorem qX.take (h:qX g loc s) (k:Nat):qX g loc (s.take k):=
 ⟨h.len,h.lo,λj hj=>by
  have hj2:j < k/\j < s.length:=by rw [List.length_take] at hj;omega
  rw [List.getElem?_take,if_pos hj2.1];exact h.st j hj2.2,h.ll,by have:=h.sl;rw [List.length_take];omega⟩
theorem qX.put (h:qX g loc s) {k:Nat} (hk:k<=s.length) (h8:k < 8) (z:Int):qX (g.set (10+k) z) loc (s.take k++[z]):=by
 have hl:=h.len;have hll:=h.ll;have e:(s.take k).length=k:=by rw [List.length_take];omega
 refine ⟨by simpa using hl,λj hj=>?_,λj hj=>?_,hll,by rw [List.length_append,e];simp;omega⟩
 ·rw [List.getElem?_set_ne (by omega)];exact h.lo j hj
 ·rw [List.length_append,e] at hj;simp at hj;by_cases hjk:j=k
  ·subst hjk;rw [List.getElem?_set_self (by omega),List.getElem?_append_right (by omega),e];simp
  ·rw [List.getElem?_set_ne (by omega),List.getElem?_append_left (by omega),List.getElem?_take,if_pos (by omega)];exact h.st j (by omega)
theorem qX.setL (h:qX g loc s) {a:Nat} (ha:a < loc.length) (z:Int):qX (g.set a z) (loc.set a z) s:=by
 have hl:=h.len;have hll:=h.ll;refine ⟨by simpa using hl,λj hj=>?_,λj hj=>?_,by simpa using hll,h.sl⟩
 ·rw [List.length_set] at hj;rw [List.getElem?_set,List.getElem?_set,h.lo j hj,if_pos ha,if_pos (show a < g.length by omega)]
 ·rw [List.getElem?_set_ne (by omega)];exact h.st j hj
theorem qX.getS (h:qX g loc s) {j:Nat} {r:Int} (hj:j < s.length) (hr:r=10+(j:Int)):pA g r=s.getD j 0:=by
 subst hr;unfold pA;rw [show (10+(j:Int)).toNat=10+j by omega,h.st j hj,List.getD_eq_getElem?_getD]
theorem qX.getL (h:qX g loc s) {a:Int} (h0:0<=a) (ha:a < loc.length):pA g a=loc.getD a.toNat 0:=by
 unfold pA;rw [h.lo _ (by omega),List.getD_eq_getElem?_getD]
theorem sH {n j:Nat}:cT (jE n s) j=s.getD (s.length - n+j) 0:=by
 unfold cT jE;rw [List.getD_eq_getElem?_getD,List.getElem?_drop,List.getD_eq_getElem?_getD]
def OH (op:Int):Prop:=op=1\/op=2\/op=3\/op=5\/fP op\/op=15\/op=22\/op=24
theorem aTg {i:dN} {m:gA} {x:gN} {f:kC} {fd:List (List Int)} {nd:aL} {T:List Int} {pc:Nat} {a:Int} (hop:OH x.op) (hr:x.right) (R:qX g f.loc s) (hn:(aI i m x).length<=s.length) (h8:s.length - (aI i m x).length+hgt i m x<=8)
  (hx:x.op=2\/x.op=3->x.a < f.loc.length) (hl:eU i m x s.length=some nd) :
  qX (rO (lJ T nd) g a).1 (oN x f.loc (jE (aI i m x).length s)) (kX (aI i m x).length s++kT x f fd (jE (aI i m x).length s)) /\
  ((uW x pc (jE (aI i m x).length s)=pc+1/\(rO (lJ T nd) g a).2=a+1)\/(x.op=24/\uW x pc (jE (aI i m x).length s)=x.a.toNat/\(rO (lJ T nd) g a).2=cT T x.a.toNat))/\nd.pureB=true:=by
 obtain ⟨op,xa,xb⟩:=x;have hra:=hr.2;unfold OH at hop;dsimp only at hop hx;rcases hop with rfl|rfl|rfl|rfl|hb|rfl|rfl|rfl
 case _=>
  have e1:aI i m ⟨1,xa,xb⟩=[]:=by simp [aI,fP]
  have e2:hgt i m ⟨1,xa,xb⟩=1:=by simp [hgt,fU]
  have e3:nd=.const (10+(s.length:Int)) (IntKind.i32.wrap xa):=by simp [eU] at hl;exact hl.symm
  subst e3;rw [e1,e2] at h8;rw [e1]
  have hw:IntKind.i32.wrap xa=xa:=by
   have h1:-2147483648<=xa:=hra.1;have h2:xa<=2147483647:=hra.2.1;simp only [IntKind.wrap_i32];omega
  refine ⟨?_,.inl ⟨rfl,rfl⟩,rfl⟩;have:=R.put (k:=s.length) (Nat.le_refl _) (by simp at h8;omega) xa;simp only [lJ,rO,hw,oN,kX,kT];simpa [show (10+(s.length:Int)).toNat=10+s.length by omega] using this
 case _=>
  have e1:aI i m ⟨2,xa,xb⟩=[]:=by simp [aI,fP]
  have e2:hgt i m ⟨2,xa,xb⟩=1:=by simp [hgt,fU]
  have e3:nd=.move (10+(s.length:Int)) xa:=by simp [eU] at hl;exact hl.symm
  subst e3;rw [e1,e2] at h8;rw [e1];have h0:0<=xa:=hra.1;refine ⟨?_,.inl ⟨rfl,rfl⟩,rfl⟩;have:=R.put (k:=s.length) (Nat.le_refl _) (by simp at h8;omega) (f.loc.getD xa.toNat 0);simp only [lJ,rO,oN,kX,kT,R.getL h0 (hx (.inl rfl))];simpa [show (10+(s.length:Int)).toNat=10+s.length by omega] using this
 case _=>
  have e1:(aI i m ⟨3,xa,xb⟩).length=1:=by simp [aI]
  have e3:nd=.move xa (10+((s.length:Int) - 1)):=by simp [eU] at hl;exact hl.symm
  subst e3;rw [e1] at hn ⊢;have h0:0<=xa:=hra.1;have hxa:=hx (.inr rfl);refine ⟨?_,.inl ⟨rfl,rfl⟩,rfl⟩;have:=(R.take (s.length - 1)).setL (a:=xa.toNat) (by omega) (s.getD (s.length - 1) 0);simp only [lJ,rO,oN,kX,kT,sH,R.getS (j:=s.length - 1) (r:=10+((s.length:Int) - 1)) (by omega) (by omega)];simpa using this
 case _=>
  have e1:(aI i m ⟨5,xa,xb⟩).length=1:=by simp [aI]
  have e2:hgt i m ⟨5,xa,xb⟩=2:=by simp [hgt,fU]
  have e3:nd=.move (10+(s.length:Int)) (10+((s.length:Int) - 1)):=by simp [eU] at hl;exact hl.symm
  subst e3;rw [e1,e2] at h8;rw [e1] at hn ⊢;refine ⟨?_,.inl ⟨rfl,rfl⟩,rfl⟩;have:=R.put (k:=s.length) (Nat.le_refl _) (by omega) (s.getD (s.length - 1) 0)
  have e4:s.take (s.length - 1)++[s.getD (s.length - 1) 0,s.getD (s.length - 1) 0]=s.take s.length++[s.getD (s.length - 1) 0]:=by
   have h1:=List.take_add_one (l:=s) (i:=s.length - 1);rw [show s.length - 1+1=s.length by omega] at h1;rw [h1]
   have h2:s[s.length - 1]?=some (s.getD (s.length - 1) 0):=by
    rw [List.getD_eq_getElem?_getD];cases e:s[s.length - 1]? with
    | none=>rw [List.getElem?_eq_none_iff] at e;omega
    | some z=>rfl
   rw [h2];simp
  show qX (g.set (10+(s.length:Int)).toNat (pA g (10+((s.length:Int) - 1)))) f.loc (s.take (s.length - 1)++[cT (jE 1 s) 0,cT (jE 1 s) 0]);rw [sH,Nat.add_zero,e4,R.getS (j:=s.length - 1) (r:=10+((s.length:Int) - 1)) (by omega) (by omega),show (10+(s.length:Int)).toNat=10+s.length by omega];exact this
 case _=>
  have hb':(6<=op/\op<=14)\/(19<=op/\op<=21):=hb
  have e1:(aI i m ⟨op,xa,xb⟩).length=2:=by
   simp only [aI]
   repeat rw [if_neg (by omega)]
   rw [if_pos hb];rfl
  have e2:hgt i m ⟨op,xa,xb⟩=1:=by
   simp only [hgt,fU]
   repeat rw [if_neg (by omega)]
   rw [if_pos hb];rfl
  have e3:nd=.bin op (10+((s.length:Int) - 2)) (10+((s.length:Int) - 2)) (10+((s.length:Int) - 1)):=by
   simp only [eU] at hl
   have hs:¬ (kL op).1≠0:=by
    simp only [kL]
    repeat rw [if_neg (by omega)]
    exact λh=>h rfl
   repeat rw [if_neg (by omega)] at hl
   exact (Option.some.inj hl).symm
  subst e3;rw [e1,e2] at h8;rw [e1] at hn ⊢;refine ⟨?_,.inl ⟨by simp only [uW];rw [if_neg (by omega),if_neg (by omega)],rfl⟩,rfl⟩;have:=R.put (k:=s.length - 2) (by omega) (by omega) (nL op (s.getD (s.length - 2) 0) (s.getD (s.length - 1) 0))
  have e4:∀ t,kT ⟨op,xa,xb⟩ f fd t=[nL op (cT t 0) (cT t 1)]:=λt=>by
   simp only [kT]
   repeat rw [if_neg (by omega)]
  have e5:∀ t,oN ⟨op,xa,xb⟩ f.loc t=f.loc:=λt=>by
   simp only [oN];rw [if_neg (by omega)]
  simp only [lJ,rO,kX,e4,e5,sH,R.getS (j:=s.length - 2) (r:=10+((s.length:Int) - 2)) (by omega) (by omega),R.getS (j:=s.length - 1) (r:=10+((s.length:Int) - 1)) (by omega) (by omega),show (10+((s.length:Int) - 2)).toNat=10+(s.length - 2) by omega,Nat.add_zero,show s.length - 2+1=s.length - 1 by omega];exact this
 case _=>
  have e1:(aI i m ⟨15,xa,xb⟩).length=1:=by simp [aI]
  have e2:hgt i m ⟨15,xa,xb⟩=1:=by simp [hgt,fU,fP]
  have e3:nd=.un 15 (10+((s.length:Int) - 1)) (10+((s.length:Int) - 1)):=by simp [eU] at hl;exact hl.symm
  subst e3;rw [e1,e2] at h8;rw [e1] at hn ⊢;refine ⟨?_,.inl ⟨rfl,rfl⟩,rfl⟩;have:=R.put (k:=s.length - 1) (by omega) (by omega) (unF 15 (s.getD (s.length - 1) 0));simp only [lJ,rO,oN,kX,kT,sH,R.getS (j:=s.length - 1) (r:=10+((s.length:Int) - 1)) (by omega) (by omega),show (10+((s.length:Int) - 1)).toNat=10+(s.length - 1) by omega];simpa using this
 case _=>
  have e1:(aI i m ⟨22,xa,xb⟩).length=3:=by simp [aI,fP]
  have e2:hgt i m ⟨22,xa,xb⟩=1:=by simp [hgt,fU,fP]
  have e3:nd=.choose (10+((s.length:Int) - 3)) (10+((s.length:Int) - 3)) (10+((s.length:Int) - 2)) (10+((s.length:Int) - 1)):=by simp [eU] at hl;exact hl.symm
  subst e3;rw [e1,e2] at h8;rw [e1] at hn ⊢;refine ⟨?_,.inl ⟨rfl,rfl⟩,rfl⟩;have:=R.put (k:=s.length - 3) (by omega) (by omega) (sB (s.getD (s.length - 3) 0) (s.getD (s.length - 2) 0) (s.getD (s.length - 1) 0));simp only [lJ,rO,oN,kX,kT,sH,R.getS (j:=s.length - 3) (r:=10+((s.length:Int) - 3)) (by omega) (by omega),R.getS (j:=s.length - 2) (r:=10+((s.length:Int) - 2)) (by omega) (by omega),R.getS (j:=s.length - 1) (r:=10+((s.length:Int) - 1)) (by omega) (by omega),show (10+((s.length:Int) - 3)).toNat=10+(s.length - 3) by omega,show s.length - 3+1=s.length - 2 by omega,show s.length - 3+2=s.length - 1 by omega];simpa using this
 case _=>
  have e1:(aI i m ⟨24,xa,xb⟩).length=1:=by simp [aI,fP]
  have e3:nd=.branch (10+((s.length:Int) - 1)) xa:=by simp [eU] at hl;exact hl.symm
  subst e3;rw [e1] at hn ⊢;have hg:=R.getS (j:=s.length - 1) (r:=10+((s.length:Int) - 1)) (by omega) (by omega);refine ⟨?_,?_,rfl⟩
  ·have:=R.take (s.length - 1);simp only [lJ,rO,oN,kX,kT];simpa using this
  ·simp only [lJ,rO,uW,sH,hg,Nat.add_zero];by_cases hz:s.getD (s.length - 1) 0=0
   ·exact .inl ⟨by rw [if_neg (by decide),if_pos trivial,if_pos hz],by rw [if_neg (λh=>h hz)]⟩
   ·exact .inr ⟨trivial,by rw [if_neg (by decide),if_pos trivial,if_neg hz],by rw [if_pos hz]⟩
end
section
variable {i:dN} {m:gA} {st:St} {r:List Bool}
theorem tL {k:Nat} (h:r.getD k false=true):aV i m st r (k+1)=((aV i m st r k).1++.tick::(eU i m (m.ins k) (st.s k).length).toList,(aV i m st r k).2++[((aV i m st r k).1.length:Int)]):=by
 simp only [aV,h];rfl
theorem BC {k:Nat} (h:r.getD k false=false):aV i m st r (k+1)=((aV i m st r k).1,(aV i m st r k).2++[-1]):=by
 simp only [aV,h];rfl
theorem sL (k:Nat):∀ d,∃ y z,(aV i m st r (k+d)).1=(aV i m st r k).1++y/\(aV i m st r (k+d)).2=(aV i m st r k).2++z
 | 0=>⟨[],[],by simp,by simp⟩
 | d+1=>by
  obtain ⟨y,z,h1,h2⟩:=sL k d;rw [<- Nat.add_assoc];cases hk:r.getD (k+d) false with
  | true=>rw [tL hk,h1,h2];exact ⟨_,_,List.append_assoc _ _ _,List.append_assoc _ _ _⟩
  | false=>rw [BC hk,h1,h2];exact ⟨_,_,rfl,List.append_assoc _ _ _⟩
def nF (i:dN) (m:gA) (st:St) (r:List Bool) (pc:Nat):Nat:=(aV i m st r pc).1.length
theorem DG {pc:Nat} (hpc:pc < m.code.length) (hr:r.getD pc false=true) {nd:aL} (hn:eU i m (m.ins pc) (st.s pc).length=some nd) :
  (jA i m st r)[nF i m st r pc]?=some .tick/\(jA i m st r)[nF i m st r pc+1]?=some (lJ (aV i m st r m.code.length).2 nd)/\nF i m st r (pc+1)=nF i m st r pc+2/\(aV i m st r m.code.length).2[pc]?=some ((nF i m st r pc:Nat):Int):=by
 obtain ⟨y,z,h1,h2⟩:=sL (i:=i) (m:=m) (st:=st) (r:=r) (pc+1) (m.code.length - (pc+1));rw [show pc+1+(m.code.length - (pc+1))=m.code.length by omega,tL hr,hn] at h1 h2;have hl:=(oJ i m st r pc).2.1;have e3:nF i m st r (pc+1)=nF i m st r pc+2:=by unfold nF;rw [tL hr,hn];simp
 unfold jA;dsimp only;dsimp only at h1 h2;refine ⟨?_,?_,e3,?_⟩
 ·rw [List.getElem?_map,h1];unfold nF;simp [lJ]
 ·rw [List.getElem?_map,h1];unfold nF;simp
 ·rw [h2];unfold nF;simp [hl]
end
structure ZY (m:gA):Prop where
 len:3<=m.code.length
 put:m.ins (m.code.length - 2)=⟨34,0,0⟩
 ret:m.ins (m.code.length - 1)=⟨39,0,0⟩
 op:∀ pc,pc+2 < m.code.length->OH (m.ins pc).op/\((m.ins pc).op=24->(pc:Int) < (m.ins pc).a/\(m.ins pc).a+2<=m.code.length)
theorem uM {l:List dN} {fs:List kC} {f:kC} {n:Nat} {q:Rm} {x:gN} {t u:List Int} (h:oG x.op):vY l fs f n q x t u=.run ⟨fs,{ f with st:=u++kT x f q.fd t,pc:=uW x f.pc t,loc:=oN x f.loc t },n,{ q with fd:=QE x f.who q.fd t }⟩:=by
 obtain ⟨h1,h2,h3,h4⟩:=h;unfold vY;rw [if_neg h3,if_neg (by omega),if_neg h4]
theorem OH.plain {op:Int} (h:OH op):oG op/\op≠34/\op≠4:=by
 unfold OH fP at h;unfold oG kA;omega
theorem GR {p:mM} {n f t:Nat} {g:List Int} (h:p.at' f=.tick):zP p (n+1) g f t=zP p n g (f+1) (t+1):=by
 rw [zP,h,if_pos (show aL.tick.pureB=true from rfl)];rfl
theorem YP {p:mM} {n f t:Nat} {g:List Int} {nd:aL} (h:p.at' f=nd) (hp:nd.pureB=true) (ht:nd.isTick=false):zP p (n+1) g f t=zP p n (rO nd g f).1 (rO nd g f).2.toNat t:=by
 rw [zP,h,if_pos hp,ht];rfl
theorem GS {p:mM} {n f t:Nat} {g:List Int} {nd:aL} (h:p.at' f=nd) (hp:nd.pureB=false):zP p n g f t=(g,f,t):=by
 cases n with
 | zero=>rfl
 | succ n=>rw [zP,h,if_neg (by rw [hp];decide)]
theorem ZH (T:List Int) (n:aL):(lJ T n).pureB=n.pureB:=by cases n<;>rfl
theorem FF {i:dN} {m:gA} {x:gN} {h:Nat} {n:aL} (hn:eU i m x h=some n) (T:List Int):(lJ T n).isTick=false:=by rw [HA];exact xM hn
section
variable {i:dN} {st:St} {r:List Bool}
theorem aJe (hT:rL [i]) (hw:lK i (i.meth 0) (some st)) (R:zY i (i.meth 0) st [] r) (C:ZY (i.meth 0)):∀ (d pc:Nat) (loc s:List Int) (fuel:Nat) (rr:Rm) (g:List Int) (t:Nat),(i.meth 0).code.length - pc<=d->pc+2<=(i.meth 0).code.length->PM.ok [i] ⟨[],⟨0,0,pc,loc,s⟩,fuel,rr⟩->r.getD pc false=true->qX g loc s->(i.meth 0).code.length - pc<=fuel ->
  ∃ e g' at' src,vN [i] ⟨[],⟨0,0,pc,loc,s⟩,fuel,rr⟩ e/\e.s=36864/\e.r.fd=rr.fd.set 0 ((rr.fd.getD 0 []).set 0 (pA g' src))/\0<=src/\src < 18/\g'.length=18/\(jA i (i.meth 0) st r)[at']?=some (.putField 0 src)/\e.fuel+2<=fuel /\
   ∀ k,2*((i.meth 0).code.length - pc)<=k->zP ⟨0,18,jA i (i.meth 0) st r⟩ k g (nF i (i.meth 0) st r pc) t=(g',at',t+(fuel - e.fuel - 1))
 | 0,pc,_,_,_,_,_,_,h1,h2,_,_,_,_=>by omega
 | d+1,pc,loc,s,fuel,rr,g,t,h1,h2,hok,hr,G,hf=>by
  have hA:=hok.top.at_ hT;obtain ⟨hir,hmr,_⟩:=hok.top.rt hT;have hme:(⟨0,0,pc,loc,s⟩:kC).me [i]=i.meth 0:=rfl;have him:(⟨0,0,pc,loc,s⟩:kC).img [i]=i:=rfl;have hin:(⟨0,0,pc,loc,s⟩:kC).ins [i]=(i.meth 0).ins pc:=rfl;have hnt:fW [i] ⟨0,0,pc,loc,s⟩=(aI i (i.meth 0) ((i.meth 0).ins pc)).length:=rfl;have hpc:pc < (i.meth 0).code.length:=hA.pc;have hox:rT i (i.meth 0) ((i.meth 0).ins pc):=hA.okx;have hns:(aI i (i.meth 0) ((i.meth 0).ins pc)).length<=s.length:=hA.nt;obtain ⟨K,hK,hKl⟩:=hok.top.rch;have hK:oL i (i.meth 0) pc K:=hK;have hKl:K.length=s.length:=hKl
  have hst:(st.s pc).length=s.length:=by
   have:=oL.det hK ⟨st,hw,hpc,R.rs pc hr,rfl⟩;rw [<- this];exact hKl
  have hstep:∀ {o},vY [i] [] ⟨0,0,pc,loc,s⟩ (fuel - 1) (rr.ev (lQ [i] ⟨0,0,pc,loc,s⟩)) ((i.meth 0).ins pc) (jE (aI i (i.meth 0) ((i.meth 0).ins pc)).length s) (kX (aI i (i.meth 0) ((i.meth 0).ins pc)).length s)=o->jY [i] ⟨[],⟨0,0,pc,loc,s⟩,fuel,rr⟩=o:=λh=>by
   unfold jY;rw [if_neg (by dsimp only;omega)];exact h
  by_cases hend:pc+2=(i.meth 0).code.length
  ·-- the field is put
   have hx:(i.meth 0).ins pc=⟨34,0,0⟩:=by rw [<- C.put,<- hend];rfl
   rw [hx] at hns hstep;have ha1:(aI i (i.meth 0) ⟨34,0,0⟩).length=1:=by simp [aI]
   rw [ha1] at hns hstep;have hs1:=hstep (uM ⟨by decide,by decide,by decide,by decide⟩);have hok2:=pI hT hok hs1;have hx2:(i.meth 0).ins (pc+1)=⟨39,0,0⟩:=by rw [<- C.ret,<- hend];rfl
   have hs2:∀ {s' loc'} {q:Rm},jY [i] ⟨[],⟨0,0,pc+1,loc',s'⟩,fuel - 1,q⟩=.fin 36864 0 (fuel - 1 - 1) ((q.ev (lQ [i] ⟨0,0,pc+1,loc',s'⟩)).ends 36864):=λ{s' loc' q}=>by
    unfold jY;rw [if_neg (by dsimp only;omega)];dsimp only;have hin2:(⟨0,0,pc+1,loc',s'⟩:kC).ins [i]=(i.meth 0).ins (pc+1):=rfl;rw [hin2,hx2];rfl
   have hnd:eU i (i.meth 0) ((i.meth 0).ins pc) (st.s pc).length=some (.putField 0 (10+((s.length:Int) - 1))):=by rw [hx,hst];simp [eU]
   obtain ⟨n1,n2,_,_⟩:=DG hpc hr hnd;have sl:=G.sl;refine ⟨⟨36864,0,fuel - 1 - 1,_⟩,g,nF i (i.meth 0) st r pc+1,10+((s.length:Int) - 1),.go hs1 (.fin hs2),rfl,?_,by omega,by omega,G.len,n2,by dsimp only;omega,λk hk=>?_⟩
   ·rw [G.getS (j:=s.length - 1) (by omega) (by omega)];show QE ⟨34,0,0⟩ 0 rr.fd (jE 1 s)=_;unfold QE;rw [if_pos rfl,sH,Nat.add_zero];rfl
   ·obtain ⟨k,rfl⟩:∃ q,k=q+1:=⟨k - 1,by omega⟩;rw [GR (by unfold mM.at';rw [List.getD_eq_getElem?_getD,n1];rfl),GS (nd:=.putField 0 (10+((s.length:Int) - 1))) (by unfold mM.at';rw [List.getD_eq_getElem?_getD,n2];rfl) rfl];dsimp only;rw [show fuel - (fuel - 1 - 1) - 1=1 by omega]
  ·obtain ⟨hop,hjmp⟩:=C.op pc (by omega);obtain ⟨hp0,hn34,hn4⟩:=hop.plain;obtain ⟨_,_,hxr,hnm⟩:=hox
   obtain ⟨nd,hnd⟩:∃ nd,eU i (i.meth 0) ((i.meth 0).ins pc) (st.s pc).length=some nd:=by
    cases e:eU i (i.meth 0) ((i.meth 0).ins pc) (st.s pc).length with
    | none=>exact absurd (sK e) hn4
    | some nd=>exact ⟨nd,rfl⟩
   obtain ⟨n1,n2,n3,_⟩:=DG hpc hr hnd;have hs1:=hstep (uM hp0);have hok2:=pI hT hok hs1;obtain ⟨hd1,hd2,_⟩:=hw.led hir hmr
   obtain ⟨out,hdo,_⟩:∃ out,tS i (i.meth 0) ((i.meth 0).ins pc) (st.s pc)=some out/\True:=by
    obtain ⟨_,_,_,_,hled⟩:=hw.led hir hmr;obtain ⟨out,ho,_⟩:=hled pc (R.rs pc hr);exact ⟨out,ho,trivial⟩
   have hlen:=DT hdo;have h8:=(hok2.top.at_ hT).hi;have h8:(kX (aI i (i.meth 0) ((i.meth 0).ins pc)).length s++kT ((i.meth 0).ins pc) ⟨0,0,pc,loc,s⟩ rr.fd (jE (aI i (i.meth 0) ((i.meth 0).ins pc)).length s)).length<=8:=h8;rw [List.length_append,mV,AP (i:=i) (me:=i.meth 0) hxr hp0] at h8;have hloc:loc.length=(i.meth 0).locs.length:=hok.top.loc;rw [hst] at hnd
   obtain ⟨G2,hgo,hpu⟩:=aTg (f:=⟨0,0,pc,loc,s⟩) (fd:=rr.fd) (T:=(aV i (i.meth 0) st r (i.meth 0).code.length).2) (pc:=pc) (a:=((nF i (i.meth 0) st r pc+1:Nat):Int)) hop hxr G hns h8 (λh=>by
    have:fI i (i.meth 0) ((i.meth 0).ins pc):=hnm;unfold fI at this;rw [if_pos h] at this;show ((i.meth 0).ins pc).a < (loc.length:Int);rw [hloc];exact this) hnd
   obtain ⟨to,hto,hto2⟩:=FI hxr (show ((i.meth 0).ins pc).op≠39 from hp0.2.2.1) pc (jE (aI i (i.meth 0) ((i.meth 0).ins pc)).length s)
   have hr2:r.getD (uW ((i.meth 0).ins pc) pc (jE (aI i (i.meth 0) ((i.meth 0).ins pc)).length s)) false=true:=by
    rcases R.cl pc hr to hto with h|h
    ·rw [hto2,Int.toNat_natCast] at h;exact h
    ·cases h
   have hat:pc < uW ((i.meth 0).ins pc) pc (jE (aI i (i.meth 0) ((i.meth 0).ins pc)).length s)/\uW ((i.meth 0).ins pc) pc (jE (aI i (i.meth 0) ((i.meth 0).ins pc)).length s)+2<=(i.meth 0).code.length/\(rO (lJ (aV i (i.meth 0) st r (i.meth 0).code.length).2 nd) g ((nF i (i.meth 0) st r pc+1:Nat):Int)).2.toNat=nF i (i.meth 0) st r (uW ((i.meth 0).ins pc) pc (jE (aI i (i.meth 0) ((i.meth 0).ins pc)).length s)):=by
    rcases hgo with ⟨e1,e2⟩|⟨e0,e1,e2⟩
    ·rw [e1,e2,n3];omega
    ·obtain ⟨j1,j2⟩:=hjmp e0;rw [e1] at hr2;rw [e1,e2]
     have hne:∃ nd2,eU i (i.meth 0) ((i.meth 0).ins ((i.meth 0).ins pc).a.toNat) (st.s ((i.meth 0).ins pc).a.toNat).length=some nd2:=by
      cases e:eU i (i.meth 0) ((i.meth 0).ins ((i.meth 0).ins pc).a.toNat) (st.s ((i.meth 0).ins pc).a.toNat).length with
      | some nd=>exact ⟨nd,rfl⟩
      | none=>
       have h4:=sK e;by_cases hq:((i.meth 0).ins pc).a.toNat+2=(i.meth 0).code.length
       ·rw [show ((i.meth 0).ins pc).a.toNat=(i.meth 0).code.length - 2 by omega,C.put] at h4;cases h4
       ·exact absurd h4 ((C.op _ (by omega)).1.plain.2.2)
     obtain ⟨nd2,hnd2⟩:=hne;obtain ⟨_,_,_,n4⟩:=DG (by omega) hr2 hnd2;refine ⟨by omega,by omega,?_⟩;unfold cT;rw [List.getD_eq_getElem?_getD,n4];simp
   obtain ⟨k1,k2,k3⟩:=hat;generalize hto3:uW ((i.meth 0).ins pc) pc (jE (aI i (i.meth 0) ((i.meth 0).ins pc)).length s)=pc2 at *;have hs1:jY [i] ⟨[],⟨0,0,pc,loc,s⟩,fuel,rr⟩=.run ⟨[],⟨0,0,pc2,oN ((i.meth 0).ins pc) loc (jE (aI i (i.meth 0) ((i.meth 0).ins pc)).length s),kX (aI i (i.meth 0) ((i.meth 0).ins pc)).length s++kT ((i.meth 0).ins pc) ⟨0,0,pc,loc,s⟩ rr.fd (jE (aI i (i.meth 0) ((i.meth 0).ins pc)).length s)⟩,fuel - 1,{ rr.ev (lQ [i] ⟨0,0,pc,loc,s⟩) with fd:=QE ((i.meth 0).ins pc) 0 rr.fd (jE (aI i (i.meth 0) ((i.meth 0).ins pc)).length s) }⟩:=hs1;have hok2:=pI hT hok hs1;have hfd:QE ((i.meth 0).ins pc) 0 rr.fd (jE (aI i (i.meth 0) ((i.meth 0).ins pc)).length s)=rr.fd:=by unfold QE;rw [if_neg hn34]
   rw [hfd] at hs1 hok2;obtain ⟨e,g',at',src,i1,i2,i3,i4,i5,i6,i7,i8,i9⟩:=aJe hT hw R C d pc2 _ _ _ _ _ (t+1) (by omega) k2 hok2 hr2 G2 (by omega);refine ⟨e,g',at',src,.go hs1 i1,i2,i3,i4,i5,i6,i7,by omega,λk hk=>?_⟩;obtain ⟨k,rfl⟩:∃ q,k=q+1+1:=⟨k - 2,by omega⟩;rw [GR (by unfold mM.at';rw [List.getD_eq_getElem?_getD,n1];rfl),YP (nd:=lJ (aV i (i.meth 0) st r (i.meth 0).code.length).2 nd) (by unfold mM.at';rw [List.getD_eq_getElem?_getD,n2];rfl) (by rw [ZH];exact hpu) (FF hnd _),k3,i9 k (by omega)];rw [show t+1+(fuel - 1 - e.fuel - 1)=t+(fuel - e.fuel - 1) by omega]
end
theorem aBl {g:aL} {v:Z} {w:O} (h:mT w v g):aB prog 81 #[v] w λr w'=>r=.bool g.pureB/\w'=w:=by
 obtain ⟨sv,rfl,hs⟩:=h;apply aOd;unfold RB;cases g<;>(dsimp only [aL.val];(repeat (first|(with_reducible refine thK (by first|exact dV|exact iU|exact iC|exact iQ|exact jG|exact iH|exact jF|exact jP) ?_)|(with_reducible refine tmK (by first|exact dV|exact iU|exact iC|exact iQ|exact jG|exact iH|exact jF|exact lE|exact lP|exact lO|exact lN|exact jP) (by decide) λ_=>?_)));simp only [bR,aS,aD,Bool.false_eq_true,reduceIte];first|exact ⟨rfl,rfl⟩|exact ⟨trivial,rfl⟩|exact ⟨trivial,trivial⟩|exact ⟨rfl,trivial⟩)
theorem uN.at {p:mM} (hv:uN p) {k:Nat} (hk:k < p.nodes.length):p.nodes[k]?=some (p.at' k)/\OE (p.at' k) k p.regs p.nodes.length:=by
 obtain ⟨n,hn⟩:=fQ hk;have:p.at' k=n:=by unfold mM.at';rw [List.getD_eq_getElem?_getD,hn];rfl
 rw [this];exact ⟨hn,hv.nodes k n hn⟩
theorem aAv {op a b:Int} {w:O} (h:fP op) (ha:kY a) (hb:kY b):aB prog 127 #[i64 op,i32 a,i32 b] w λr w'=>r=i32 (nL op a b)/\w'=w:=by
 apply aHu;suffices key:∀ R:Z->O->Prop,R (i32 (nL op a b)) w->zL (i64 op) (i32 a) (i32 b) w R from key _ ⟨rfl,rfl⟩;intro R hR;unfold zL;rcases BI h with rfl|rfl|rfl|rfl|rfl|rfl|rfl|rfl|rfl|rfl|rfl|rfl
 all_goals simp only [aO,Int.reduceEq,decide_true,decide_false,aS,aD]
 ·exact aQe.mono λr w' ⟨hr,hw⟩=>hr▸hw▸hR
 ·exact aPw.mono λr w' ⟨hr,hw⟩=>hr▸hw▸hR
 ·exact aQc.mono λr w' ⟨hr,hw⟩=>hr▸hw▸hR
 ·exact aQd.mono λr w' ⟨hr,hw⟩=>hr▸hw▸hR
 ·exact wOr.mono λr w' ⟨hr,hw⟩=>hr▸hw▸hR
 ·exact aPv.mono λr w' ⟨hr,hw⟩=>hr▸hw▸hR
 ·exact aPy.mono λr w' ⟨hr,hw⟩=>hr▸hw▸hR
 ·exact aPx.mono λr w' ⟨hr,hw⟩=>hr▸hw▸hR
 ·exact aPz.mono λr w' ⟨hr,hw⟩=>hr▸hw▸hR
 ·exact (wEq ha hb).mono λr w' ⟨hr,hw⟩=>hr▸hw▸hR
 ·exact (wLt ha hb).mono λr w' ⟨hr,hw⟩=>hr▸hw▸hR
 ·exact (UU ha hb).mono λr w' ⟨hr,hw⟩=>hr▸hw▸hR
theorem aBs {op a:Int} {w:O} (h:op=15\/op=16\/op=26) (ha:kY a):aB prog 128 #[i64 op,i32 a] w λr w'=>r=i32 (unF op a)/\w'=w:=by
 apply aHt;suffices key:∀ R:Z->O->Prop,R (i32 (unF op a)) w->zK (i64 op) (i32 a) w R from key _ ⟨rfl,rfl⟩;intro R hR;unfold zK;rcases h with rfl|rfl|rfl
 all_goals simp only [aO,Int.reduceEq,decide_true,decide_false,aS,aD]
 ·exact aQb.mono λr w' ⟨hr,hw⟩=>hr▸hw▸hR
 ·exact aQa.mono λr w' ⟨hr,hw⟩=>hr▸hw▸hR
 ·exact (wEq ha (b:=0) (by unfold kY;omega)).mono λr w' ⟨hr,hw⟩=>hr▸hw▸hR
theorem oP {l:List Int} (h:kD l) (r:Int):kY (pA l r):=by
 have:=rM h r.toNat;unfold cT at this;rw [List.getD_eq_getElem?_getD] at this;exact this
def aL.c32:aL->Prop
 | .const _ n=>kY n
 | _=>True
theorem aRu {g:aL} {l:List Int} {a:Int} (h:kD l) (hc:g.c32):kD (rO g l a).1:=by
 cases g with
 | const d n=>exact oE h hc
 | move d s=>exact oE h (oP h _)
 | bin op d x y=>exact oE h (YY (oP h _))
 | un op d x=>exact oE h aIq
 | choose d c x y=>exact oE h (GE (oP h _) (oP h _))
 | _=>exact h
def OO (B:Nat) (rv:Z) (R:Nat) (q:List Int × Int) (w:O) (r:Z) (w':O):Prop:=r=i64 q.2/\w'.ownsRow B 21 1 rv R (q.1.map i32)/\Fr (λi=>rv.ownBlock=some i) w w'
theorem pW {l:List Int} {r:Int} {R:Nat} (hl:l.length=R) (h0:0<=r) (h1:r < R):(l.map i32)[r.toNat]?=some (i32 (pA l r)):=by
 obtain ⟨x,hx⟩:=fQ (l:=l) (j:=r.toNat) (by omega);simp [pA,hx]
theorem vX {w0 w2:O} {S:O->Prop} {B R g cap:Nat} {l:List Int} {d z at':Int} (ho:w2.ownsRow B 21 1 (.slice (some ⟨g,0,none⟩) R cap) R (l.map i32)) (h0:0<=d) (h1:d < R) (hx:aE w0 w2) (ha:0<=at') (ha2:at'<=1000) :
  aC prog S (Instr.indexAt 37 (.slice (some ⟨g,0,none⟩) R cap) (i64 d)) λp=>U prog (Instr.storeAt 21 p (i32 z)) w2 λ_ w3=>V prog (binOp .add 3 (i64 at') (Value.int IntKind.i64 1)) w3 λt w4=>
   OO B (.slice (some ⟨g,0,none⟩) R cap) R (l.set d.toNat z,at'+1) w0 t w4:=by
 refine aC.ok (λw' _=>aBi h0 h1) ?_;refine stY oY ho (by omega) rfl λw3 ho3 hg3=>?_;refine dS.2 ?_;rw [aU (by omega)];refine ⟨rfl,?_,(Fr.of_ext (S:=λ_=>False) hx).or (Fr.of_grown (S:=λi=>(Value.slice (some ⟨g,0,none⟩) R cap).ownBlock=some i) hg3 λk hk=>hk) |>.mono λi hi=>hi.elim (λh=>h.elim) id⟩;rw [List.map_set];exact ho3
theorem aMq {g:aL} {nv rv:Z} {l:List Int} {R B:Nat} {at':Int} {w:O} (hn:mT w nv g) (ho:w.ownsRow B 21 1 rv R (l.map i32)) (hl:l.length=R) (hu:∀ r∈g.us,0<=r/\r < R) (hd:(0<=g.df/\g.df < R)\/(g.df=-1/\g.bareN=true)) (ha:0<=at') (ha2:at'<=1000) (h32:kD l) (hf:g.okF) :
  aB prog 82 #[nv,rv,i64 at'] w (OO B rv R (rO g l at') w):=by
 obtain ⟨sv,rfl,hs⟩:=hn;obtain ⟨sa,sc,rfl⟩:=hs.shape;apply aOc;unfold RA
 have shape:0 < R->∃ g cap,rv=.slice (some ⟨g,0,none⟩) R cap:=λh=>by
  obtain ⟨g,cap,h1,_⟩:=World.ownsRow.form ho h;exact ⟨g,cap,h1⟩
 have next:∀ w',aE w w'->V prog (binOp .add 3 (i64 at') (Value.int IntKind.i64 1)) w' λt w4=>OO B rv R (l,at'+1) w t w4:=λw' hx=>by
  refine dS.2 ?_;rw [aU (by omega)];exact ⟨rfl,hx.own ho,Fr.of_ext hx⟩
 have D1:∀ {w1},aE w w1->aE w w1.drew:=λh=>h.drew;cases g with
 | const d n=>
  dsimp only [aL.val];(repeat (first|(with_reducible refine th dV ?_)|((with_reducible refine tm dV (by decide) ?_);intro _ _ _)));refine pX pN rfl rfl λb w1 hb x1=>?_;refine bQ hb cA aF rfl ?_;refine bQ hb bZ eY rfl ?_;have hd':0<=d/\d < R:=by rcases hd with h|⟨_,h⟩;exact h;cases h
  refine stO kE oY (x1.own ho) hd'.1 hd'.2 rfl λw3 ho3 hg3=>?_;refine dS.2 ?_;rw [aU (by omega)];refine ⟨rfl,?_,(Fr.of_ext (S:=λ_=>False) x1).or (Fr.of_grown (S:=λi=>rv.ownBlock=some i) hg3 λk hk=>hk) |>.mono λi hi=>hi.elim (λh=>h.elim) id⟩;show w3.ownsRow B _ 1 rv R ((l.set d.toNat n).map i32);rw [List.map_set];exact ho3
 | move d a=>
  dsimp only [aL.val];(repeat (first|(with_reducible refine th (by first|exact dV|exact iC) ?_)|((with_reducible refine tm dV (by decide) ?_);intro _ _ _)));refine pX rX rfl rfl λb w1 hb x1=>?_;have hd':0<=d/\d < R:=by rcases hd with h|⟨_,h⟩;exact h;cases h
  have ha':=hu a (by simp [aL.us]);obtain ⟨gb,cap,rfl⟩:=shape (by omega);have ho1:=(D1 x1).own ho;have hb1:=hb.ext (aE.refl w1).drew;refine aJ.mk' (λw'=>w'=w1.drew) rfl ?_;refine gY (λw' hw=>hw▸hb1) cS aF rfl ?_;refine gY (λw' hw=>hw▸hb1) cR aF rfl ?_;refine lT kE eY (aA.of_own ho1) (λw' hw=>hw▸aE.refl _) ha'.1 ha'.2 (pW hl ha'.1 ha'.2) ?_;exact vX ho1 hd'.1 hd'.2 (D1 x1) ha ha2
 | bin op d a c=>
  dsimp only [aL.val];(repeat (first|(with_reducible refine th (by first|exact dV|exact jP) ?_)|((with_reducible refine tm (by first|exact dV|exact iC) (by decide) ?_);intro _ _ _)));refine pX wT rfl rfl λb w1 hb x1=>?_;have hd':0<=d/\d < R:=by rcases hd with h|⟨_,h⟩;exact h;cases h
  have ha':=hu a (by simp [aL.us]);have hc':=hu c (by simp [aL.us]);obtain ⟨gb,cap,rfl⟩:=shape (by omega);have ho1:=(D1 x1).own ho;have hb1:=hb.ext (aE.refl w1).drew;refine aJ.mk' (λw'=>w'=w1.drew) rfl ?_;refine gY (λw' hw=>hw▸hb1) dL aF rfl ?_;refine gY (λw' hw=>hw▸hb1) dC aF rfl ?_;refine gY (λw' hw=>hw▸hb1) dK aF rfl ?_;refine lT kE eY (aA.of_own ho1) (λw' hw=>hw▸aE.refl _) ha'.1 ha'.2 (pW hl ha'.1 ha'.2) ?_;refine gY (λw' hw=>hw▸hb1) dJ aF rfl ?_;refine lT kE eY (aA.of_own ho1) (λw' hw=>hw▸aE.refl _) hc'.1 hc'.2 (pW hl hc'.1 hc'.2) ?_;refine (aAv hf (oP h32 _) (oP h32 _)).mono λr w' ⟨hr,hw⟩=>?_;subst hr;have hw:=hw.symm;subst hw;exact ⟨rfl,vX ho1 hd'.1 hd'.2 (D1 x1) ha ha2⟩
 | un op d a=>
  dsimp only [aL.val];(repeat (first|(with_reducible refine th (by first|exact dV|exact iQ) ?_)|((with_reducible refine tm (by first|exact dV|exact iU|exact iC|exact jP) (by decide) ?_);intro _ _ _)));refine pX qL rfl rfl λb w1 hb x1=>?_;have hd':0<=d/\d < R:=by rcases hd with h|⟨_,h⟩;exact h;cases h
  have ha':=hu a (by simp [aL.us]);obtain ⟨gb,cap,rfl⟩:=shape (by omega);have ho1:=(D1 x1).own ho;have hb1:=hb.ext (aE.refl w1).drew;refine aJ.mk' (λw'=>w'=w1.drew) rfl ?_;refine gY (λw' hw=>hw▸hb1) cQ aF rfl ?_;refine gY (λw' hw=>hw▸hb1) cK aF rfl ?_;refine gY (λw' hw=>hw▸hb1) cP aF rfl ?_;refine lT kE eY (aA.of_own ho1) (λw' hw=>hw▸aE.refl _) ha'.1 ha'.2 (pW hl ha'.1 ha'.2) ?_;refine (aBs hf (oP h32 _)).mono λr w' ⟨hr,hw⟩=>?_;subst hr;have hw:=hw.symm;subst hw;exact ⟨rfl,vX ho1 hd'.1 hd'.2 (D1 x1) ha ha2⟩
 | choose d c a e=>
  dsimp only [aL.val];(repeat (first|(with_reducible refine th (by first|exact dV|exact jG) ?_)|((with_reducible refine tm (by first|exact dV|exact iU|exact iC|exact iQ|exact jP) (by decide) ?_);intro _ _ _)));refine pX qK rfl rfl λb w1 hb x1=>?_;have hd':0<=d/\d < R:=by rcases hd with h|⟨_,h⟩;exact h;cases h
  have ha':=hu a (by simp [aL.us]);have hc':=hu c (by simp [aL.us]);have he':=hu e (by simp [aL.us]);obtain ⟨gb,cap,rfl⟩:=shape (by omega);have ho1:=(D1 x1).own ho;have hb1:=hb.ext (aE.refl w1).drew;refine aJ.mk' (λw'=>w'=w1.drew) rfl ?_;refine gY (λw' hw=>hw▸hb1) cO aF rfl ?_;refine gY (λw' hw=>hw▸hb1) cJ aF rfl ?_;refine lT kE eY (aA.of_own ho1) (λw' hw=>hw▸aE.refl _) hc'.1 hc'.2 (pW hl hc'.1 hc'.2) ?_;refine gY (λw' hw=>hw▸hb1) cI aF rfl ?_;refine lT kE eY (aA.of_own ho1) (λw' hw=>hw▸aE.refl _) ha'.1 ha'.2 (pW hl ha'.1 ha'.2) ?_;refine gY (λw' hw=>hw▸hb1) cH aF rfl ?_;refine lT kE eY (aA.of_own ho1) (λw' hw=>hw▸aE.refl _) he'.1 he'.2 (pW hl he'.1 he'.2) ?_;refine (aIp (oP h32 _) (oP h32 _) (oP h32 _)).mono λr w' ⟨hr,hw⟩=>?_;subst hr;have hw:=hw.symm;subst hw;exact ⟨rfl,vX ho1 hd'.1 hd'.2 (D1 x1) ha ha2⟩
 | goto t=>
  dsimp only [aL.val];(repeat (first|(with_reducible refine th (by first|exact dV|exact iH) ?_)|((with_reducible refine tm (by first|exact dV|exact iU|exact iC|exact iQ|exact jG|exact jP) (by decide) ?_);intro _ _ _)));refine pX pM rfl rfl λb w1 hb x1=>?_;refine bQ hb bX aF rfl ?_;exact ⟨rfl,x1.own ho,Fr.of_ext x1⟩
 | branch c t=>
  dsimp only [aL.val];(repeat (first|(with_reducible refine th (by first|exact dV|exact jF) ?_)|((with_reducible refine tm (by first|exact dV|exact iU|exact iC|exact iQ|exact jG|exact iH|exact jP) (by decide) ?_);intro _ _ _)));refine pX pL rfl rfl λb w1 hb x1=>?_;refine bQ hb cN aF rfl ?_;have hc':=hu c (by simp [aL.us]);refine TP kE eY (x1.own ho) hc'.1 hc'.2 (pW hl hc'.1 hc'.2) ?_;refine dZ.2 (aK (λh=>?_) λh=>?_)
  ·refine bQ hb bW aF rfl ?_;refine ⟨?_,x1.own ho,Fr.of_ext x1⟩;simp only [rO];rw [if_pos h]
  ·refine (next w1 x1).mono λr w' ⟨h1,h2,h3⟩=>⟨?_,h2,h3⟩;simp only [rO];rw [if_neg h];exact h1
 | tick|getField _ _|putField _ _|serve _ _ _ _ _|call _ _ _|callX _ _ _|ret _=>
  dsimp only [aL.val];(repeat (first|(with_reducible refine th dV ?_)|((with_reducible refine tm (by first|exact dV|exact iU|exact iC|exact iQ|exact jG|exact iH|exact jF|exact lE|exact lP|exact lO|exact lN|exact jP) (by decide) ?_);intro _ _ _)));exact next w (aE.refl _)
theorem aMr {g:aL} {l:List Int} {a:Int} (hp:g.pureB=true):(rO g l a).2∈g.nx a:=by
 cases g with
 | branch c t=>
  simp only [rO,aL.nx];split<;>split<;>simp_all
 | goto t=>simp [rO,aL.nx]
 | getField _ _|putField _ _|serve _ _ _ _ _|call _ _ _|callX _ _ _|ret _=>cases hp
 | _=>simp [rO,aL.nx]
theorem aDj (l:List Int):(l.map i32).all gO=true:=by simp [gO]
theorem YU {v:Z} {l:List Int} {R:Nat} {w:O} (h:aA w v 1 R (l.map i32)) (hl:R<=4294967296) :
  aB prog 49 #[v] w λr w'=>w'.ownsRow w.heap.size 21 1 r R (l.map i32)/\aE w w':=by
 apply aAb;unfold ED;exact yJ (R:=λr w'=>w'.ownsRow w.heap.size 21 1 r R (l.map i32)/\aE w w') wM h (aDj l) (by omega) λv' w' h1 h2=>⟨h1,h2⟩
theorem aQh {g:aL} {sv:Z} {w:O} {x:TypeId} {K:Z->O->Prop} (hK:∀ w1,aE w w1->K (.bool g.isTick) w1) :
  V prog (Instr.typeAssert (g.val sv) x 164 true) w λt56 w31=>V prog (Instr.extract t56 0) w31 λt57 w32=>V prog (Instr.extract t56 1) w32 λt58 w33=>V prog (Instr.alloc 164 true (.tuple #[])) w33 λt15 w34=>U prog (Instr.storeAt 164 t15 t57) w34 λ_ w35=>K t58 w35:=by
 cases g<;>(dsimp only [aL.val];refine ZO.2 ?_;first|rw [if_pos rfl]|rw [if_neg (by decide)])<;>exact V.ok lS (V.ok lR (pX (by first|exact pN|exact rY) rfl rfl λb w1 _ x1=>hK w1 x1))
theorem YN {p:mM} {R:Nat} {pv rv:Z} {l:List Int} {most:Nat} {w:O} (hp:sR w pv p) (hv:uN p) (hR:p.regs=R) (hr:aA w rv 1 R (l.map i32)) (hl:l.length=R) (hm:most<=10000) (h32:kD l) (hc:∀ n∈p.nodes,n.c32) :
  aB prog 36 #[pv,rv,i64 0,i64 (most:Int)] w λr w'=>(∃ v,r=.tuple #[v,i64 ((zP p most l 0 0).2.1:Nat),i64 ((zP p most l 0 0).2.2:Nat)]/\aA w' v 1 R ((zP p most l 0 0).1.map i32))/\aE w w':=by
 have hp0:=hp;obtain ⟨ns,rfl,hns,hargs⟩:=hp;obtain ⟨vs,hs,hvs⟩:=hns;have hl1:=hv.l1;have hl2:=hv.l2;have hr1:=hv.r1;have hr2:=hv.r2;apply aOx;unfold RR;refine bx λb w1 hb x1=>?_;refine lF hb PN rfl ?_;refine (YW (p:=p) (hp0.ext x1) hv).mono λr w2 ⟨hr',x2⟩=>?_;subst hr';have hb2:=hb.ext x2;have X2:=x1.trans x2;refine gG.2 ?_;simp only [mK,bR,reduceIte,Bool.false_eq_true,Bool.not_true];refine hU kE (hr.ext X2) ?_;refine bQ hb2 hY aF rfl (dZ.2 ?_);rw [hR];simp only [ne_eq,not_true_eq_false,aD,decide_false];refine (YU (hr.ext X2) (by omega)).mono λcv w3 ⟨hcv,x3⟩=>?_;have X3:=X2.trans x3
 refine ⟨λv1 v2 v3 w'=>∃ (f n:Nat) (l':List Int) (t:Nat),v1=i64 f/\v2=i64 t/\v3=i64 n/\f < p.nodes.length/\n<=most/\l'.length=R/\w'.ownsRow w2.heap.size 21 1 cv R (l'.map i32)/\aE w2 w'/\zP p (most - n) l' f t=zP p most l 0 0/\t<=n/\kD l',
  λ_ _ v _=>most - (RowKit.intOf v).toNat,⟨0,0,l,0,rfl,rfl,rfl,by omega,Nat.zero_le _,hl,hcv,x3,rfl,by omega,h32⟩,?_⟩
 rintro _ _ _ w4 ⟨f,n,l',t,rfl,rfl,rfl,hf,hn,hl',ho,x4,hev,ht1,h32'⟩ _;obtain ⟨hat,hrt⟩:=hv.at hf;obtain ⟨nv,hnv,hni⟩:=hvs f _ hat;have X4:=X2.trans x4;have hb4:=hb2.ext x4;refine bP.2 ?_;by_cases hnm:(n:Int) < (most:Int)
 ·simp only [hnm,rJ,bR,reduceIte,decide_true];refine bQ hb4 eZ jH rfl (hU nA (hs.ext X4) ?_);refine vE.mono λr w5 ⟨h1,h2⟩=>?_;subst h1;have h2:=h2.symm;subst h2;have hin:(0:Int)<=(f:Int)/\(f:Int) < (p.nodes.length:Int):=by omega
  simp only [hin,and_self,rJ,bR,reduceIte,decide_true];refine bQ hb4 eZ jH rfl ?_;refine kP nA lW (hs.ext X4) (by omega) (by omega) (by simpa using hnv) ?_;refine (aBl (hni.ext X4)).mono λr w5 ⟨h1,h2⟩=>?_;subst h1;have h2:=h2.symm;subst h2;obtain ⟨k,hk⟩:∃ k,most - n=k+1:=⟨most - n - 1,by omega⟩;by_cases hpu:(p.at' f).pureB=true
  ·simp only [hpu,aS];refine bQ hb4 eZ jH rfl ?_;refine kP nA lW (hs.ext X4) (by omega) (by omega) (by simpa using hnv) ?_;have hni4:=hni.ext X4;obtain ⟨sv,rfl,hsv⟩:=hni4;refine aQh λw5 x5=>?_;have hni5:mT w5 ((p.at' f).val sv) (p.at' f):=⟨sv,rfl,hsv.ext x5⟩;rw [hk,show zP p (k+1) l' f t=zP p k (rO (p.at' f) l' f).1 (rO (p.at' f) l' f).2.toNat (if (p.at' f).isTick then t+1 else t) by rw [zP,if_pos hpu]] at hev;have hnx:=hrt.t _ (aMr (l:=l') (a:=(f:Int)) hpu)
   have go:∀ (t':Nat) (w6:O),aE w5 w6->(if (p.at' f).isTick then t+1 else t)=t'->aB prog 82 #[(p.at' f).val sv,cv,i64 (f:Int)] w6 λt65 w37=>V prog (binOp .add 3 (i64 (n:Int)) (Value.int IntKind.i64 1)) w37 λt48 w38=>
     (∃ (f n:Nat) (l':List Int) (t:Nat),t65=i64 f/\i64 t'=i64 t/\t48=i64 n/\f < p.nodes.length/\n<=most/\l'.length=R/\w38.ownsRow w2.heap.size 21 1 cv R (l'.map i32)/\aE w2 w38/\zP p (most - n) l' f t=zP p most l 0 0/\t<=n/\kD l')/\most - (RowKit.intOf t48).toNat < most - (RowKit.intOf (i64 (n:Int))).toNat:=by
    intro t' w6 x6 ht';refine (aMq (hni5.ext x6) ((x5.trans x6).own ho) hl' (λr hr=>by have:=hrt.u r hr;omega) (by rcases hrt.d with h|h;exact .inl (by omega);exact .inr h) (by omega) (by omega) h32' hrt.f).mono λr w7 ⟨h1,h2,h3⟩=>?_;subst h1;refine mJ (by omega) ?_;refine ⟨⟨(rO (p.at' f) l' f).2.toNat,n+1,(rO (p.at' f) l' f).1,t',by rw [show (((rO (p.at' f) l' f).2.toNat:Nat):Int)=(rO (p.at' f) l' f).2 by omega],rfl,rfl,by omega,by omega,by rw [aCv];exact hl',h2,h3.ext (x4.trans (x5.trans x6)) λi hi=>(ho.lt i hi).1,?_,?_,aRu h32' (hc _ (List.mem_of_getElem? hat))⟩,by simp only [aW];omega⟩
    ·rw [show most - (n+1)=k by omega,<- ht'];exact hev
    ·rw [<- ht'];split<;>omega
   by_cases htk:(p.at' f).isTick=true
   ·rw [htk];refine aS.2 (dS.2 ?_);rw [aU (by omega),eI];exact go (t+1) w5 (aE.refl _) (by rw [htk];rfl)
   ·rw [show (p.at' f).isTick=false by simpa using htk];refine aD.2 ?_;exact go t w5 (aE.refl _) (by rw [if_neg htk])
  ·simp only [hpu,aD];rw [GS (nd:=p.at' f) rfl (by simpa using hpu)] at hev;exact ⟨⟨cv,by rw [<- hev],by rw [<- hev];exact aA.of_own ho⟩,X4⟩
 ·simp only [hnm,QC,bR,aD,reduceIte,Bool.false_eq_true,decide_false];rw [show most - n=0 by omega,show zP p 0 l' f t=(l',f,t) from rfl] at hev;exact ⟨⟨cv,by rw [<- hev],by rw [<- hev];exact aA.of_own ho⟩,X4⟩
end Go.Proofs.YtgkkecladbmjkaaGreatDoor
