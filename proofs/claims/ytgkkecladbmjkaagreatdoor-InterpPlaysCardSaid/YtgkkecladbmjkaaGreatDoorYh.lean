/- The rooms of the Interp laws. -/
import Derived.Test.YtgkkecladbmjkaaGreatDoorYg
import Derived.Test.YtgkkecladbmjkaaGreatDoorYe
import Derived.Laws.StructEq
import Derived.Test.YtgkkecladbmjkaaGreatDoorYb
import Derived.WalkKit
import Derived.ProofKit
import Derived.OpenShut
import Derived.WideKeyArgs
import Derived.ChangeArms
import Derived.FnData
set_option maxHeartbeats 8000000
set_option maxRecDepth 20000
set_option linter.unusedSimpArgs false
namespace Go.Proofs.YtgkkecladbmjkaaGreatDoor
open Tryz
open Go.Vc Go.Tc
variable {w w2:Ω} {B hb rb:Nat} {size:Int}
theorem QT {e sz n g cap:Nat} {xs:List O} (h:w.ownsRow B e sz (.slice (some ⟨g,0,none⟩) n cap) n xs):kV w g 0 xs:=by
 obtain ⟨hl,h⟩:=h;rcases h with ⟨h,_⟩|⟨g',cap',cur,e1,hB,hb,hc,hm,hs,ht⟩
 ·cases h
 ·cases e1;refine ⟨cur,e,_,hb,?_,.inl rfl,λj v hj=>?_⟩
  ·have:=Nat.mul_le_mul_right sz hc;rw [hl];omega
  ·rw [<- ht] at hj;rw [List.getElem?_take] at hj;split at hj
   ·rw [Nat.zero_add];simpa using hj
   ·cases hj
def zs (l:List (bP × bF)):List (List Int):=l.map λx=>List.replicate x.2.fields.length 0
def ps0 (size:Int):PS:=⟨size,qP.map pa,[],[],[]⟩
def rm0 (l:List (bP × bF)) (size:Int) (a b:List Int):Rm:=⟨(kY (ps0 size) a b).2,zs l⟩
theorem OY (l:List (bP × bF)) (x:bP × bF):zs (l++[x])=zs l++[List.replicate x.2.fields.length 0]:=by simp [zs]
structure Rms (l:List (bP × bF)) (size:Int) (a b:List Int) (B:Nat) (p:iY) (q:QP) (vs:List O) (w:Ω):Prop where
 rms:RmS (l.map (·.2)) (λ_=>False) p (rm0 l size a b) w
 rbd:RBd l q vs (zs l) B w
 no:∀ x y i,XD p (λ_=>False) x i->¬ BQ q vs y i
 ge:∀ x i,XD p (λ_=>False) x i->B<=i
 qs:q.ps=(kY (ps0 size) a b).2
theorem BF {α:Type} {l:List α} {k:Nat} {x:α} (h:l[k]?=some x):l.take (k+1)=l.take k++[x]:=by
 rw [List.take_add_one,h];rfl
structure aOu (l:List (bP × bF)) (size:Int) (B:Nat) (p:iY) (q:QP) (vs:List O) (w:Ω):Prop where
 bld:UJ (l.map (·.2)) p (zs l) B w
 rbd:RBd l q vs (zs l) B w
 no:∀ a b i,BR p a i->¬ BQ q vs b i
 hp:p.rp.ps=ps0 size
 hq:q.ps=ps0 size
theorem aOc (h1:B < hb) (h2:hb < rb) (hrb:bD w2 rb [pt hb,nl,nl,nl,nl] 134) (hh:gT w2 hb B size B 2 qP) (h6:B<=w2.heap.size) (z1:64<=size) (z2:size<=1000) :
  UJ [] ⟨⟨rb,hb,B,B,2,0,size,qP,nl,nl,nl,nl,nl,[],[],[]⟩,0,[],λ_=>False,0⟩ [] B w2/\∀ a i,BR ⟨⟨rb,hb,B,B,2,0,size,qP,nl,nl,nl,nl,nl,[],[],[]⟩,0,[],λ_=>False,0⟩ a i->a=.rm/\(i=rb\/i=hb\/i=B):=by
 have nob:∀ i,nl.ownBlock≠some i:=λi h=>by cases h
 have l1:=hrb.lt;have l4:=hh.heap.lt
 have mp:∀ i,kE ⟨rb,hb,B,B,2,0,size,qP,nl,nl,nl,nl,nl,[],[],[]⟩ i->i=rb\/i=hb\/i=B:=λi hi=>by
  rcases hi with hi|hi|hi|⟨a,ha,hi⟩|hi|hi
  ·exact .inl hi
  ·exact .inr (.inl hi)
  ·exact .inr (.inr hi)
  ·rw [oB a ha] at hi;cases hi
  iterate 2
   ·cases hi
 have bp:∀ a i,BR ⟨⟨rb,hb,B,B,2,0,size,qP,nl,nl,nl,nl,nl,[],[],[]⟩,0,[],λ_=>False,0⟩ a i->a=.rm/\(i=rb\/i=hb\/i=B):=λa i hi=>by
  cases a with
  | rm=>exact ⟨rfl,mp i hi⟩
  | fd=>obtain ⟨v,hv,_⟩:=hi;simp at hv
  | fo=>cases hi
  | mb=>cases hi
  | im=>exact hi.elim
  | fr=>exact hi.elim
  | ex=>exact hi.elim
 have d0:∀ a∈qP,a.data=[]:=λa ha=>(sU a ha).2
 exact ⟨⟨⟨hrb.seg,hh,World.ownsRow_nil _ _ _ _,World.ownsRow_nil _ _ _ _,Nat.zero_le _,Nat.zero_le _,λx hx=>absurd hx (nob x),λa ha x hx=>(by rw [oB a ha] at hx;cases hx),λa ha x hx=>(by rw [oB a ha] at hx;cases hx),nob _,nob _,(by show rb≠hb;omega),λx hx=>⟨(by
   have hx:x=rb\/x=hb:=hx;show x≠B;omega),λa ha=>(by rw [oB a ha];intro e;cases e),nob _,nob _⟩,(by show 2<=qP.length;decide),⟨(by show 0<=size;omega),z2⟩,λa ha=>(by rw [d0 a ha];intro b hb;simp at hb)⟩,
   ⟨[],World.ownsRow_nil _ _ _ _,λk i hk=>(by simp at hk)⟩,World.ownsRow_nil _ _ _ _,λk v d hk=>(by simp at hk),λj k u v i hj=>(by simp at hj),⟨λa b i ha hb=>(bp a i ha).1.trans (bp b i hb).1.symm,λa i ha=>(by have:=(bp a i ha).2;omega)⟩,λa i ha=>(by have:=(bp a i ha).2;omega),h6⟩,bp⟩
theorem aUz {xb yb g:Nat} (h1:B < hb) (h2:hb < rb) (hrb:bD w2 rb [pt hb,nl,nl,nl,nl] 134) (hh:gT w2 hb B size B 2 qP) (h3:g < yb) (h4:yb < xb) (hxb:bD w2 xb [pt yb,nl,nl,nl,nl] 139) (hyb:bD w2 yb [i64 size,.slice (some ⟨g,0,none⟩) 2 2] 156) (har:bD w2 g (jW qP) 127) (h5:rb < g) (h6:B<=w2.heap.size) (z1:64<=size) (z2:size<=1000) :
  aOu [] size B ⟨⟨rb,hb,B,B,2,0,size,qP,nl,nl,nl,nl,nl,[],[],[]⟩,0,[],λ_=>False,0⟩ ⟨xb,yb,0,g,2,size,qP,nl,nl,nl,nl,nl,[],[],[]⟩ [] w2:=by
 have nob:∀ i,nl.ownBlock≠some i:=λi h=>by cases h
 have l1:=hrb.lt;have l2:=hxb.lt;have l3:=hyb.lt;have l4:=hh.heap.lt;have l5:=har.lt
 have mq:∀ i,SF ⟨xb,yb,0,g,2,size,qP,nl,nl,nl,nl,nl,[],[],[]⟩ i\/AR ⟨xb,yb,0,g,2,size,qP,nl,nl,nl,nl,nl,[],[],[]⟩ i->i=xb\/i=yb\/i=g:=λi hi=>by
  rcases hi with (hi|hi)|hi|⟨a,ha,hi⟩|hi|hi
  ·exact .inl hi
  ·exact .inr (.inl hi)
  ·exact .inr (.inr hi)
  ·rw [oB a ha] at hi;cases hi
  iterate 2
   ·cases hi
 have bp:=(aOc h1 h2 hrb hh h6 z1 z2).2
 have bq:∀ a i,BQ ⟨xb,yb,0,g,2,size,qP,nl,nl,nl,nl,nl,[],[],[]⟩ [] a i->a=.rm/\(i=xb\/i=yb\/i=g):=λa i hi=>by
  cases a with
  | rm=>exact ⟨rfl,mq i hi⟩
  | fd=>obtain ⟨v,hv,_⟩:=hi;simp at hv
  | fo=>cases hi
  | mb=>cases hi
  | im=>exact hi.elim
  | fr=>exact hi.elim
  | ex=>exact hi.elim
 have d0:∀ a∈qP,a.data=[]:=λa ha=>(sU a ha).2
 refine ⟨(aOc h1 h2 hrb hh h6 z1 z2).1,
  ⟨⟨hxb.seg,hyb,aR (eC har rfl (Nat.le_refl _) (by show qP.length<=maxLen;unfold maxLen;decide)) (Nat.zero_le _),λa ha=>(by rw [(sU a ha).1,(sU a ha).2];exact World.ownsRow_nil _ _ _ _),λa ha=>(by rw [d0 a ha];exact Nat.zero_le _),World.ownsRow_nil _ _ _ _,World.ownsRow_nil _ _ _ _,Nat.zero_le _,Nat.zero_le _,(by show xb≠yb;omega),λi hi hc=>?_,(by show 2<=qP.length;decide),(by show qP.length<=1000;decide),⟨(by show 0<=size;omega),z2⟩⟩,⟨[],World.ownsRow_nil _ _ _ _,rfl,λk x hk=>(by simp at hk)⟩,rfl,World.ownsRow_nil _ _ _ _,λk v d hk=>(by simp at hk),λj k u v i hj=>(by simp at hj),⟨λa b i ha hb=>(bq a i ha).1.trans (bq b i hb).1.symm,λa i ha=>(by have:=(bq a i ha).2;omega)⟩,λa i ha=>(by have:=(bq a i ha).2;omega),h6⟩,λa b i ha hb=>?_,rfl,rfl⟩
 ·have e1:i=xb\/i=yb:=hi
  have e2:i=g:=by
   rcases hc with hi|⟨a,ha,hi⟩|hi|hi
   ·exact hi
   ·rw [oB a ha] at hi;cases hi
   iterate 2
    ·cases hi
  omega
 ·have:=(bp a i ha).2;have:=(bq b i hb).2;omega
theorem YL {lv av bv:O} {l:List (bP × bF)} {a b:List Int} (hl:nS w lv l) (h3:l.length<=3) (h1:0 < l.length) (z1:64<=size) (z2:size<=1000) (ha:iZ w av a) (hb:iZ w bv b) (oka:qD a) (okb:qD b) (la:a.length<=64) (lb:b.length<=64) :
  aC prog 9 #[i64 size,lv,av,bv] w λrv w'=>∃ p q vs,rv=.tuple #[kZ p.rp,oZ q]/\Rms l size a b w.heap.size p q vs w'/\aG w w':=by
 apply aUc;suffices key:∀ R:O->Ω->Prop,(∀ p q vs w',Rms l size a b w.heap.size p q vs w'->aG w w'->R (.tuple #[kZ p.rp,oZ q]) w')->OU (i64 size) lv av bv w R from key _ λp q vs w' g1 g2=>⟨p,q,vs,rfl,g1,g2⟩;intro R hR;unfold OU;refine (wO z1 (by omega)).mono λrv w1 ⟨⟨rb,hb',hrv,hlo,hlt,hrb,hh⟩,x1⟩=>?_;subst hrv;refine cL.2 (cK.2 (aS.2 ?_));simp only [ne_eq,not_true_eq_false,dJ,aJ,reduceIte,Bool.false_eq_true,decide_false];refine V.ok (gZ underlying26) ?_;simp only [dJ,aJ,reduceIte,Bool.false_eq_true]
 have hheap:∀ {K:O->Ω->Prop},K (pt hb') w1->aC prog 39 #[pt rb] w1 K:=λhk=>by
  apply aCj;unfold FT;exact ⟨.inl ⟨_,rfl⟩,gC bY fA hrb.seg rfl hk⟩
 refine hheap ?_;refine V.ok (gZ underlying100) ?_;simp only [aA];refine MY.mono λrv w2 ⟨⟨xb,yb,hrv,hyw,hyx,hxb,hyb,har⟩,x2⟩=>?_;subst hrv;have x12:=x1.trans x2;have s1:=x1.size;have s2:=x2.size;have lrb:=hrb.lt;have lxb:=hxb.lt;have lyb:=hyb.lt;have hh2:=hh.ext x2
 have h0:aOu [] size w.heap.size ⟨⟨rb,hb',w.heap.size,w.heap.size,2,0,size,qP,nl,nl,nl,nl,nl,[],[],[]⟩,0,[],λ_=>False,0⟩ ⟨xb,yb,0,w1.heap.size,2,size,qP,nl,nl,nl,nl,nl,[],[],[]⟩ [] w2:=by
  refine aUz hlo hlt (hrb.ext x2) hh2 hyw hyx hxb hyb har (by omega) (by omega) z1 z2
 refine ⟨λt w'=>∃ (k:Nat) (p:iY) (q:QP) (vs:List O),t=i64 (k:Int)/\k<=l.length/\aOu (l.take k) size w.heap.size p q vs w'/\p.rp.rb=rb/\q.xb=xb/\aG w w',λt _=>l.length - (RowKit.intOf t).toNat,⟨0,_,_,_,rfl,Nat.zero_le _,h0,rfl,rfl,x12⟩,?_⟩;rintro _ w3 ⟨k,p,q,vs,rfl,hk,H,hprb,hqxb,x3⟩ _;have hl3:=hl.ext x3;refine wQ iD hl3 (aV.2 (aK (λhlt=>?_) λhge=>?_))
 ·obtain ⟨x,hx⟩:=bH (l:=l) (j:=k) (by omega);obtain ⟨pv,im⟩:=x;refine XB iD kQ hl3 hx aBs λrow ⟨hrow,hA,ht⟩=>?_;have hrow:(Value.agg row.toArray)=pv.val im:=by rw [hrow];rfl
  rw [hrow];have ekl:(l.take k).length=k:=by simp;omega
  have er:(Value.pointer (some ⟨rb,0,none⟩))=kZ p.rp:=by unfold kZ;rw [hprb]
  have eq:(Value.pointer (some ⟨xb,0,none⟩))=oZ q:=by unfold oZ;rw [hqxb]
  show aC prog 35 #[pt rb,pv.val im] w3 _;rw [show pt rb=kZ p.rp from er];refine (zS H.bld (by simp [];omega) (by simp [zs]) hA.at_ ht.1).mono λrv w4 ⟨p4,hrv,g4,e41,e42,F4,m4⟩=>?_;subst hrv;have X4:aG w w4:=F4.ext x3 λi ⟨a,hi⟩=>H.bld.ge a i hi;refine cL.2 (cK.2 (fN.2 ?_));simp only [Bool.not_true,aA,Bool.not_true];refine XB iD kQ (hl.ext X4) hx aBs λrow ⟨hrow,hA4,_⟩=>?_;have hrow:(Value.agg row.toArray)=pv.val im:=by rw [hrow];rfl
  rw [hrow];show aC prog 41 #[pt xb,pv.val im] w4 _;rw [show pt xb=oZ q from eq];have R4:=H.rbd.fr F4 λa i hi ⟨b,hb⟩=>H.no b a i hb hi;refine (WX R4 (by rw [ekl];omega) (by simp [zs]) hA4.at_ (by have h8:((im.fields.length:Nat):Int)<=8:=ht.1.1.2;show im.fields.length<=64;omega)).mono λrv w5 ⟨q5,vs5,g5,e5,F5,m5⟩=>?_;have X5:aG w w5:=F5.ext X4 λi hi=>by rw [hi];exact H.rbd.ge .rm _ (.inl (.inl rfl))
  have noX:∀ a i,BR p4 a i->i≠q.xb:=λa i hi he=>by
   rcases m4 a i hi with h|h
   ·exact H.no a .rm i h (.inl (.inl he))
   ·have:=H.rbd.ref.xbox.lt;omega
  have g45:=g4.fr F5 λa i hi he=>noX a i hi he;refine bW.2 ?_;rw [aX (by omega)];have s4:=F4.size;refine ⟨⟨k+1,p4,q5,vs5,by simp,by omega,⟨?_,?_,λa b i hi hj=>?_,by rw [e42];exact H.hp,?_⟩,by rw [e41];exact hprb,by rw [e5];exact hqxb,X5⟩,?_⟩
  ·rw [BF hx,List.map_append,OY];exact g45
  ·rw [BF hx,OY];exact g5
  ·rcases m5 b i hj with h|h
   ·rcases m4 a i hi with h'|h'
    ·exact H.no a b i h' h
    ·have:=H.rbd.sep.lt b i h;omega
   ·have:=g4.sep.lt a i hi;omega
  ·rw [e5];exact H.hq
  ·have e1:RowKit.intOf (i64 ((k:Int)+1))=(k:Int)+1:=rfl;have e2:RowKit.intOf (i64 (k:Int))=(k:Int):=rfl;simp only [e1,e2];omega
 ·have hkl:k=l.length:=by omega
  subst hkl;rw [List.take_length] at H;have er:(Value.pointer (some ⟨rb,0,none⟩))=kZ p.rp:=by unfold kZ;rw [hprb]
  have eq:(Value.pointer (some ⟨xb,0,none⟩))=oZ q:=by unfold oZ;rw [hqxb]
  have hbeg:(kY (ps0 size) a b).1=true:=by unfold kY;rw [if_neg (by omega)]
  show aC prog 42 #[pt rb,av,bv] w3 _;rw [show pt rb=kZ p.rp from er];refine (WO H.bld.room (ha.ext x3) (λw' f=>hb.ext (f.ext x3 λi hi=>H.bld.ge .rm i hi)) oka okb).mono λrv w4 ⟨p4,hrv,e4,g4,s4⟩=>?_;subst hrv;rw [H.hp] at e4 ⊢;rw [hbeg];refine fN.2 ?_;simp only [Bool.not_true,dJ,aJ,reduceIte,Bool.false_eq_true,Bool.not_true];have X4:aG w w4:=s4.fr.ext x3 λi hi=>H.bld.ge .rm i hi;have R4:=H.rbd.fr s4.fr λa i hi hm=>H.no .rm a i hm hi;show aC prog 43 #[pt xb,av,bv] w4 _;rw [show pt xb=oZ q from eq];refine (WN R4.ref (ha.ext X4) (λw' f=>hb.ext (f.ext X4 λi hi=>R4.ge .rm i (.inl hi)))).mono λrv w5 ⟨q5,hrv,e5,g5,s5⟩=>?_;subst hrv;rw [H.hq] at e5 ⊢;rw [hbeg];refine fN.2 ?_;simp only [Bool.not_true,aA,Bool.not_true];have X5:aG w w5:=s5.fr.ext X4 λi hi=>R4.ge .rm i (.inl hi);obtain ⟨⟨eqx,eqy,eqs,eqi,eqf⟩,mq,fq⟩:=s5;have fp:=s4.fr;have n4:=fp.size;have n5:=fq.size;have hzl:(zs l).length=l.length:=by simp [zs]
  obtain ⟨fo,fcap,hfo⟩:=nA H.bld.fv (by omega);have F35:Fr (λi=>kE p.rp i\/SF q i) w3 w5:=fp.or fq
  have nM:∀ {a:Lb} {i:Nat},a≠.rm->BR p a i->¬ (kE p.rp i\/SF q i):=λ{a i} ha hi hm=>by
   rcases hm with hm|hm
   ·exact ha (H.bld.sep.dj a .rm i hi hm)
   ·exact H.no a .rm i hi (.inl hm)
  obtain ⟨cs,hiv,hrows⟩:=H.bld.iv
  have himg3:tM (λi=>p.IB i\/p.rp.iv.ownBlock=some i) w3 λw'=>hU w' p.rp.iv (l.map (·.2)):=λw' f=>⟨cs,aB.of_own (f.own hiv λi hi hn=>hn (.inr hi)),λk i hk=>by
   obtain ⟨pk,h1,h2⟩:=hrows k i hk;exact ⟨_,rfl,pk,h1,h2 w' (f.mono λj hj hn=>hj (.inl hn))⟩⟩
  have himg5:=himg3.fr F35 λi hi=>by
   rcases hi with hi|hi
   ·exact nM (a:=.im) (by intro e;cases e) hi
   ·exact nM (a:=.mb) (by intro e;cases e) hi
  have hrw5:∀ (k:Nat) v d,p.vs[k]?=some v->(zs l)[k]?=some d->w5.ownsRow 0 21 1 v d.length (d.map i32):=λk v d hk hd=>F35.own (H.bld.row k v d hk hd) λi hi=>nM (a:=.fd) (by intro e;cases e) ⟨v,List.mem_of_getElem? hk,hi⟩;have hfv5:=F35.own H.bld.fv λi hi=>nM (a:=.fo) (by intro e;cases e) hi;have hlv:p.vs.length=(zs l).length:=by have:=H.bld.fv.1;omega
  have cls:∀ {a:Lb} {i:Nat},XD { p with rp:=p4,fo:=fo,IB:=λi=>p.IB i\/p.rp.iv.ownBlock=some i } (λ_=>False) a i->(∃ c,BR p c i/\((a≠.im/\a=c)\/(a=.im/\(c=.im\/c=.mb))))\/(a=.rm/\w3.heap.size<=i/\i < w4.heap.size):=by
   intro a i hi;cases a with
   | rm=>
    rcases s4.mu i hi with h|h
    ·exact .inl ⟨.rm,h,.inl ⟨(by intro e;cases e),rfl⟩⟩
    ·exact .inr ⟨rfl,h,g4.hi i hi⟩
   | im=>
    rcases hi with h|h
    ·exact .inl ⟨.im,h,.inr ⟨rfl,.inl rfl⟩⟩
    ·exact .inl ⟨.mb,h,.inr ⟨rfl,.inr rfl⟩⟩
   | fo=>
    have hi:i=fo:=hi;exact .inl ⟨.fo,(by show p.rp.fv.ownBlock=some i;rw [hfo,hi];rfl),.inl ⟨(by intro e;cases e),rfl⟩⟩
   | fd=>exact .inl ⟨.fd,hi,.inl ⟨(by intro e;cases e),rfl⟩⟩
   | mb=>exact hi.elim
   | fr=>exact hi.elim
   | ex=>exact hi.elim
  have clq:∀ {a:Lb} {i:Nat},BQ q5 vs a i->(BQ q vs a i/\i < w4.heap.size)\/(a=.rm/\w4.heap.size<=i/\i < w5.heap.size):=by
   intro a i hi;have old:=λh=>R4.sep.lt a i h;cases a with
   | rm=>
    rcases hi with hi|hi
    ·have:SF q i:=hi.elim (λh=>.inl (h.trans eqx)) λh=>.inr (h.trans eqy);exact .inl ⟨.inl this,old (.inl this)⟩
    ·rcases mq i hi with h|h
     ·exact .inl ⟨.inr h,old (.inr h)⟩
     ·exact .inr ⟨rfl,h,g5.hi i (.inr hi)⟩
   | fo=>
    have hi:q5.fv.ownBlock=some i:=hi;rw [eqf] at hi;exact .inl ⟨hi,old hi⟩
   | mb=>
    have hi:q5.iv.ownBlock=some i:=hi;rw [eqi] at hi;exact .inl ⟨hi,old hi⟩
   | fd=>exact .inl ⟨hi,old hi⟩
   | im=>exact hi.elim
   | fr=>exact hi.elim
   | ex=>exact hi.elim
  have nQ:∀ {a:Lb} {i:Nat},a≠.rm->BQ q vs a i->¬ SF q i:=λ{a i} ha hi hm=>ha (R4.sep.dj a .rm i hi (.inl hm));have e4:p4.ps=(kY (ps0 size) a b).2:=e4;rw [show kZ p.rp=kZ p4 by unfold kZ;rw [s4.rb],show oZ q=oZ q5 by unfold oZ;rw [eqx]];refine hR { p with rp:=p4,fo:=fo,IB:=λi=>p.IB i\/p.rp.iv.ownBlock=some i } q5 vs w5 ⟨⟨g4.fr fq λi hm hr=>?_,⟨congrArg PS.size e4,congrArg PS.ar e4,congrArg PS.tp e4,congrArg PS.ts e4⟩,⟨⟨fcap,?_⟩,?_,hlv,hrw5,H.bld.dj,λv hv he=>?_⟩,?_,⟨λa b i ha hb=>?_,λa i ha=>?_⟩⟩,⟨g5,?_,R4.one,?_,?_,R4.djv,⟨λa b i ha hb=>?_,λa i ha=>?_⟩,λa i ha=>?_,by have:=R4.hB;omega⟩,λa b i ha hb=>?_,λa i ha=>?_,e5⟩ X5
  ·rcases s4.mu i hm with h|h
   ·exact H.no .rm .rm i h (.inl hr)
   ·have:=H.rbd.ref.hi i (.inl hr);omega
  ·show p4.fv=_;rw [s4.fv];exact hfo
  ·rw [hfo] at hfv5;exact QT hfv5
  ·have:=H.bld.sep.dj .fd .fo fo ⟨v,hv,he⟩ (by show p.rp.fv.ownBlock=some fo;rw [hfo];rfl);cases this
  ·show tM _ w5 λw'=>hU w' p4.iv _;rw [s4.iv];exact himg5
  ·rcases cls ha with ⟨c,hc,k1⟩|⟨k1,k2,k3⟩<;>rcases cls hb with ⟨d,hd,k4⟩|⟨k4,k5,k6⟩
   ·have hcd:=H.bld.sep.dj c d i hc hd;subst hcd;rcases k1 with ⟨k1,rfl⟩|⟨rfl,k1⟩<;>rcases k4 with ⟨k4,rfl⟩|⟨rfl,k4⟩
    ·rfl
    ·rcases k4 with rfl|rfl
     ·rfl
     ·exact ha.elim
    ·rcases k1 with rfl|rfl
     ·rfl
     ·exact hb.elim
    ·rfl
   ·have:=H.bld.sep.lt c i hc;omega
   ·have:=H.bld.sep.lt d i hd;omega
   ·rw [k1,k4]
  ·rcases cls ha with ⟨c,hc,_⟩|⟨_,_,_⟩
   ·have:=H.bld.sep.lt c i hc;omega
   ·omega
  ·obtain ⟨cs',r1,r2⟩:=R4.iv;rw [eqi];exact ⟨cs',fq.own r1 λi hi=>nQ (a:=.mb) (by intro e;cases e) hi,r2⟩
  ·rw [eqf];exact fq.own R4.fv λi hi=>nQ (a:=.fo) (by intro e;cases e) hi
  ·exact λk v d hk hd=>fq.own (R4.row k v d hk hd) λi hi=>nQ (a:=.fd) (by intro e;cases e) ⟨v,List.mem_of_getElem? hk,hi⟩
  ·rcases clq ha with ⟨ha,k1⟩|⟨k1,k2,k3⟩<;>rcases clq hb with ⟨hb,k4⟩|⟨k4,k5,k6⟩
   ·exact R4.sep.dj a b i ha hb
   iterate 2
    ·omega
   ·rw [k1,k4]
  ·rcases clq ha with ⟨ha,k1⟩|⟨k1,k2,k3⟩<;>omega
  ·rcases clq ha with ⟨ha,k1⟩|⟨k1,k2,k3⟩
   ·exact R4.ge a i ha
   ·have:=R4.hB;omega
  ·rcases clq hb with ⟨hb,k4⟩|⟨k4,k5,k6⟩<;>rcases cls ha with ⟨c,hc,k1⟩|⟨k1,k2,k3⟩
   ·exact H.no c b i hc hb
   ·have:=H.rbd.sep.lt b i hb;omega
   ·have:=H.bld.sep.lt c i hc;omega
   ·omega
  ·rcases cls ha with ⟨c,hc,k1⟩|⟨k1,k2,k3⟩
   ·exact H.bld.ge c i hc
   ·have:=H.bld.hB;omega
end Go.Proofs.YtgkkecladbmjkaaGreatDoor
namespace Go.Proofs.YtgkkecladbmjkaaGreatDoor
open Tryz
open Go.Vc Go.Tc
variable {w:Ω} {K:O->Ω->Prop}
variable {n:Int} {rv:O} {i:bF}
theorem aFc {rl:List Rw} (hr:eW w rv rl) (hb:mP w) (hT:oT w) (rn:rl.length=0)
  (hk:∀ p i w',iG w' p i->mO w' i->i.rg->i.methods.length=3->(∀ m∈i.methods,m.code.length<=700000)->(∀ w'',Fr (λk=>k < w.heap.size) w' w''->oT w''->iG w'' p i/\mO w'' i)->(∃ cs:List O,∀ w'',Fr (λk=>k < w.heap.size) w' w''->aB w'' p.mv 4 i.methods.length cs/\∀ (k:Nat) (x:gU),i.methods[k]?=some x->jO w'' ((cs.drop (k*4)).take 4) x)->aG w w'->(∃ s n1 n2,i=RZ s n1 n2)->K (p.val i) w'):aC prog 38 #[i64 n,rv] w K:=
 SB hr hb hT (by omega) λp i w' a b c d e f g x z=>hk p i w' a b c d e f g x (z rn)
theorem aVj:∃ s,rN i ⟨[],0,[1,2,3,4],[⟨39,0,0⟩]⟩ (some s):=
 ⟨⟨[[]],[true],[false]⟩,.inr ⟨λx hx=>(by
   rw [List.mem_singleton] at hx;subst hx;unfold fP;simp),.go (pc:=0) (s':=⟨[[]],[true],[false]⟩) (by kernel_rfl) (by kernel_rfl) (.done (by kernel_rfl))⟩⟩
theorem aVi:∃ s,rN i ⟨[1,2],2,[1,2,3,4],[⟨2,1,0⟩,⟨39,0,0⟩]⟩ (some s):=
 ⟨⟨[[],[2]],[true,true],[false,false]⟩,.inr ⟨λx hx=>(by
   simp only [List.mem_cons,List.not_mem_nil,or_false] at hx;rcases hx with rfl|rfl<;>unfold fP<;>simp [gU.locs]),.go (pc:=0) (s':=⟨[[],[2]],[true,true],[false,true]⟩) (by kernel_rfl) (by kernel_rfl) (.go (pc:=1) (s':=⟨[[],[2]],[true,true],[false,false]⟩) (by kernel_rfl) (by kernel_rfl) (.done (by kernel_rfl)))⟩⟩
theorem aVh:∃ s,rN i ⟨[4,3],3,[1,2],[⟨2,1,0⟩,⟨39,0,0⟩]⟩ (some s):=
 ⟨⟨[[],[3]],[true,true],[false,false]⟩,.inr ⟨λx hx=>(by
   simp only [List.mem_cons,List.not_mem_nil,or_false] at hx;rcases hx with rfl|rfl<;>unfold fP<;>simp [gU.locs]),.go (pc:=0) (s':=⟨[[],[3]],[true,true],[false,true]⟩) (by kernel_rfl) (by kernel_rfl) (.go (pc:=1) (s':=⟨[[],[3]],[true,true],[false,false]⟩) (by kernel_rfl) (by kernel_rfl) (.done (by kernel_rfl)))⟩⟩
theorem OO (s n1 n2:ByteArray):vN (RZ s n1 n2):=by
 refine ⟨⟨⟨?_,by show (4:Int)<=8;decide⟩,⟨by show 2<=4;decide,λx hx=>?_⟩,⟨⟨by show 1<=3;decide,by show 3<=8;decide⟩,λm hm=>?_,rfl,rfl⟩,by show 2<=4;decide,λn hn=>?_⟩,λm hm=>?_⟩
 ·show nI [1,2,3,4];unfold nI;decide
 ·have hx:x∈[(⟨n1,0,[1,2],2⟩:zV),⟨n2,1,[4,3],3⟩]:=hx;simp only [List.mem_cons,List.not_mem_nil,or_false] at hx;rcases hx with rfl|rfl
  ·refine ⟨(by show (0:Int)<=0/\(0:Int) < 4;decide),⟨?_,(by show (2:Int)<=4;decide)⟩,(by show (0:Int)<=2/\(2:Int)<=4;decide)⟩;show nI [1,2];unfold nI;decide
  ·refine ⟨(by show (0:Int)<=1/\(1:Int) < 4;decide),⟨?_,(by show (2:Int)<=4;decide)⟩,(by show (0:Int)<=3/\(3:Int)<=4;decide)⟩;show nI [4,3];unfold nI;decide
 ·have hm:m∈[(⟨[],0,[1,2,3,4],[⟨39,0,0⟩]⟩:gU),⟨[1,2],2,[1,2,3,4],[⟨2,1,0⟩,⟨39,0,0⟩]⟩,⟨[4,3],3,[1,2],[⟨2,1,0⟩,⟨39,0,0⟩]⟩]:=hm;simp only [List.mem_cons,List.not_mem_nil,or_false] at hm;rcases hm with rfl|rfl|rfl<;>(unfold gU.right pV nI gP.right lim;decide)
 ·have hn:n∈[(1:Int),2]:=hn;show 0<=n/\n < (3:Int);simp only [List.mem_cons,List.not_mem_nil,or_false] at hn;omega
 ·have hm:m∈[(⟨[],0,[1,2,3,4],[⟨39,0,0⟩]⟩:gU),⟨[1,2],2,[1,2,3,4],[⟨2,1,0⟩,⟨39,0,0⟩]⟩,⟨[4,3],3,[1,2],[⟨2,1,0⟩,⟨39,0,0⟩]⟩]:=hm;simp only [List.mem_cons,List.not_mem_nil,or_false] at hm;rcases hm with rfl|rfl|rfl
  ·exact aVj
  ·exact aVi
  ·exact aVh
theorem aVw (hr:eW w rv []) (hb:mP w) (hT:oT w) (hk:∀ p i w',uN w.heap.size w' p i->vN i->aG w w'->K (p.val i) w'):aC prog 38 #[i64 n,rv] w K:=
 aFc hr hb hT rfl λp i w' _ _ h3 h4 h5 h7 h8 h6 h9=>hk p i w' ⟨λw'' f hT''=>⟨(h7 w'' f hT'').1,(h7 w'' f hT'').2,h3,h4,λm hm=>Nat.le_trans (h5 m hm) (by decide)⟩,h8⟩ (by obtain ⟨a,b,c,rfl⟩:=h9;exact OO a b c) h6
theorem IH {v:O} {ll:List (List Rw)} (h:tI w v ll) (hb:mP w) (hT:oT w) (hk:∀ v' l w',nS w' v' l->l.length=min ll.length 3->(∀ x∈l,∀ w'',Fr (λk=>k < w.heap.size) w' w''->oT w''->Apl w'' x.1 x.2)->aG w w'->K v' w'):aC prog 8 #[v] w K:=by
 apply aKp;unfold OV;refine ⟨λt v w'=>∃ (j:Nat) (l:List (bP × bF)),v=i64 j/\j<=ll.length/\j<=3/\l.length=j/\aG w w'/\w'.ownsRow w.heap.size 46 5 t l.length (HW l)/\∀ x∈l,(∀ w'',Fr (λk=>t.ownBlock=some k\/k < w.heap.size) w' w''->oT w''->Apl w'' x.1 x.2)/\vN x.2,λ_ v _=>3 - (RowKit.intOf v).toNat,⟨0,[],rfl,Nat.zero_le _,Nat.zero_le _,rfl,aG.refl _,World.ownsRow_nil _ _ _ _,λ_ h=>by simp at h⟩,?_⟩;rintro tv _ w1 ⟨j,l,rfl,hj,hj3,hlj,x1,ho,hl⟩ _;obtain ⟨vs,hvs,hvl⟩:=h.ext x1
 have hb1:∀ {w'},aG w w'->mP w':=λhx q hq=>by
  obtain ⟨z,hz⟩:=hb q hq;exact ⟨z,hx.cell hz⟩
 refine gG PB hvs (aV.2 ?_);by_cases c0:(j:Int) < (ll.length:Int)/\(j:Int) < 3
 case neg=>
  have fin:K tv w1:=hk tv l w1 ⟨HW l,aB.of_own ho,λk x hx=>⟨_,HV hx,rfl,(hl x (List.mem_of_getElem? hx)).1 _ (Fr.refl _ _) (hT.ext x1),(hl x (List.mem_of_getElem? hx)).2⟩⟩ (by omega) (λx hx w'' f hT''=>(hl x hx).1 w'' (f.mono λk hk=>.inr hk) hT'') x1;by_cases c1:(j:Int) < (ll.length:Int)
  ·have c2:¬ (j:Int) < 3:=λhc=>c0 ⟨c1,hc⟩;simp only [c1,c2,aY];exact fin
  ·simp only [c1,aY];exact fin
 obtain ⟨c1,c2⟩:=c0;simp only [c1,c2,aY];obtain ⟨rl,hrl⟩:=bH (l:=ll) (j:=j) (by omega);obtain ⟨ru,hru,hrr,hrn⟩:=hvl j rl hrl;refine nO PB aAd hvs (by omega) (by omega) (by simpa using hru) ?_;refine aTp hrr (hb1 x1) (hT.ext x1) hrn λp2 i2 w2 ha2 hc2 x2=>?_;have hone:=(ha2.now (hT.ext (x1.trans x2))).one;refine xL PW rfl hone λw3 hB3 x3=>?_;have hB3:bD w3 w2.heap.size (p2.cells i2) 46:=hB3;have s2:=x2.size;have x13:=x2.trans x3;have hg:w1.heap.size<=w2.heap.size:=s2;have ha3:=ha2.ext x3;generalize w2.heap.size=g at *;clear ha2 x2 x3 s2 hone hc2;have hT1:∀ {w'},aG w1 w'->oT w':=λhx=>hT.ext (x1.trans hx);refine ⟨λw'=>∃ p i,bD w' g (bP.cells p i) 46/\uN w1.heap.size w' p i/\aG w1 w'/\vN i,?_,?_⟩
 ·refine qO (bD.boxed hB3) kQ rfl ?_;have hA3:=ha3.now (hT1 x13);refine xX (p:=p2) (i:=i2) hA3.at_ hA3.nm λa b e w4 he4 x4=>?_;refine cL.2 (cK.2 ?_);refine asB YJ rfl rfl λb5 w5 _ x5=>?_;have x45:=x4.trans x5;have hB5:=hB3.ext x45;have ha5:=ha3.ext x45;have x15:=x13.trans x45;refine aS.2 (aK (λhne=>?_) λheq=>⟨p2,i2,hB5,ha5,x15,he4.1 (by omega)⟩);have D1:aG w5 w5.drew:=(aG.refl _).drew;have x1d:=x15.trans D1;have hrrd:=hrr.ext x1d;obtain ⟨u6,r6,hs6⟩:=eW.part underlying99 zC hrrd (lo:=none) (hi':=some (.int .i64 ((rl.length / 2:Nat):Int))) (a:=0) (b:=rl.length / 2) (.inl ⟨rfl,rfl⟩) (.inr rfl) (by omega) (by omega);refine aH.mk' (λw'=>aG w5.drew w') (aG.refl _) ?_;refine gF PB aAd (hvs.ext x1d) (λ_ h=>h) (by omega) (by omega) (by simpa using hru) ?_;refine gF PB aAd (hvs.ext x1d) (λ_ h=>h) (by omega) (by omega) (by simpa using hru) ?_;refine aRw rO hrrd ?_;refine aD.ok (λw' _=>GW (by decide)) ?_
  have e2:IntKind.i64.wrap (((rl.length:Nat):Int).tdiv 2)=((rl.length / 2:Nat):Int):=by
   rw [Int.tdiv_eq_ediv_of_nonneg (by omega),aX (by omega)];rfl
  rw [e2];refine aD.ok (λw' _=>r6 _) ?_;refine aTp hs6 (hb1 (x1.trans x1d)) (hT.ext (x1.trans x1d)) (by simp;omega) λp7 i7 w7 ha7 _ x7=>⟨x7,?_⟩;have x17:=x1d.trans x7;have hgd:g < w5.drew.heap.size:=(hB5.ext D1).lt;have s1d:=x1d.size;refine GF jT (hB5.ext (D1.trans x7)) (l:=p7.cells i7) rfl rfl rfl (ha7.now (hT1 x17)).one λw8 hB8 hc8=>?_;have x18:aG w1 w8:=hc8.ext _ x17 hg;have ha8:uN w1.heap.size w8 p7 i7:=ha7.chg (rB hc8) hgd s1d;refine qO (bD.boxed hB8) kQ rfl ?_;have hA8:=ha8.now (hT1 x18);refine xX (p:=p7) (i:=i7) hA8.at_ hA8.nm λa b e w9 he9 x9=>?_;refine cL.2 (cK.2 ?_);refine asB YJ rfl rfl λb10 w10 _ x10=>?_;have x910:=x9.trans x10;refine aS.2 (aK (λhne2=>?_) λheq=>⟨p7,i7,hB8.ext x910,ha8.ext x910,x18.trans x910,he9.1 (by omega)⟩);have x1A:=x18.trans x910;refine aVw ⟨⟨none,0,rfl⟩,λh=>by simp at h⟩ (hb1 (x1.trans x1A)) (hT.ext (x1.trans x1A)) λp11 i11 w11 ha11 ht11 x11=>?_;have hgA:g < w10.heap.size:=(hB8.ext x910).lt;have s1A:=x1A.size;refine GF jT (hB8.ext (x910.trans x11)) (l:=p11.cells i11) rfl rfl rfl (ha11.now (hT1 (x1A.trans x11))).one λw12 hB12 hc12=>?_;exact ⟨p11,i11,hB12,ha11.chg (rB hc12) hgA s1A,hc12.ext _ (x1A.trans x11) hg,ht11⟩
 rintro w4 ⟨p,i,hB,ha,x14,ht⟩ _;refine qO (bD.boxed hB) kQ rfl ?_;have hA:=ha.now (hT1 x14);refine xX (p:=p) (i:=i) hA.at_ hA.nm λa b e w5 he x5=>?_;refine cL.2 (cK.2 ?_);refine asB YJ rfl rfl λb6 w6 _ x6=>?_;have x46:=x5.trans x6;have x16:=x14.trans x46;refine aF.2 (aK (λhz=>?_) λhz=>?_)
 ·refine qO (bD.boxed (hB.ext x46)) kQ rfl ?_;refine EP underlying24 jT rfl (by decide) [.agg (p.cells i).toArray] rfl rfl (by intro v hv;rw [List.mem_singleton] at hv;subst hv;rfl) (by decide) (by decide) λv7 w7 ho7 x7=>?_;have s7:=(x1.trans (x16.trans x7)).size;have hone7:([Value.agg (p.cells i).toArray].flatMap λv=>v.cells.toList).all cB=true:=by simpa [Value.cells] using hA.one
  refine apG underlying24 jT rfl (by decide) ((x16.trans x7).own ho) (aB.of_own ho7) hone7 (by omega) (by unfold maxLen;omega) s7 λv8 w8 ho8 hg8 hl8=>?_;have x18:aG w w8:=(x1.trans (x16.trans x7)).grown hg8 λk hk=>(ho.lt k hk).1;refine mH (by omega) ?_;refine ⟨⟨j+1,l++[(p,i)],rfl,by omega,by omega,by simp;omega,x18,?_,λx hx=>?_⟩,by simp only [aT];omega⟩
  ·have e1:HW (l++[(p,i)])=HW l++([Value.agg (p.cells i).toArray].flatMap λv=>v.cells.toList):=by simp [HW,Value.cells]
   rw [e1,List.length_append];exact ho8
  ·have f8:Fr (λk=>tv.ownBlock=some k) w7 w8:=Fr.of_grown hg8 λk hk=>hk;have x17:=x16.trans x7;have s17:=x17.size
   have f78:∀ {w''},Fr (λk=>v8.ownBlock=some k\/k < w.heap.size) w8 w''->Fr (λk=>tv.ownBlock=some k\/k < w.heap.size) w7 w'':=λf=>(f8.mono λk hk=>.inl hk).trans f λk hk hk'=>by
    rcases hk' with hk'|hk'
    ·rcases hl8 with h8|h8
     ·rw [h8] at hk';exact .inl hk'
     ·rw [h8] at hk';cases hk';omega
    ·exact .inr hk'
   rcases List.mem_append.1 hx with hx|hx
   ·exact ⟨λw'' f hT''=>(hl x hx).1 w'' ((Fr.of_ext x17).trans (f78 f) λ_ _ h=>h) hT'',(hl x hx).2⟩
   ·rw [List.mem_singleton] at hx;subst hx;refine ⟨λw'' f hT''=>ha.ap w'' ((Fr.of_ext (x46.trans x7)).trans ((f78 f).mono λk hk=>?_) λ_ _ h=>h) hT'',ht⟩;have:=x1.size;rcases hk with hk|hk
    ·exact (ho.lt k hk).2
    ·omega
 ·exact absurd (he.2 ht) hz
end Go.Proofs.YtgkkecladbmjkaaGreatDoor
namespace Go.Proofs.YtgkkecladbmjkaaGreatDoor
open Tryz
open Go.Vc Go.Tc
section
variable {l:List bF} {X0:Nat->Prop} {p:iY} {fg fcap:Nat} {qs:List FP} {q:FP} {m:PM} {w w':Ω} {S:Nat->Prop}
def MB (p:iY) (q:FP) (fg:Nat) (qs:List FP) (i:Nat):Prop:=(∃ a,a≠Lb.ex/\WR p q (λ_=>False) a i)\/i=fg\/∃ a∈qs,rI a i
theorem WRx {X Y:Nat->Prop} {a:Lb} {i:Nat} (ha:a≠.ex) (h:WR p q X a i):WR p q Y a i:=by
 cases a with
 | ex=>exact absurd rfl ha
 | _=>exact h
theorem cW.fr (h:cW l X0 p fg fcap qs q m w) (g:Fr S w w') (hn:∀ i,MB p q fg qs i->¬ S i):cW l X0 p fg fcap qs q m w':=
 ⟨h.wh.fr g λa i ha hi=>hn i (.inl ⟨a,ha,WRx ha hi⟩),g.own h.row λi hi=>hn i (.inr (.inl (by simpa [Value.ownBlock] using hi.symm))),h.bel.fr g λa ha i hi=>hn i (.inr (.inr ⟨a,ha,hi⟩)),h.bd,h.bf,h.x0⟩
theorem cW.lt (h:cW l X0 p fg fcap qs q m w) {i:Nat} (hi:MB p q fg qs i):i < w.heap.size:=by
 rcases hi with ⟨a,ha,hi⟩|hi|hi
 ·exact h.wh.sep.lt a i (WRx ha hi)
 ·exact h.wh.sep.lt .ex i (.inr (.inl hi))
 ·exact h.wh.sep.lt .ex i (.inr (.inr hi))
def Els (p:iY) (q:FP) (fg:Nat) (qs:List FP) (n:Nat) (i:Nat):Prop:=i < n/\¬ MB p q fg qs i
theorem cW.all (h:cW l X0 p fg fcap qs q m w):cW l (Els p q fg qs w.heap.size) p fg fcap qs q m w:=by
 have H:=h.wh;refine ⟨⟨H.room,H.rps,H.fld,H.img,H.box,H.frm,⟨λa b i ha hb=>?_,λa i ha=>?_⟩⟩,h.row,h.bel,h.bd,h.bf,λi hi=>⟨λe=>hi.2 (.inr (.inl e)),λa ha e=>hi.2 (.inr (.inr ⟨a,ha,e⟩))⟩⟩
 ·have key:∀ {a:Lb},a≠.ex->WR p q (BX (Els p q fg qs w.heap.size) fg qs) a i->¬ BX (Els p q fg qs w.heap.size) fg qs i:=by
   intro a ha hi hx;rcases hx with hx|hx|hx
   ·exact hx.2 (.inl ⟨a,ha,WRx ha hi⟩)
   ·exact ha (H.sep.dj a .ex i (WRx ha hi) (.inr (.inl hx)))
   ·exact ha (H.sep.dj a .ex i (WRx ha hi) (.inr (.inr hx)))
  by_cases h1:a=.ex
  ·by_cases h2:b=.ex
   ·rw [h1,h2]
   ·subst h1;exact absurd ha (key h2 hb)
  ·by_cases h2:b=.ex
   ·subst h2;exact absurd hb (key h1 ha)
   ·exact H.sep.dj a b i (WRx h1 ha) (WRx h2 hb)
 ·by_cases h1:a=.ex
  ·subst h1;rcases ha with ha|ha|ha
   ·exact ha.1
   ·exact H.sep.lt .ex i (.inr (.inl ha))
   ·exact H.sep.lt .ex i (.inr (.inr ha))
  ·exact H.sep.lt a i (WRx h1 ha)
theorem WZ.fr {e:AP} (h:WZ l X0 p e w) (g:Fr S w w') (hS:∀ i,S i->i < w.heap.size->X0 i):WZ l X0 p e w':=by
 obtain ⟨q,f,X,a,cap,h1,h2⟩:=h;exact ⟨q,f,X,a,cap,h1.fr g λb i hb hi hs=>hb (h1.sep.dj b .ex i hi (h2 i (hS i hs (h1.sep.lt b i hi)))),h2⟩
theorem OB (g:Fr S w w'):Fr (λi=>S i/\i < w.heap.size) w w':=⟨g.os,g.tape,g.output,g.size,λi hi hn=>g.block i hi λhs=>hn ⟨hs,hi⟩⟩
end
section
variable {w:Ω} {K:O->Ω->Prop}
def SE (w:Ω) (v:O) (ll:List (List Rw)):Prop:=(∃ a c,v=.slice a ll.length c)/\(0 < ll.length->tI w v ll)
theorem aBq {a:Option Addr} {c:Nat} (hk:K bT w):aC prog 8 #[.slice a 0 c] w K:=by
 apply aKp;unfold OV;refine ⟨λt v w'=>t=bT/\v=i64 0/\w'=w,λ_ _ _=>0,⟨rfl,rfl,rfl⟩,?_⟩;rintro _ _ w1 ⟨rfl,rfl,hw⟩ _;have hw:=hw.symm;subst hw;refine aFu.2 (aV.2 ?_);simp only [show ¬ ((0:Int) < ((0:Nat):Int)) by decide,aY];exact hk
theorem aBr {v:O} {ll:List (List Rw)} (h:SE w v ll) (hb:mP w) (hT:oT w) (hk:∀ v' l w',nS w' v' l->l.length=min ll.length 3->aG w w'->K v' w'):aC prog 8 #[v] w K:=by
 by_cases h0:0 < ll.length
 ·exact IH (h.2 h0) hb hT λv' l w' h1 h2 _ h3=>hk v' l w' h1 h2 h3
 ·obtain ⟨⟨a,c,rfl⟩,_⟩:=h;have e0:ll.length=0:=by omega
  rw [e0];exact aBq (hk bT [] w ⟨[],aB.nil _ _,λk x hk=>by simp at hk⟩ (by rw [e0];rfl) (aG.refl _))
theorem aOf {v:O} {ll:List (List Rw)} (h:SE w v ll) (hb:mP w) (hT:oT w) (hk:∀ v' l w',nS w' v' l->0 < l.length->l.length<=3->aG w w'->K v' w') :
  aC prog 8 #[v] w λt24 w1=>∃ J1:NP 1,
   (V prog (Builtin.len_ #[24] 3 #[t24]) w1 λt26 w2=>V prog (do eqGuard .eql 3 (.tmp 26) (.const (i64 0)) t26 (i64 0);binOp .eql 3 t26 (i64 0)) w2 λt27 w3=>
    aO t27 (V prog (Instr.buildSlice 22 1 #[(0,bT)]) w3 λt28 w4=>aC prog 8 #[t28] w4 λt29 w5=>J1 t29 w5) (J1 t24 w3)) /\
   ∀ (t11:O),∀ w6:Ω,J1 t11 w6->∀ _f:bQ,K t11 w6:=by
 refine aBr h hb hT λv1 l1 w1 h1 e1 x1=>?_;refine ⟨λv' w'=>∃ l,nS w' v' l/\0 < l.length/\l.length<=3/\aG w w',?_,λv' w' ⟨l,g1,g2,g3,g4⟩ _=>hk v' l w' g1 g2 g3 g4⟩;refine wQ iD h1 (aF.2 (aK (λhz=>?_) λhz=>⟨l1,h1,by omega,by omega,x1⟩));refine mF aRz [bT] rfl rfl (by simp) rfl λv2 w2 ho2 x2=>?_;have x12:=x1.trans x2
 have h2:tI w2 v2 [[]]:=⟨[bT],aB.of_own ho2,λk l hk=>⟨bT,by
  match k,hk with
  | 0,_=>rfl
  | k+1,hk=>simp at hk,by
  match k,hk with
  | 0,hk=>cases hk;exact ⟨⟨none,0,rfl⟩,λh=>by simp at h⟩
  | k+1,hk=>simp at hk,by
  match k,hk with
  | 0,hk=>cases hk;simp
  | k+1,hk=>simp at hk⟩⟩
 refine IH h2 (λq hq=>?_) (hT.ext x12) λv3 l3 w3 h3 e3 _ x3=>⟨l3,h3,by rw [e3];decide,by rw [e3];decide,x12.trans x3⟩;obtain ⟨z,hz⟩:=hb q hq;exact ⟨z,x12.cell hz⟩
theorem IC {v:O} {l:List Int} (h:iZ w v l) (hok:qD l):aC prog 10 #[v,i64 64] w λr w'=>(w'.ownsRow w.heap.size 5 1 r (l.take 64).length ((l.take 64).map u8)/\iZ w' r (l.take 64)/\(l.take 64).length<=64/\qD (l.take 64))/\aG w w':=by
 refine (aNj h (k:=64) (by decide)).mono λr w' ⟨ho,x⟩=>⟨⟨ho,?_,by simp;omega,λb hb=>hok b (List.mem_of_mem_take hb)⟩,x⟩;rcases (aB.of_own ho).2 with ⟨e1,e2⟩|⟨b,off,cap,e1,_⟩
 ·exact .inl ⟨by first|exact e1|(rw [e1]),by first|exact List.eq_nil_of_length_eq_zero e2|omega⟩
 ·exact .inr ⟨_,_,e1,λ_=>aB.of_own ho⟩
theorem yP {n m:Int} (hm:0 < m) (hm2:m<=1000000) (hk:∀ k:Nat,(k:Int) < m->K (i64 (k:Int)) w):aC prog 11 #[i64 n,i64 m] w K:=
 eV hm (by omega) λk h0 h1=>by
  obtain ⟨z,rfl⟩:∃ z:Nat,k=z:=⟨k.toNat,by omega⟩;exact hk z h1
end
end Go.Proofs.YtgkkecladbmjkaaGreatDoor
namespace Go.Vc
theorem GX {P:Program} {w:Ω} {s:TypeId} {x y:Operand} {a b:ByteArray} :
  (do eqGuard .neq s x y (.string a) (.string b);binOp .neq s (.string a) (.string b)).run P w=.ok (.bool (!(a.toList == b.toList))) w:=by
 simp [eqGuard,binOp,Op.stringOp]
end Go.Vc
namespace Go.Proofs.YtgkkecladbmjkaaGreatDoor
open Tryz
open Go.Vc Go.Tc
section
variable {l:List bF} {p p':iY} {q q':FP} {f f':gV} {r:Rm} {X X':Nat->Prop} {sl sl':O} {fu st fu' st':Int} {w w':Ω}
theorem aNw (h:Wh l p q f r X sl fu st w):aC prog 45 #[kZ p.rp] w λrv w'=>rv=i64 (l.length:Int)/\w'=w:=by
 apply aCi;unfold FO;exact ⟨.inl ⟨_,rfl⟩,gC cH iK h.room.room rfl (wQ iD h.img.now ⟨rfl,rfl⟩)⟩
def OC (fd:List (List Int)) (k j:Nat):O:=if k < fd.length/\j < (fd.getD k []).length then .tuple #[i32 ((fd.getD k []).getD j 0),.bool true] else .tuple #[i32 0,.bool false]
theorem aNi (h:Wh l p q f r X sl fu st w) {k j:Nat}:aC prog 37 #[kZ p.rp,i64 (k:Int),i64 (j:Int)] w λrv w'=>rv=OC r.fd k j/\w'=w:=by
 unfold OC;by_cases hc:k < r.fd.length/\j < (r.fd.getD k []).length
 ·rw [if_pos hc];exact zL h.room.room h.fld hc.1 hc.2
 ·rw [if_neg hc];exact aAx h.room.room h.fld (by rw [Int.toNat_natCast];omega)
end
theorem YV {w:Ω} {x y:Operand} (e:tL):(do eqGuard .neq 54 x y (.agg e.cells.toArray) (.agg e.cells.toArray);binOp .neq 54 (.agg e.cells.toArray) (.agg e.cells.toArray)).run prog w=.ok (.bool false) w:=by
 have hm:prog.eqGuardType prog.depth 54=false:=by kernel_rfl
 have hp:prog.stoodInHeld 54=false:=by kernel_rfl
 have hs:prog.underlying 54=some (.struct (prog.fieldsOf 54)):=by kernel_rfl
 have key:(Op.equalIn 10000 54 (.agg e.cells.toArray) (.agg e.cells.toArray)).run prog w=.ok true w:=by
  rw [run_equalIn_struct w 9999 _ _ _ hs hp];have hd:prog.underlying 3=some (.int .i64):=underlying3;simp [Program.fieldsOf,underlying54,Op.eqFields,part,sY hd,dU fK,oC,tL.cells,run_equalIn_int _ _ _ _ _ _ _ hd]
 rw [Sem.run_bind,run_eqGuard_agg _ _ _ _ _ _ _ hm,Result.andThen_ok,run_neq_struct,key];rfl
theorem DP:∀ {l:List tL} {k:Nat} {e:tL},l[k]?=some e->((oY l).drop (k*4)).take 4=e.cells
 | [],_,_,h=>by simp at h
 | y::l,0,e,h=>by simp at h;subst h;simp [oY,tL.cells]
 | y::l,k+1,e,h=>by
  have:=DP (l:=l) (k:=k) (by simpa using h);simp only [oY,List.flatMap_cons] at this ⊢;rw [show (k+1)*4=4+k*4 by omega,<- List.drop_drop,List.drop_left' (by rfl)];exact this
section
variable {l:List bF} {w0 w w':Ω}
end
theorem OQ {w:Ω} {v:O} {l:List (bP × bF)} (h:nS w v l):nK (l.map (·.2)):=by
 obtain ⟨cs,_,h2⟩:=h;intro i hi;obtain ⟨x,hx,rfl⟩:=List.mem_map.1 hi;obtain ⟨k,hk⟩:=List.getElem?_of_mem hx;obtain ⟨_,_,hA⟩:=h2 k x hk;exact hA.2.2
theorem aRt (l:List (bP × bF)):EU (l.map (·.2)) (zs l):=by
 refine ⟨by simp [zs],λk hk=>?_⟩;obtain ⟨x,hx⟩:=bH (l:=l) (j:=k) (by simpa using hk)
 have e1:(zs l).getD k []=List.replicate x.2.fields.length 0:=by
  rw [List.getD_eq_getElem?_getD,zs,List.getElem?_map,hx];rfl
 have e2:aP (l.map (·.2)) k=x.2:=wH (by rw [List.getElem?_map,hx];rfl)
 rw [e1,e2];refine ⟨by simp,λy hy=>?_⟩;rw [(List.mem_replicate.1 hy).2];decide
section
variable {w:Ω}
theorem aSy {l:List bF} {p:iY} {r:Rm} (hT:nK l) (h:RmS l (λ_=>False) p r w) {who fuel:Nat} (hw:who < l.length) (hf:fuel<=16000) (hfd:EU l r.fd) :
  aC prog 13 #[kZ p.rp,i64 (who:Int),i64 (fuel:Int)] w λrv w'=>∃ p' fg fcap q,rv=.tuple #[pm p',i64 0]/\cW l (λ_=>False) p' fg fcap [] q (tY l who fuel r) w'/\(tY l who fuel r).ok l/\Bnd (tY l who fuel r)/\kZ p'.rp=kZ p.rp/\aG w w'/\∀ i,MB p' q fg [] i->(∃ a,XD p (λ_=>False) a i)\/w.heap.size<=i:=by
 refine (aVm hT h hw (by omega)).mono λrv w' ⟨p',fg,fcap,q,hr,hM,hrb,x,hfg,hmb⟩=>⟨p',fg,fcap,q,hr,hM,UO hT hw hfd,?_,by unfold kZ;rw [hrb],x,λi hi=>?_⟩
 ·show ([]:List tL).length+5*fuel<=80000;simp;omega
 ·rcases hi with ⟨a,ha,hi⟩|rfl|⟨a,ha,_⟩
  ·rcases hmb a i ha hi with ⟨b,_,hb⟩|hb
   ·exact .inl ⟨b,hb⟩
   ·exact .inr hb
  ·exact .inr hfg
  ·simp at ha
end
theorem YU {P:Program} {w:Ω} {s e:TypeId} (hs:P.underlying s=some (.pointer e)) {x y:Operand} {a:Addr} :
  (do eqGuard .neq s x y (.pointer (some a)) (.pointer none);binOp .neq s (.pointer (some a)) (.pointer none)).run P w=.ok (.bool true) w:=by
 simp [eqGuard,binOp,lZ,ZD hs]
theorem UJ.rms {l:List bF} {p:iY} {fd:List (List Int)} {B:Nat} {w:Ω} (H:UJ l p fd B w) (h0:0 < fd.length):∃ p',p'.rp=p.rp/\RmS l (λ_=>False) p' ⟨p.rp.ps,fd⟩ w/\∀ a i,XD p' (λ_=>False) a i->B<=i:=by
 obtain ⟨fo,fcap,hfo⟩:=nA H.fv h0;obtain ⟨cs,hiv,hrows⟩:=H.iv;have hlv:p.vs.length=fd.length:=by have:=H.fv.1;omega
 have himg:tM (λi=>p.IB i\/p.rp.iv.ownBlock=some i) w λw'=>hU w' p.rp.iv l:=λw' f=>⟨cs,aB.of_own (f.own hiv λi hi hn=>hn (.inr hi)),λk i hk=>by
  obtain ⟨pk,h1,h2⟩:=hrows k i hk;exact ⟨_,rfl,pk,h1,h2 w' (f.mono λj hj hn=>hj (.inl hn))⟩⟩
 have cls:∀ {a:Lb} {i:Nat},XD { p with fo:=fo,IB:=λi=>p.IB i\/p.rp.iv.ownBlock=some i } (λ_=>False) a i->∃ c,BR p c i/\((a≠.im/\a=c)\/(a=.im/\(c=.im\/c=.mb))):=by
  intro a i hi;cases a with
  | rm=>exact ⟨.rm,hi,.inl ⟨(by intro e;cases e),rfl⟩⟩
  | im=>
   rcases hi with h|h
   ·exact ⟨.im,h,.inr ⟨rfl,.inl rfl⟩⟩
   ·exact ⟨.mb,h,.inr ⟨rfl,.inr rfl⟩⟩
  | fo=>
   have hi:i=fo:=hi;exact ⟨.fo,(by show p.rp.fv.ownBlock=some i;rw [hfo,hi];rfl),.inl ⟨(by intro e;cases e),rfl⟩⟩
  | fd=>exact ⟨.fd,hi,.inl ⟨(by intro e;cases e),rfl⟩⟩
  | mb=>exact hi.elim
  | fr=>exact hi.elim
  | ex=>exact hi.elim
 have hfv:=H.fv;rw [hfo] at hfv;refine ⟨{ p with fo:=fo,IB:=λi=>p.IB i\/p.rp.iv.ownBlock=some i },rfl,⟨H.room,⟨rfl,rfl,rfl,rfl⟩,⟨⟨fcap,hfo⟩,QT hfv,hlv,H.row,H.dj,λv hv he=>?_⟩,himg,⟨λa b i ha hb=>?_,λa i ha=>?_⟩⟩,λa i ha=>?_⟩
 ·have:=H.sep.dj .fd .fo fo ⟨v,hv,he⟩ (by show p.rp.fv.ownBlock=some fo;rw [hfo];rfl);cases this
 ·obtain ⟨c,hc,k1⟩:=cls ha;obtain ⟨d,hd,k4⟩:=cls hb;have hcd:=H.sep.dj c d i hc hd;subst hcd;rcases k1 with ⟨k1,rfl⟩|⟨rfl,k1⟩<;>rcases k4 with ⟨k4,rfl⟩|⟨rfl,k4⟩
  ·rfl
  ·rcases k4 with rfl|rfl
   ·rfl
   ·exact ha.elim
  ·rcases k1 with rfl|rfl
   ·rfl
   ·exact hb.elim
  ·rfl
 ·obtain ⟨c,hc,_⟩:=cls ha;exact H.sep.lt c i hc
 ·obtain ⟨c,hc,_⟩:=cls ha;exact H.ge c i hc
def knC:List gP:=[⟨1,1,0⟩,⟨1,0,0⟩,⟨17,0,0⟩,⟨4,0,0⟩,⟨39,0,0⟩]
def XC:bF:=⟨{ data:=#[97] },[1],[],[⟨[],0,[1],knC⟩],[]⟩
theorem knT:vN XC:=by
 refine ⟨by unfold bF.right pV nI gU.right zV.right gP.right lim pV nI;decide,λm hm=>?_⟩;have hm:m=⟨[],0,[1],knC⟩:=List.mem_singleton.1 hm;subst hm;refine ⟨⟨[[],[1],[1,1],[1],[]],[true,true,true,true,true],[false,false,false,false,false]⟩,.inr ⟨by unfold fP;decide,?_⟩⟩
 exact .go (pc:=0) (s':=⟨[[],[1],[],[],[]],[true,true,false,false,false],[false,true,false,false,false]⟩) (by kernel_rfl) (by kernel_rfl)
  (.go (pc:=1) (s':=⟨[[],[1],[1,1],[],[]],[true,true,true,false,false],[false,false,true,false,false]⟩) (by kernel_rfl) (by kernel_rfl)
  (.go (pc:=2) (s':=⟨[[],[1],[1,1],[1],[]],[true,true,true,true,false],[false,false,false,true,false]⟩) (by kernel_rfl) (by kernel_rfl)
  (.go (pc:=3) (s':=⟨[[],[1],[1,1],[1],[]],[true,true,true,true,true],[false,false,false,false,true]⟩) (by kernel_rfl) (by kernel_rfl)
  (.go (pc:=4) (s':=⟨[[],[1],[1,1],[1],[]],[true,true,true,true,true],[false,false,false,false,false]⟩) (by kernel_rfl) (by kernel_rfl) (.done (by kernel_rfl))))))
def knS:PM:=tY [XC] 0 99 ⟨ps0 200,[[0]]⟩
def aNp:PM->Nat->Int × Nat
 | _,0=>(0,0)
 | m,k+1=>match fR [XC] m with
  | .run m'=>aNp m' k
  | .fin s _ f _=>(s,f)
theorem RO {s:Int} {f:Nat}:∀ {k:Nat} {m:PM} {e:AP},aNp m k=(s,f)->s≠0->GE [XC] m e->e.s=s/\e.fuel=f
 | 0,m,e,h,hs,_=>by cases h;exact absurd rfl hs
 | k+1,m,e,h,hs,he=>by
  unfold aNp at h;cases he with
  | fin h1=>rw [h1] at h;cases h;exact ⟨rfl,rfl⟩
  | go h1 h2=>rw [h1] at h;exact RO h hs h2
theorem knE {e:AP} (h:GE [XC] knS e):e.s=28419/\e.fuel=96:=RO (k:=5) (by kernel_rfl) (by decide) h
theorem aTc {w:Ω} {v:O} (hv:pM w v knC):aC prog 44 #[i64 99,v] w λrv w'=>∃ p rmv X q f r sl,rv=.tuple #[pm p,rmv]/\Wh [XC] p q f r X sl ((96:Nat):Int) 28419 w'/\aG w w':=by
 apply aQk;suffices key:∀ R:O->Ω->Prop,(∀ p rmv X q f r sl w',Wh [XC] p q f r X sl ((96:Nat):Int) 28419 w'->aG w w'->R (.tuple #[pm p,rmv]) w')->FR (i64 99) v w R from key _ λp rmv X q f r sl w' h1 h2=>⟨p,rmv,X,q,f,r,sl,rfl,h1,h2⟩;intro R hR;unfold FR;refine (wO (by decide) (by decide)).mono λrv w1 ⟨⟨rb,hb',hrv,hlo,hlt,hrb,hh⟩,x1⟩=>?_;subst hrv;refine cL.2 (cK.2 (aS.2 ?_));simp only [ne_eq,not_true_eq_false,dJ,aJ,reduceIte,Bool.false_eq_true,decide_false];refine V.ok (gZ underlying26) ?_;simp only [aA];have s1:=x1.size;obtain ⟨B0,_⟩:=aOc hlo hlt hrb hh s1 (by decide) (by decide);refine mF bU [i64 1] rfl rfl (by simp) rfl λfv w2 ho2 x2=>?_;refine mF bU [i64 1] rfl rfl (by simp) rfl λlv w3 ho3 x3=>?_;have o2:=eZ ho2;have o3:=eZ ho3;have x13:=(x1.trans x2).trans x3;obtain ⟨va,vc,hvs⟩:=hv.shape;have ov:cB v=true:=by rw [hvs];rfl
 refine bld RY [(2,lv),(3,v)] rfl (by simp [o3,ov]) ?_;refine EP underlying44 pJ rfl (by decide) [.agg #[bT,i64 0,lv,v]] rfl rfl (by intro x hx;rw [List.mem_singleton] at hx;subst hx;rfl) (by decide) (by decide) λmv w4 hom x4=>?_;have hom:w4.ownsRow w3.heap.size 74 4 mv 1 [bT,i64 0,lv,v]:=hom;have om:=eZ hom;refine bld aKk [(0,.string { data:=#[97] }),(1,fv),(3,mv)] rfl (by simp [o2,om,CJ]) ?_;have x14:=x13.trans x4
 have hA:iG w4 ⟨fv,bT,mv,bT⟩ XC:=by
  refine ⟨aB.of_own ((x3.trans x4).own ho2),⟨[],aB.nil _ _,λk x hk=>by simp [XC] at hk⟩,⟨_,aB.of_own hom,λk x hk=>?_⟩,aB.nil _ _⟩
  match k,hk with
  | 0,hk=>cases hk;exact ⟨_,rfl,bT,lv,v,rfl,aB.nil _ _,aB.of_own (x4.own ho3),hv.ext x14⟩
  | k+1,hk=>simp [XC] at hk
 refine (zS (B0.ext ((x2.trans x3).trans x4)) (by decide) rfl hA knT.1).mono λrv w5 ⟨p5,hrv,B5,e51,e52,F5,_⟩=>?_;have X5:aG w w5:=F5.ext x14 λi ⟨a,hi⟩=>B0.ge a i hi;obtain ⟨p6,e61,R6,g6⟩:=B5.rms (by decide);have hps:p5.rp.ps=ps0 200:=e52;rw [hps] at R6;have hrm:pt rb=kZ p6.rp:=by unfold kZ;rw [e61,e51]
 rw [hrm];have hT1:nK [XC]:=λi hi=>by rw [List.mem_singleton] at hi;subst hi;exact knT
 refine (aSy (l:=[XC]) hT1 R6 (who:=0) (fuel:=99) (by decide) (by decide) ⟨rfl,λk hk=>?_⟩).mono λrv w7 ⟨m,fg,fc,q,hr,M,ok,bd,hrmm,x7,mb⟩=>?_
 ·have hk:k=0:=by simpa using hk
  subst hk;exact ⟨rfl,λy hy=>by rw [List.mem_singleton.1 (show y∈[(0:Int)] from hy)];decide⟩
 subst hr;refine cL.2 (cK.2 (aS.2 ?_));simp only [ne_eq,not_true_eq_false,dJ,aJ,reduceIte,Bool.false_eq_true,decide_false];refine V.ok (gZ underlying33) ?_;simp only [aA];have X7:=X5.trans x7;have s5:=X5.size;refine (aVe hT1 (by decide) M.all ok bd).mono λrv w8 ⟨e,n1,_,hr,p8,T,mb8,rb8,F8⟩=>?_;subst hr
 have in8:∀ i,(¬ Els m q fg [] w7.heap.size i/\i < w7.heap.size)->w.heap.size<=i:=λi ⟨hi,hl⟩=>by
  have hM:MB m q fg [] i:=Classical.byContradiction λhn=>hi ⟨hl,hn⟩;rcases mb i hM with ⟨a,ha⟩|h
  ·exact g6 a i ha
  ·omega
 have X8:aG w w8:=(OB F8).ext X7 in8;obtain ⟨q8,f8,Z8,a8,c8,H8,_⟩:=T;obtain ⟨k1,k2⟩:=knE n1;rw [k1,k2] at H8;rw [show pm m=pm p8 by unfold pm;rw [mb8]];exact hR p8 _ Z8 q8 f8 e.r _ w8 H8 X8
theorem aMr (w:Ω):aC prog 12 #[] w λv w'=>v=.bool true/\aG w w':=by
 apply aRg;suffices key:∀ R:O->Ω->Prop,(∀ w',aG w w'->R (.bool true) w')->GC w R from key _ λw' h=>⟨rfl,h⟩;intro R hR;unfold GC;refine bld tR [(0,i64 1),(1,i64 1)] rfl rfl ?_;refine bld tR [(0,i64 1)] rfl rfl ?_;refine bld tR [(0,i64 17)] rfl rfl ?_;refine bld tR [(0,i64 4)] rfl rfl ?_;refine bld tR [(0,i64 39)] rfl rfl ?_;refine EP underlying71 nZ rfl (by decide) [.agg #[i64 1,i64 1,i64 0],.agg #[i64 1,i64 0,i64 0],.agg #[i64 17,i64 0,i64 0],.agg #[i64 4,i64 0,i64 0],.agg #[i64 39,i64 0,i64 0]] rfl rfl (by intro v hv;simp only [List.mem_cons,List.not_mem_nil,or_false] at hv;rcases hv with rfl|rfl|rfl|rfl|rfl<;>rfl) (by decide) (by decide) λcv w1 ho x1=>?_;refine (aTc (aB.of_own ho)).mono λrv w2 ⟨p,rmv,X,q,f,r,sl,hr,H,x2⟩=>?_;subst hr;refine cL.2 (cK.2 ?_);refine V.ok (YU underlying33) ?_;simp only [EL,aJ,reduceIte];refine (PU H).mono λrv w' ⟨hr,hw⟩=>?_;subst hr;have hw:=hw.symm;subst hw;refine aF.2 ?_;simp only [EL,aJ,reduceIte,decide_true];refine (aAs H).mono λrv w' ⟨hr,hw⟩=>?_;subst hr;have hw:=hw.symm;subst hw;refine aF.2 ?_;simp only [show (((96:Nat):Int)=96) from rfl,decide_true];exact hR _ (x1.trans x2)
structure FQ where
 fb:Nat
 (lv sv:O)
def pq (a:FQ):O:=.pointer (some ⟨a.fb,0,none⟩)
structure QN where
 q:QP
 r:Rm
 (mb fg fcap:Nat)
 vs:List O
 (IB X:Nat->Prop)
 frs:List FQ
 fa:List gV
 (fu st:Int)
def QN.XI (n:QN) (i:Nat):Prop:=n.X i\/n.IB i
inductive Lq
 | rm|im|fo|fd (k:Nat)|mb|fg|fb (k:Nat)|lv (k:Nat)|sv (k:Nat)|ex
def WQ (n:QN):Lq->Nat->Prop
 | .rm,i=>nG n.q i\/AR n.q i
 | .im,i=>n.IB i
 | .fo,i=>n.q.fv.ownBlock=some i
 | .fd k,i=>∃ v,n.vs[k]?=some v/\v.ownBlock=some i
 | .mb,i=>i=n.mb
 | .fg,i=>i=n.fg
 | .fb k,i=>∃ a,n.frs[k]?=some a/\i=a.fb
 | .lv k,i=>∃ a,n.frs[k]?=some a/\a.lv.ownBlock=some i
 | .sv k,i=>∃ a,n.frs[k]?=some a/\a.sv.ownBlock=some i
 | .ex,i=>n.X i
def VS (n:QN):List O:=[oZ n.q,.slice (some ⟨n.fg,0,none⟩) n.frs.length n.fcap,i64 n.st,i64 n.fu,ubT n.q]
def fbC (a:FQ) (f:gV):List O:=[i64 (f.who:Int),i64 (f.mth:Int),i64 (f.pc:Int),a.lv,a.sv]
def SH (w:Ω) (v:O) (pl:List (bP × bF)):Prop:=∃ cs,aB w v 5 pl.length cs/\∀ (k:Nat) x,pl[k]?=some x->(cs.drop (k*5)).take 5=x.1.cells x.2/\iG w x.1 x.2
abbrev fT (pl:List (bP × bF)):List bF:=pl.map (·.2)
theorem SH.are {w:Ω} {v:O} {pl:List (bP × bF)} (h:SH w v pl):hU w v (fT pl):=by
 obtain ⟨cs,h1,h2⟩:=h;refine ⟨cs,by simpa using h1,λk e he=>?_⟩;obtain ⟨x,hx,rfl⟩:=Option.map_eq_some_iff.1 (by rw [<- List.getElem?_map];exact he);exact ⟨_,(h2 k x hx).1,x.1,rfl,(h2 k x hx).2⟩
def Rd (pl:List (bP × bF)) (n:QN):Lq->Ω->Prop
 | .rm,w=>dL n.q w/\n.q.ps=n.r.ps
 | .im,w=>SH w n.q.iv pl
 | .fo,w=>w.ownsRow 0 37 1 n.q.fv n.vs.length n.vs/\n.vs.length=n.r.fd.length
 | .fd k,w=>∀ v d,n.vs[k]?=some v->n.r.fd[k]?=some d->w.ownsRow 0 21 1 v d.length (d.map i32)
 | .mb,w=>kV w n.mb 0 (VS n)
 | .fg,w=>w.ownsRow 0 135 1 (.slice (some ⟨n.fg,0,none⟩) n.frs.length n.fcap) n.frs.length (n.frs.map pq)
 | .fb k,w=>∀ a f,n.frs[k]?=some a->n.fa[k]?=some f->kV w a.fb 0 (fbC a f)
 | .lv k,w=>∀ a f,n.frs[k]?=some a->n.fa[k]?=some f->w.ownsRow 0 21 1 a.lv f.loc.length (f.loc.map i32)
 | .sv k,w=>∀ a f,n.frs[k]?=some a->n.fa[k]?=some f->w.ownsRow 0 21 1 a.sv f.st.length (f.st.map i32)
 | .ex,_=>True
structure MQ (pl:List (bP × bF)) (n:QN) (w:Ω):Prop where
 dep:∀ a,tM (WQ n a) w (Rd pl n a)
 dj:∀ a b i,WQ n a i->WQ n b i->a=b
 lt:∀ a i,WQ n a i->i < w.heap.size
def pn (n:QN):O:=.pointer (some ⟨n.mb,0,none⟩)
section
variable {pl:List (bP × bF)} {n n':QN} {w w1 w':Ω} {S:Nat->Prop}
theorem MQ.step (C:Lq->Prop) (h:MQ pl n w) (F:Fr S w w') (hS:∀ a i,¬ C a->WQ n a i->¬ S i)
  (hO:∀ a i,WQ n' a i->WQ n a i\/(w.heap.size<=i/\i < w'.heap.size/\∀ b,WQ n' b i->b=a))
  (hR:∀ a,¬ C a->(∀ i,WQ n a i->WQ n' a i)/\∀ w,Rd pl n a w->Rd pl n' a w) (hC:∀ a,C a->tM (WQ n' a) w' (Rd pl n' a)):MQ pl n' w':=by
 refine ⟨λa=>?_,λa b i ha hb=>?_,λa i ha=>?_⟩
 ·by_cases hc:C a
  ·exact hC a hc
  ·obtain ⟨h1,h2⟩:=hR a hc;exact (((h.dep a).fr F λi hi=>hS a i hc hi).imp h2).mono λi _ hi=>h1 i hi
 ·rcases hO a i ha with h1|⟨_,_,h1⟩
  ·rcases hO b i hb with h2|⟨_,_,h2⟩
   ·exact h.dj a b i h1 h2
   ·exact h2 a ha
  ·exact (h1 b hb).symm
 ·rcases hO a i ha with h1|⟨_,h1,_⟩
  ·exact Nat.lt_of_lt_of_le (h.lt a i h1) F.size
  ·exact h1
theorem MQ.fr (h:MQ pl n w) (F:Fr S w w') (hS:∀ a i,WQ n a i->¬ S i):MQ pl n w':=
 h.step (λ_=>False) F (λa i _=>hS a i) (λ_ _=>.inl) (λ_ _=>⟨λ_ h=>h,λ_ h=>h⟩) λ_ h=>h.elim
theorem MQ.ext (h:MQ pl n w) (hx:aG w w'):MQ pl n w':=h.fr (Fr.of_ext (S:=λ_=>False) hx) λ_ _ _ h=>h
theorem MQ.no (h:MQ pl n w) {a b:Lq} {i:Nat} (ha:WQ n a i) (hb:WQ n b i) (hn:a≠b):False:=hn (h.dj a b i ha hb)
theorem MQ.exL (h:MQ pl n w) {c:Lq} {i:Nat} (h1:c≠.ex) (h2:c≠.im) (hi:WQ n c i):¬ n.XI i:=λhx=>hx.elim (λhx=>h.no (b:=.ex) hi hx h1) λhx=>h.no (b:=.im) hi hx h2
theorem MQ.ref (h:MQ pl n w):dL n.q w:=(h.dep .rm).now.1
theorem MQ.ps (h:MQ pl n w):n.q.ps=n.r.ps:=(h.dep .rm).now.2
theorem MQ.box (h:MQ pl n w):kV w n.mb 0 (VS n):=(h.dep .mb).now
theorem MQ.xbox (h:MQ pl n w):kV w n.q.xb 0 [.pointer (some ⟨n.q.yb,0,none⟩),n.q.iv,n.q.fv,n.q.pub,n.q.sec]:=h.ref.xbox
theorem MQ.fbx (h:MQ pl n w) {k:Nat} {a:FQ} {f:gV} (ha:n.frs[k]?=some a) (hf:n.fa[k]?=some f):kV w a.fb 0 (fbC a f):=(h.dep (.fb k)).now a f ha hf
theorem MQ.loc (h:MQ pl n w) {k:Nat} {a:FQ} {f:gV} (ha:n.frs[k]?=some a) (hf:n.fa[k]?=some f):w.ownsRow 0 21 1 a.lv f.loc.length (f.loc.map i32):=(h.dep (.lv k)).now a f ha hf
theorem MQ.sta (h:MQ pl n w) {k:Nat} {a:FQ} {f:gV} (ha:n.frs[k]?=some a) (hf:n.fa[k]?=some f):w.ownsRow 0 21 1 a.sv f.st.length (f.st.map i32):=(h.dep (.sv k)).now a f ha hf
theorem zO {b o:Nat} {cs:List O} (h:kV w b o cs):tM (λi=>i=b) w λw'=>kV w' b o cs:=λ_ F=>F.seg h λhn=>hn rfl
theorem sP {B e sz m:Nat} {v:O} {xs:List O} (h:w.ownsRow B e sz v m xs):tM (λi=>v.ownBlock=some i) w λw'=>w'.ownsRow B e sz v m xs:=λ_ F=>F.own h λ_ hk hn=>hn hk
theorem aBc {q:QP} (h:dL q w):tM (λi=>nG q i\/AR q i) w λw'=>dL q w':=λ_ F=>h.fr F λ_ hi=>⟨λhm=>hi (.inl hm),λhm=>hi (.inr hm)⟩
theorem MQ.cell (h:MQ pl n w) {j:Nat} {u:O} (hj:j < 5) {fu st:Int} (he:(VS n).set j u=VS { n with fu:=fu,st:=st }):MQ pl { n with fu:=fu,st:=st } (w.setCell ⟨n.mb,0+j,none⟩ u)/\Fr (λi=>i=n.mb) w (w.setCell ⟨n.mb,0+j,none⟩ u):=by
 have F:Fr (λi=>i=n.mb) w (w.setCell ⟨n.mb,0+j,none⟩ u):=Fr.of_set rfl;refine ⟨h.step (·=.mb) F (λa i hc ha hi=>h.no (b:=.mb) ha hi hc) (λa i ha=>.inl (by cases a<;>exact ha)) (λa hc=>⟨λi hi=>by cases a<;>exact hi,λw hw=>by cases a<;>first|exact hw|exact absurd rfl hc⟩) λa ha=>?_,F⟩
 subst ha;have hb:=h.box.set (j:=j) (by show j < 5;exact hj) u;rw [he] at hb;exact zO hb
def QN.stk (n:QN) (k:Nat) (a:FQ) (f:gV):QN:={ n with frs:=n.frs.set k a,fa:=n.fa.set k f }
theorem oP {α:Type} {l:List α} {k:Nat} {x y:α} (h:l[k]?=some y):(l.set k x)[k]?=some x:=List.getElem?_set_self (List.getElem?_eq_some_iff.1 h).1
def fL (k:Nat) (a:Lq):Prop:=a=.fb k\/a=.lv k\/a=.sv k
theorem MQ.frame (h:MQ pl n w) {k:Nat} {a a':FQ} {f f':gV} (ha:n.frs[k]?=some a) (hf:n.fa[k]?=some f) (he:a'.fb=a.fb) (hl:a'.lv=a.lv) (hs:∀ i,a'.sv.ownBlock=some i->a.sv.ownBlock=some i\/(w.heap.size<=i/\i < w'.heap.size))
  (F:Fr (λi=>i=a.fb\/a.lv.ownBlock=some i\/a.sv.ownBlock=some i) w w') (h1:kV w' a.fb 0 (fbC a' f')) (h2:w'.ownsRow 0 21 1 a.lv f'.loc.length (f'.loc.map i32)) (h3:w'.ownsRow 0 21 1 a'.sv f'.st.length (f'.st.map i32)) :
  MQ pl (n.stk k a' f') w':=by
 have e1:∀ {x:Lq} {i:Nat},¬ fL k x->(WQ (n.stk k a' f') x i↔WQ n x i):=λ{x i} hx=>by
  have sw:∀ j,j≠k->(n.stk k a' f').frs[j]?=n.frs[j]?:=λj hj=>List.getElem?_set_ne (Ne.symm hj);cases x with
  | fb j=>have hj:j≠k:=λe=>hx (.inl (e▸rfl));simp only [WQ,sw j hj]
  | lv j=>have hj:j≠k:=λe=>hx (.inr (.inl (e▸rfl)));simp only [WQ,sw j hj]
  | sv j=>have hj:j≠k:=λe=>hx (.inr (.inr (e▸rfl)));simp only [WQ,sw j hj]
  | _=>exact Iff.rfl
 have gk:(n.stk k a' f').frs[k]?=some a':=oP ha;have gf:(n.stk k a' f').fa[k]?=some f':=oP hf;have w1:∀ i,WQ (n.stk k a' f') (.fb k) i->WQ n (.fb k) i:=λi ⟨b,hb,hi⟩=>⟨a,ha,by rw [gk] at hb;cases hb;rw [hi,he]⟩;have w2:∀ i,WQ (n.stk k a' f') (.lv k) i->WQ n (.lv k) i:=λi ⟨b,hb,hi⟩=>⟨a,ha,by rw [gk] at hb;cases hb;rw [<- hl];exact hi⟩;refine h.step (fL k) F (λx i hx hw hi=>?_) (λx i hw=>?_) (λx hx=>⟨λi hi=>(e1 hx).2 hi,λw hw=>?_⟩) λx hx=>?_
 ·rcases hi with hi|hi|hi
  ·exact h.no (b:=.fb k) hw ⟨a,ha,hi⟩ λe=>hx (.inl e)
  ·exact h.no (b:=.lv k) hw ⟨a,ha,hi⟩ λe=>hx (.inr (.inl e))
  ·exact h.no (b:=.sv k) hw ⟨a,ha,hi⟩ λe=>hx (.inr (.inr e))
 ·by_cases hx:fL k x
  ·rcases hx with rfl|rfl|rfl
   ·exact .inl (w1 i hw)
   ·exact .inl (w2 i hw)
   ·obtain ⟨b,hb,hi⟩:=hw;rw [gk] at hb;cases hb;rcases hs i hi with hi|⟨h1,h2⟩
    ·exact .inl ⟨a,ha,hi⟩
    ·refine .inr ⟨h1,h2,λy hy=>?_⟩;by_cases hy':fL k y
     ·rcases hy' with rfl|rfl|rfl
      ·have:=h.lt _ _ (w1 i hy);omega
      ·have:=h.lt _ _ (w2 i hy);omega
      ·rfl
     ·have:=h.lt _ _ ((e1 hy').1 hy);omega
  ·exact .inl ((e1 hx).1 hw)
 ·have sw:∀ j,j≠k->(n.stk k a' f').frs[j]?=n.frs[j]?/\(n.stk k a' f').fa[j]?=n.fa[j]?:=λj hj=>⟨List.getElem?_set_ne (Ne.symm hj),List.getElem?_set_ne (Ne.symm hj)⟩
  have em:(n.frs.set k a').map pq=n.frs.map pq:=by
   rw [List.map_set];have:pq a'=pq a:=by unfold pq;rw [he]
   rw [this];refine List.ext_getElem? λj=>?_;by_cases hj:k=j
   ·subst hj;rw [List.getElem?_set_self (by simpa using (List.getElem?_eq_some_iff.1 ha).1),List.getElem?_map,ha];rfl
   ·rw [List.getElem?_set_ne hj]
  cases x with
  | fb j=>have hj:j≠k:=λe=>hx (.inl (e▸rfl));simp only [Rd,sw j hj] at hw ⊢;exact hw
  | lv j=>have hj:j≠k:=λe=>hx (.inr (.inl (e▸rfl)));simp only [Rd,sw j hj] at hw ⊢;exact hw
  | sv j=>have hj:j≠k:=λe=>hx (.inr (.inr (e▸rfl)));simp only [Rd,sw j hj] at hw ⊢;exact hw
  | mb=>simp only [Rd,VS,QN.stk,List.length_set] at hw ⊢;exact hw
  | fg=>simp only [Rd,QN.stk,List.length_set,em] at hw ⊢;exact hw
  | _=>exact hw
 ·rcases hx with rfl|rfl|rfl
  ·refine ((zO h1).imp λw'' hw=>?_).mono λi _ hi=>⟨a',gk,by rw [hi,he]⟩;intro b g hb hg;rw [gk] at hb;rw [gf] at hg;cases hb;cases hg;rw [he];exact hw
  ·refine ((sP h2).imp λw'' hw=>?_).mono λi _ hi=>⟨a',gk,by rw [hl];exact hi⟩;intro b g hb hg;rw [gk] at hb;rw [gf] at hg;cases hb;cases hg;rw [hl];exact hw
  ·refine ((sP h3).imp λw'' hw=>?_).mono λi _ hi=>⟨a',gk,hi⟩;intro b g hb hg;rw [gk] at hb;rw [gf] at hg;cases hb;cases hg;exact hw
end
def vR (a:FQ) (i:Nat):Prop:=i=a.fb\/a.lv.ownBlock=some i\/a.sv.ownBlock=some i
section
variable {pl:List (bP × bF)} {n n':QN} {w w1 w':Ω} {S:Nat->Prop} {k:Nat} {a:FQ} {f:gV}
theorem MQ.apart (h:MQ pl n w) (ha:n.frs[k]?=some a):(∀ i,a.sv.ownBlock=some i->i≠a.fb)/\(∀ i,a.lv.ownBlock=some i->i≠a.fb)/\(∀ i,a.lv.ownBlock=some i->¬ a.sv.ownBlock=some i)/\a.fb < w.heap.size/\(∀ i,vR a i->i < w.heap.size):=
 ⟨λi hi e=>h.no (a:=.sv k) (b:=.fb k) ⟨a,ha,hi⟩ ⟨a,ha,e⟩ (by intro e;cases e),λi hi e=>h.no (a:=.lv k) (b:=.fb k) ⟨a,ha,hi⟩ ⟨a,ha,e⟩ (by intro e;cases e),
  λi hi e=>h.no (a:=.lv k) (b:=.sv k) ⟨a,ha,hi⟩ ⟨a,ha,e⟩ (by intro e;cases e),h.lt (.fb k) _ ⟨a,ha,rfl⟩,λi hi=>by
   rcases hi with hi|hi|hi
   ·exact h.lt (.fb k) _ ⟨a,ha,hi⟩
   ·exact h.lt (.lv k) _ ⟨a,ha,hi⟩
   ·exact h.lt (.sv k) _ ⟨a,ha,hi⟩⟩
theorem MQ.exF (h:MQ pl n w) (ha:n.frs[k]?=some a):∀ i,vR a i->¬ n.XI i:=λi hi=>by
 rcases hi with hi|hi|hi
 ·exact h.exL (c:=.fb k) (by intro e;cases e) (by intro e;cases e) ⟨a,ha,hi⟩
 ·exact h.exL (c:=.lv k) (by intro e;cases e) (by intro e;cases e) ⟨a,ha,hi⟩
 ·exact h.exL (c:=.sv k) (by intro e;cases e) (by intro e;cases e) ⟨a,ha,hi⟩
theorem MQ.setSv (h:MQ pl n w) (ha:n.frs[k]?=some a) (hf:n.fa[k]?=some f) {v:O} {st:List Int} (F:Fr (λi=>a.sv.ownBlock=some i) w w1) (ho:w1.ownsRow 0 21 1 v st.length (st.map i32)) (hl:∀ i,v.ownBlock=some i->a.sv.ownBlock=some i\/w.heap.size<=i) :
  MQ pl (n.stk k { a with sv:=v } { f with st:=st }) (w1.setCell ⟨a.fb,0+4,none⟩ v)/\Fr (vR a) w (w1.setCell ⟨a.fb,0+4,none⟩ v):=by
 obtain ⟨d1,d2,d3,d4,_⟩:=h.apart ha;have f2:Fr (λi=>i=a.fb) w1 (w1.setCell ⟨a.fb,0+4,none⟩ v):=Fr.of_set rfl;have F':Fr (vR a) w (w1.setCell ⟨a.fb,0+4,none⟩ v):=(F.or f2).mono λi hi=>hi.elim (λh=>.inr (.inr h)) .inl
 have hv:∀ i,v.ownBlock=some i->i≠a.fb:=λi hi=>by
  rcases hl i hi with h1|h1
  ·exact d1 i h1
  ·omega
 have hbx:=h.fbx ha hf;have hlo:=h.loc ha hf;have box:=(F.seg hbx λhs=>d1 _ hs rfl).set (j:=4) (by show 4 < 5;decide) v;refine ⟨h.frame (w':=w1.setCell ⟨a.fb,0+4,none⟩ v) (a':={ a with sv:=v }) (f':={ f with st:=st }) ha hf rfl rfl (λi hi=>(hl i hi).imp id λh1=>⟨h1,Nat.lt_of_lt_of_le (ho.lt i hi).2 f2.size⟩) F' box (f2.own (F.own hlo λi hi=>d3 i hi) λi hi=>d2 i hi) (f2.own ho λi hi=>hv i hi),F'⟩
theorem MQ.setPc (h:MQ pl n w) (ha:n.frs[k]?=some a) (hf:n.fa[k]?=some f) (pc:Nat):MQ pl (n.stk k a { f with pc:=pc }) (w.setCell ⟨a.fb,0+2,none⟩ (i64 (pc:Int)))/\Fr (vR a) w (w.setCell ⟨a.fb,0+2,none⟩ (i64 (pc:Int))):=by
 obtain ⟨d1,d2,_⟩:=h.apart ha;have f2:Fr (λi=>i=a.fb) w (w.setCell ⟨a.fb,0+2,none⟩ (i64 (pc:Int))):=Fr.of_set rfl;have F':Fr (vR a) w (w.setCell ⟨a.fb,0+2,none⟩ (i64 (pc:Int))):=f2.mono λi hi=>.inl hi;have hbx:=h.fbx ha hf;have hlo:=h.loc ha hf;have hst:=h.sta ha hf;exact ⟨h.frame (a':=a) (f':={ f with pc:=pc }) ha hf rfl rfl (λi hi=>.inl hi) F' (hbx.set (j:=2) (by show 2 < 5;decide) _) (f2.own hlo λi hi=>d2 i hi) (f2.own hst λi hi=>d1 i hi),F'⟩
theorem MQ.setLoc (h:MQ pl n w) (ha:n.frs[k]?=some a) (hf:n.fa[k]?=some f) {loc:List Int} (F:Fr (λi=>a.lv.ownBlock=some i) w w1) (ho:w1.ownsRow 0 21 1 a.lv loc.length (loc.map i32)):MQ pl (n.stk k a { f with loc:=loc }) w1/\Fr (vR a) w w1:=by
 obtain ⟨d1,d2,d3,_⟩:=h.apart ha;have F':Fr (vR a) w w1:=F.mono λi hi=>.inr (.inl hi);have hbx:=h.fbx ha hf;have hst:=h.sta ha hf;exact ⟨h.frame (a':=a) (f':={ f with loc:=loc }) ha hf rfl rfl (λi hi=>.inl hi) F' (F.seg hbx λhs=>d2 _ hs rfl) ho (F.own hst λi hi hs=>d3 i hs hi),F'⟩
theorem rW (h:MQ pl n w) (ha:n.frs[k]?=some a) (hf:n.fa[k]?=some f) (hl:f.st.length<=1000) {x:Int}:aC prog 63 #[pq a,i32 x] w λ_ w'=>∃ v,MQ pl (n.stk k { a with sv:=v } { f with st:=f.st++[x] }) w'/\Fr (vR a) w w':=by
 apply aPw;unfold SX;refine ⟨.inl ⟨_,rfl⟩,?_⟩;refine gC cD gX (h.fbx ha hf) rfl ?_;refine mF uQ [i32 x] rfl rfl (by simp) rfl λv1 w1 ho1 x1=>?_;have h1:=h.ext x1;refine apL uQ (h1.sta ha hf) ho1 (by decide) (by rfl) (by omega) (by unfold maxLen;omega) (Nat.zero_le _) λg' cap' w2 ho2 hg2 hlies=>?_;have f2:Fr (λi=>a.sv.ownBlock=some i) w1 w2:=Fr.of_grown hg2 λk hk=>hk;refine ⟨.inl ⟨_,rfl⟩,?_⟩;refine OD cD ?_;have hb2:=f2.seg (h1.fbx ha hf) λhs=>(h1.apart ha).1 _ hs rfl;refine kM qG hb2 (show 4 < 5 by decide) rfl ?_
 obtain ⟨h3,s3⟩:=h1.setSv ha hf (v:=.slice (some ⟨g',0,none⟩) (f.st.length+1) cap') (st:=f.st++[x]) f2 (by simpa using ho2) λi hi=>by
  have:g'=i:=by simpa [Value.ownBlock] using hi
  subst this;exact hlies.imp id λh=>by omega
 exact ⟨_,h3,(Fr.of_ext (S:=vR a) x1).trans s3 λ_ _ h=>h⟩
theorem MQ.room (h:MQ pl n w) {q':QP} {r':Rm} (hR:dL q' w') (s:oU n.q q' w w') (hp:q'.ps=r'.ps) (hfd:r'.fd=n.r.fd):MQ pl { n with q:=q',r:=r' } w':=by
 refine h.step (S:=nG n.q) (·=.rm) s.fr (λb i hb hi hm=>h.no (b:=.rm) hi (.inl hm) hb) (λb i hi=>?_) (λb hb=>⟨λi hi=>?_,λw hw=>?_⟩) λb hb=>?_
 ·cases b with
  | rm=>
   rcases s.mu i hi with h1|h1|h1
   ·exact .inl (.inl h1)
   ·exact .inl (.inr h1)
   ·refine .inr ⟨h1,hR.hi i hi,λc hc=>?_⟩;cases c with
    | rm=>rfl
    | fo=>have:=h.lt .fo i (by simp only [WQ] at hc ⊢;rw [s.fv] at hc;exact hc);omega
    | im=>have:=h.lt .im i hc;omega
    | fd j=>have:=h.lt (.fd j) i hc;omega
    | mb=>have:=h.lt .mb i hc;omega
    | fg=>have:=h.lt .fg i hc;omega
    | fb j=>have:=h.lt (.fb j) i hc;omega
    | lv j=>have:=h.lt (.lv j) i hc;omega
    | sv j=>have:=h.lt (.sv j) i hc;omega
    | ex=>have:=h.lt .ex i hc;omega
  | fo=>simp only [WQ] at hi ⊢;rw [s.fv] at hi;exact .inl hi
  | _=>exact .inl hi
 ·cases b with
  | rm=>exact absurd rfl hb
  | fo=>simp only [WQ] at hi ⊢;rw [s.fv];exact hi
  | _=>exact hi
 ·cases b with
  | rm=>exact absurd rfl hb
  | fo=>simp only [Rd,hfd,s.fv] at hw ⊢;exact hw
  | fd j=>simp only [Rd,hfd] at hw ⊢;exact hw
  | im=>simp only [Rd,s.iv] at hw ⊢;exact hw
  | mb=>simp only [Rd,VS,oZ,ubT,s.xb,s.ub] at hw ⊢;exact hw
  | _=>exact hw
 ·subst hb;exact (aBc hR).imp λw'' hw=>⟨hw,hp⟩
theorem aTs (h:MQ pl n w) (htr:n.r.ps.tr.length<=100000) {e:tL}:aC prog 61 #[ubT n.q,.agg e.cells.toArray] w λ_ w'=>∃ q',MQ pl { n with q:=q',r:=n.r.ev e } w'/\oU n.q q' w w':=by
 have htr':n.q.tr.length<=100000:=by have:=congrArg (λs=>s.tr.length) h.ps;simp only [QP.ps] at this;omega
 refine (GI h.ref htr' (e:=e)).mono λ_ w2 ⟨uv',h2,s2⟩=>⟨_,h.room h2 s2 ?_ rfl,s2⟩;show (⟨n.q.size,n.q.ar.map pa,n.q.tp,n.q.ts,n.q.tr++[e]⟩:PS)=n.r.ps.ev [e];rw [<- h.ps];rfl
theorem MQ.exR (h:MQ pl n w):∀ i,nG n.q i->¬ n.XI i:=λi hi=>h.exL (c:=.rm) (by intro e;cases e) (by intro e;cases e) (.inl hi)
theorem MQ.exM (h:MQ pl n w):∀ i,i=n.mb->¬ n.XI i:=λi hi=>h.exL (c:=.mb) (by intro e;cases e) (by intro e;cases e) hi
theorem aEv {w:Ω} {s:Int}:(Instr.build 54 #[(0,i64 5),(1,i64 s)]).run prog w=.ok (.agg #[i64 5,i64 s,i64 0,i64 0]) w:=by kernel_rfl
theorem RN (h:MQ pl n w) (htr:n.r.ps.tr.length<=100000) {s:Int}:aC prog 60 #[pn n,i64 s] w λ_ w'=>∃ q',MQ pl { n with q:=q',r:=n.r.ends s,st:=s } w'/\q'.xb=n.q.xb/\Fr (λi=>¬ n.XI i) w w':=by
 apply aPz;unfold SZ;refine ⟨.inl ⟨_,rfl⟩,?_⟩;refine OD jF ?_;refine kM fK h.box (show 2 < 5 by decide) rfl ?_;obtain ⟨h2,F2⟩:=h.cell (j:=2) (u:=i64 s) (fu:=n.fu) (st:=s) (by decide) rfl;refine ⟨.inl ⟨_,rfl⟩,?_⟩;refine gC kT tQ h2.box rfl ?_;refine V.ok aEv ?_;refine (aTs h2 htr (e:=⟨5,s,0,0⟩)).mono λ_ w3 ⟨q',h3,s3⟩=>⟨q',h3,s3.xb,?_⟩;exact (F2.mono λi hi=>h.exM i hi).trans (s3.fr.mono λi hi=>h2.exR i hi) λ_ _ h=>h
end
theorem aBi {w:Ω} {a b:Int} {p:Option Addr} {m c:Nat} :
  (Instr.build 141 #[(0,i64 a),(1,i64 b),(3,.slice p m c)]).run prog w=.ok (.agg #[i64 a,i64 b,i64 0,.slice p m c,.slice none 0 0]) w:=by kernel_rfl
theorem ZT {l:List bF} (hT:nK l) {xb:Nat} {yv iv fv pub sec pv:O} {t:List Int} {w:Ω} (hr:kV w xb 0 [yv,iv,fv,pub,sec]) (hi:hU w iv l) {to mth:Nat} (h1:to < l.length) (h2:mth < (aP l to).methods.length)
  (hp:aB w pv 1 t.length (t.map i32)) (ht:t.length=((aP l to).meth mth).params.length) :
  aC prog 59 #[.pointer (some ⟨xb,0,none⟩),i64 (to:Int),i64 (mth:Int),pv] w λrv w'=>∃ a:FQ,rv=pq a/\kV w' a.fb 0 (fbC a (jI l to mth t))/\w'.ownsRow 0 21 1 a.lv (jI l to mth t).loc.length ((jI l to mth t).loc.map i32)/\a.sv=.slice none 0 0/\(∀ i,vR a i->w.heap.size<=i)/\(∀ i,a.lv.ownBlock=some i->i≠a.fb)/\aG w w':=by
 have hTt:=hT _ (fJ h1);have hmm:=meth_mem h2;have hMr:=hTt.1.2.2.1.2.1 _ hmm
 have hmth:(aP l to).methods[mth]?=some ((aP l to).meth (mth:Int)):=by
  unfold bF.meth;rw [Int.toNat_natCast,List.getD_eq_getElem?_getD,List.getElem?_eq_getElem h2];rfl
 have enew:jI l to mth t=⟨to,mth,0,t++List.replicate ((aP l to).meth mth).locals.length 0,[]⟩:=rfl;rw [enew];generalize hM:(aP l to).meth (mth:Int)=M at *;obtain ⟨⟨_,hp4⟩,_,⟨_,hl10⟩,⟨_,hc120⟩,_⟩:=hMr;apply aQa;unfold TB;refine ⟨.inl ⟨_,rfl⟩,?_⟩;refine gC cP iK hr rfl ?_;refine oG (i:=to) iD bN gR hi (cC h1) λrow ⟨p,hpr,hA⟩=>⟨p.mv,by rw [hpr];rfl,by decide,?_⟩;refine XB (i:=mth) iJ oK hA.mt hmth tD λrow ⟨mpv,mlv,mcv,hrow,op,ol,oc⟩=>?_;subst hrow;obtain ⟨a1,c1,e1⟩:=op.shape;obtain ⟨a2,c2,e2⟩:=ol.shape;obtain ⟨a3,c3,e3⟩:=oc.shape;refine xL BK rfl (by rw [e1,e2,e3];rfl) λw1 hb1 x1=>?_;have hb1:bD w1 w.heap.size [mpv,i64 M.result,mlv,mcv] 74:=hb1;refine bA hb1.boxed fB aZ rfl ?_;refine gG aM (op.ext x1) ?_;refine bA hb1.boxed oQ aZ rfl ?_;refine gG aM (ol.ext x1) ?_;refine bW.2 ?_;rw [show IntKind.i64.wrap (((M.params.length:Nat):Int)+((M.locals.length:Nat):Int))=((M.params.length+M.locals.length:Nat):Int) from by rw [aX (by omega)];omega];refine HI (n:=M.params.length+M.locals.length) rfl underlying37 mC rfl (by omega) (by omega) λw2 hb2 x2 hs2=>?_;refine V.ok aBi ?_;have s1:=x1.size;have s2:=x2.size;have l1:=hb1.lt;have l2:=hb2.lt;refine tH λw3 hb3 x3=>?_;have hb3:bD w3 w2.heap.size [i64 (to:Int),i64 (mth:Int),i64 0,.slice (some ⟨w1.heap.size,0,none⟩) (M.params.length+M.locals.length) (M.params.length+M.locals.length),.slice none 0 0] 141:=hb3
 have s3:=x3.size;have l3:=hb3.lt;refine ⟨.inl ⟨_,rfl⟩,?_⟩;refine bA hb3.boxed eO gX rfl ?_;have hb23:=hb2.ext x3;have x03:=(x1.trans x2).trans x3;obtain ⟨pa1,pc1,hpe⟩:=hp.shape;have hp3:=hp.ext x03;rw [hpe] at hp3 ⊢;refine cpB uQ hb23 (by simp) (by simp) (λ_=>hp3) (List.all_eq_true.2 λv hv=>by obtain ⟨x,_,rfl⟩:=List.mem_map.1 hv;rfl) λv4 w4 hb4 f4=>?_
 have eL:(t.map i32).take (min t.length (M.params.length+M.locals.length))++(List.replicate (M.params.length+M.locals.length) (i32 0)).drop (min t.length (M.params.length+M.locals.length))=(t++List.replicate M.locals.length 0).map i32:=by
  have hm:min t.length (M.params.length+M.locals.length)=t.length:=by omega
  rw [hm,List.take_of_length_le (by simp),List.drop_replicate,List.map_append,List.map_replicate,show M.params.length+M.locals.length - t.length=M.locals.length by omega]
 have hb4:bD w4 w1.heap.size ((t++List.replicate M.locals.length 0).map i32) 21:=by rw [<- eL];exact hb4
 have hb34:=f4.blk hb3 (by show ¬ w2.heap.size=_;omega);have hlen:(t++List.replicate M.locals.length 0).length=M.params.length+M.locals.length:=by rw [List.length_append,List.length_replicate,ht]
 refine ⟨⟨w2.heap.size,.slice (some ⟨w1.heap.size,0,none⟩) (M.params.length+M.locals.length) (M.params.length+M.locals.length),.slice none 0 0⟩,rfl,hb34.seg,?_,rfl,λi hi=>?_,λi hi=>?_,f4.ext x03 λi hi=>by have hi:i=w1.heap.size:=hi;omega⟩
 ·show World.ownsRow _ 0 21 1 _ (t++List.replicate M.locals.length 0).length _;rw [hlen];exact eC hb4 (by simp [ht]) (Nat.zero_le _) (by unfold maxLen;omega)
 ·rcases hi with hi|hi|hi
  ·have hi:i=w2.heap.size:=hi;omega
  ·have:w1.heap.size=i:=by simpa [Value.ownBlock] using hi
   omega
  ·cases hi
 ·have:w1.heap.size=i:=by simpa [Value.ownBlock] using hi
  show i≠w2.heap.size;omega
section
variable {l:List bF} {iv:O} {w:Ω} {K:O->Ω->Prop}
theorem aTj (hi:hU w iv l) {name:ByteArray} (hl:l.length<=1000):aC prog 100 #[iv,.string name] w λr w'=>r=i64 (match mD l name with|some t=>(t:Int)|none=>-1)/\aG w w':=by
 apply aJj;suffices key:∀ R:O->Ω->Prop,(∀ w',aG w w'->R (i64 (match mD l name with|some t=>(t:Int)|none=>-1)) w')->AO iv (.string name) w R from key _ λw' hx=>⟨rfl,hx⟩;intro R hR;unfold AO;refine ⟨λv w'=>∃ j:Nat,v=i64 j/\j<=l.length/\w'=w/\∀ k,k < j->((aP l k).name.toList == name.toList)=false,λv _=>l.length - (RowKit.intOf v).toNat,⟨0,rfl,Nat.zero_le _,rfl,λk hk=>absurd hk (Nat.not_lt_zero _)⟩,?_⟩;rintro _ w2 ⟨j,rfl,hj,hw,hno⟩ _;have hw:=hw.symm;subst hw;refine wQ iD hi (aV.2 (aK (λhlt=>?_) λhge=>?_))
 ·have hj':j < l.length:=by omega
  refine oG (i:=j) iD lK NK hi (cC hj') λrow ⟨p,hp,hA⟩=>⟨.string (aP l j).name,by rw [hp];rfl,by decide,?_⟩;refine V.ok sZ ?_;cases hc:(aP l j).name.toList == name.toList with
  | true=>
   refine aE.2 ?_
   have e:mD l name=some j:=by
    unfold mD;rw [List.findIdx?_eq_some_iff_getElem];refine ⟨hj',?_,λk hk=>?_⟩
    ·have:=cC hj';rw [List.getElem?_eq_getElem hj'] at this;rw [Option.some.inj this];exact hc
    ·have:=cC (l:=l) (k:=k) (by omega);rw [List.getElem?_eq_getElem (by omega)] at this;rw [Option.some.inj this];have:=hno k hk;simpa using this
   have:=hR w (aG.refl _);rw [e] at this;exact this
  | false=>
   refine aA.2 (bW.2 ?_);rw [aX (by omega),dF];refine ⟨⟨j+1,rfl,by omega,rfl,λk hk=>?_⟩,by simp only [aT];omega⟩;by_cases hkj:k=j
   ·subst hkj;exact hc
   ·exact hno k (by omega)
 ·have e:mD l name=none:=by
   unfold mD;rw [List.findIdx?_eq_none_iff];intro x hx;obtain ⟨k,hk⟩:=List.getElem?_of_mem hx;have hkl:=(List.getElem?_eq_some_iff.1 hk).1;have:=cC hkl;rw [hk] at this;rw [Option.some.inj this];exact hno k (by omega)
  have:=hR w (aG.refl _);rw [e] at this;exact this
theorem aSi {av bv:O} {a b:List Int} (ha:aU w av a) (hb:aU w bv b) (ca:a.length<=1000000) (hk:∀ w',aG w w'->K (.bool (decide (a=b))) w'):aC prog 101 #[av,bv] w K:=by
 apply aJi;unfold LZ;refine gG aM ha (gG aM hb (aS.2 (aK (λhne=>?_) λheq=>?_)))
 ·have:¬ a=b:=λe=>hne (by rw [e]);rw [decide_eq_false this] at hk;exact hk _ (aG.refl _)
 have hl:a.length=b.length:=by omega
 refine ⟨λv w'=>∃ j:Nat,v=i64 j/\j<=a.length/\aG w w'/\a.take j=b.take j,λv _=>a.length - (RowKit.intOf v).toNat,⟨0,rfl,Nat.zero_le _,aG.refl _,rfl⟩,?_⟩;rintro _ w1 ⟨j,rfl,hj,x1,hjs⟩ _;refine gG aM (ha.ext x1) (aV.2 (aK (λhlt=>?_) λhge=>?_))
 ·obtain ⟨x,hx⟩:=bH (l:=a) (j:=j) (by omega);obtain ⟨y,hy⟩:=bH (l:=b) (j:=j) (by omega);have D1:aG w1 w1.drew:=(aG.refl _).drew;refine aH.mk' (λw'=>aG w1 w') D1 ?_;refine gF aM aL (ha.ext x1) (λ_ h=>h) (by omega) (by omega) (fQ hx) ?_;refine gF aM aL (hb.ext x1) (λ_ h=>h) (by omega) (by omega) (fQ hy) ?_;refine aD.ok (λw' _=>lR) (aK (λhne=>?_) λheq=>?_)
  ·have:¬ a=b:=λe=>hne (by subst e;rw [hx] at hy;cases hy;rfl);rw [decide_eq_false this] at hk;exact hk _ (x1.trans D1)
  ·have:x=y:=by simpa using heq
   subst this;refine mH (by omega) ?_;exact ⟨⟨j+1,rfl,by omega,x1.trans D1,by rw [List.take_add_one,List.take_add_one,hx,hy,hjs]⟩,by simp only [aT];omega⟩
 ·have hjl:j=a.length:=by omega
  subst hjl
  have:a=b:=by
   rw [List.take_length,hl,List.take_length] at hjs;exact hjs
  rw [decide_eq_true this] at hk;exact hk _ x1
theorem YO (hi:hU w iv l) (hT:nK l) (hl:l.length<=1000) {who:Nat} (hw:who < l.length) {k:Nat} (hk:k < (aP l who).imports.length) :
  aC prog 66 #[iv,i64 (who:Int),i64 (k:Int)] w λr w'=>r=(match iT l who k with|some q=>.tuple #[i64 (q.1:Int),i64 (q.2:Int),.bool true]|none=>.tuple #[i64 0,i64 0,.bool false])/\aG w w':=by
 apply aPt;suffices key:∀ R:O->Ω->Prop,(∀ r w',r=(match iT l who k with|some q=>.tuple #[i64 (q.1:Int),i64 (q.2:Int),.bool true]|none=>.tuple #[i64 0,i64 0,.bool false])->aG w w'->R r w')->FG iv (i64 (who:Int)) (i64 (k:Int)) w R from key _ λr w' h1 h2=>⟨h1,h2⟩;intro R hR;have hTw:=hT _ (fJ hw);have hxr:=hTw.1.2.1.2 _ (bF.imp_mem (i:=aP l who) (k:=(k:Int)) (by omega) (by omega));unfold FG;refine aV.2 ?_;simp only [show ¬ ((who:Int) < 0) by omega,dJ,aJ,reduceIte,Bool.false_eq_true,decide_false];refine wQ iD hi (kU.2 ?_);simp only [show ¬ ((who:Int)>=((l.length:Nat):Int)) by omega,aV,dJ,aJ,reduceIte,Bool.false_eq_true,decide_false];simp only [show ¬ ((k:Int) < 0) by omega,dJ,reduceIte,Bool.false_eq_true,decide_false];refine oG (i:=who) iD dC lA hi (cC hw) λrow ⟨p,hp,hA⟩=>⟨p.iv,by rw [hp];rfl,by decide,?_⟩;refine wQ mG hA.im (kU.2 ?_);simp only [show ¬ ((k:Int)>=(((aP l who).imports.length:Nat):Int)) by omega,aA,decide_false];refine oG (i:=who) iD dC lA hi (cC hw) λrow ⟨p,hp,hA⟩=>⟨p.iv,by rw [hp];rfl,by decide,?_⟩
 have himp:(aP l who).imports[k]?=some ((aP l who).imp (k:Int)):=by
  unfold bF.imp;rw [Int.toNat_natCast,List.getD_eq_getElem?_getD,List.getElem?_eq_getElem hk];rfl
 generalize hX:(aP l who).imp (k:Int)=X at *;refine XB (i:=k) mG EF hA.im himp EJ λrow ⟨pv,hrow,hpv⟩=>?_;subst hrow;refine xL MV rfl (rH.one (w:=w) (m:=X) ⟨pv,rfl,hpv⟩) λw1 hb x1=>?_;have hb:bD w1 w.heap.size [.string X.name,i64 X.exp,pv,i64 X.result] 180:=hb;refine bA hb.boxed eM NK rfl ?_;have hi1:=hi.ext x1;refine (aTj hi1 hl).mono λr w2 ⟨hr,x2⟩=>?_;subst hr;have x02:=x1.trans x2;have hi2:=hi1.ext x2;have hb2:=hb.ext x2;have D2:aG w2 w2.drew:=(aG.refl _).drew;have hres:iT l who k=(mD l X.name).bind λt=>if X.exp < (aP l t).exports.length/\((aP l t).meth ((aP l t).exports.getD X.exp.toNat 0)).params=X.params/\((aP l t).meth ((aP l t).exports.getD X.exp.toNat 0)).result=X.result then some (t,((aP l t).exports.getD X.exp.toNat 0).toNat) else none:=by unfold iT;rw [hX]
 refine aH.mk' (λw'=>aG w2 w') D2 ?_;refine aD.ok (λw' _=>pE) ?_;cases hf:mD l X.name with
 | none=>
  dsimp only;simp only [show ((-1:Int) < 0) by decide,zI,aJ,aE,reduceIte,decide_true];exact hR _ _ (by rw [hres,hf];rfl) (x02.trans D2)
 | some t=>
 dsimp only
 have htl:t < l.length:=by
  unfold mD at hf;exact (List.findIdx?_eq_some_iff_findIdx_eq.1 hf).1
 have hTt:=hT _ (fJ htl);simp only [show ¬ ((t:Int) < 0) by omega,kC,aJ,reduceIte,Bool.false_eq_true,decide_false];refine dT (λw' hw=>(hb2.ext hw).boxed) cN aL rfl ?_;refine aD.ok (λw' _=>pE) ?_;have hx0:=hxr.1.1;simp only [show ¬ (X.exp < 0) by omega,kC,aJ,reduceIte,Bool.false_eq_true,decide_false];refine dT (λw' hw=>(hb2.ext hw).boxed) cN aL rfl ?_;obtain ⟨cs,hcs,hrows⟩:=hi2;obtain ⟨row,hrow,q,hq,hQ⟩:=hrows t _ (cC htl);subst hq;refine XJ iD iI aZ hcs (λw' hw=>hw) htl (yK (o:=4) hrow (by decide) (u:=q.xv) rfl) ?_;obtain ⟨xa,xc,hxv⟩:=aB.shape hQ.ex
 have hlenx:∀ {S:Ω->Prop} {L:O->Prop},L (i64 ((aP l t).exports.length:Nat))->aD prog S (Builtin.len_ #[42] 3 #[q.xv]) L:=λh=>by
  rw [hxv];exact aD.ok (λw' _=>jR underlying42) h
 refine hlenx (aD.ok (λw' _=>BV) ?_);have fail:∀ w',aG w w'->(¬ (X.exp < (aP l t).exports.length/\((aP l t).meth ((aP l t).exports.getD X.exp.toNat 0)).params=X.params/\((aP l t).meth ((aP l t).exports.getD X.exp.toNat 0)).result=X.result))->R (.tuple #[i64 0,i64 0,.bool false]) w':=λw' hx hn=>hR _ _ (by rw [hres,hf];simp only [Option.bind_some];rw [if_neg hn]) hx;by_cases hge:X.exp>=(((aP l t).exports.length:Nat):Int)
 ·simp only [hge,aE,decide_true];exact fail _ (x02.trans D2) λh=>by omega
 simp only [hge,aA,decide_false];have D3:aG w2.drew w2.drew.drew:=(aG.refl _).drew;have D23:=D2.trans D3;refine aH.mk' (λw'=>aG w2 w') D23 ?_;refine XJ iD iI aZ hcs (λw' hw=>hw) htl (yK (o:=4) hrow (by decide) (u:=q.xv) rfl) ?_;refine dT (λw' hw=>(hb2.ext hw).boxed) cN aL rfl ?_;have hxl:X.exp.toNat < (aP l t).exports.length:=by omega
 generalize hm:(aP l t).exports.getD X.exp.toNat 0=m at *
 have hmm:(aP l t).exports[X.exp.toNat]?=some m:=by
  rw [<- hm,List.getD_eq_getElem?_getD,List.getElem?_eq_getElem hxl];rfl
 have hmr:=hTt.1.2.2.2.2 m (List.mem_of_getElem? hmm);refine gF aM aL hQ.ex (λw' hw=>hw) (by omega) (by omega) (fQ hmm) ?_;refine aV.2 ?_;simp only [show ¬ (m < 0) by omega,dJ,aJ,reduceIte,Bool.false_eq_true,decide_false];have hi3:hU w2.drew.drew iv l:=(hi.ext x02).ext D23;have x03:=x02.trans D23;refine oG (i:=t) iD bN gR hi3 (cC htl) λrow ⟨p3,hp3,hA3⟩=>⟨p3.mv,by rw [hp3];rfl,by decide,?_⟩;refine wQ iJ hA3.mt (kU.2 ?_);simp only [show ¬ (m>=(((aP l t).methods.length:Nat):Int)) by omega,aA,decide_false];refine oG (i:=t) iD bN gR hi3 (cC htl) λrow ⟨p4,hp4,hA4⟩=>⟨p4.mv,by rw [hp4];rfl,by decide,?_⟩;obtain ⟨mn,rfl⟩:∃ n:Nat,m=n:=⟨m.toNat,by omega⟩
 have hmth:(aP l t).methods[mn]?=some ((aP l t).meth (mn:Int)):=by
  unfold bF.meth;rw [Int.toNat_natCast,List.getD_eq_getElem?_getD,List.getElem?_eq_getElem (by omega)];rfl
 have hMr:=hTt.1.2.2.1.2.1 _ (meth_mem (i:=aP l t) (k:=mn) (by omega));generalize hM:(aP l t).meth (mn:Int)=M at *;refine XB (i:=mn) iJ oK hA4.mt hmth tD λrow ⟨mpv,mlv,mcv,hmrow,hmp,hml,hmc⟩=>?_;subst hmrow;refine xL BK rfl (jO.one (w:=w2.drew.drew) (m:=M) ⟨mpv,mlv,mcv,rfl,hmp,hml,hmc⟩) λw5 hb5 x5=>?_;have hb5:bD w5 w2.drew.drew.heap.size [mpv,i64 M.result,mlv,mcv] 74:=hb5;refine bA hb5.boxed jE aL rfl ?_;refine bA ((hb2.ext D23).ext x5).boxed cX aL rfl ?_;have x05:=x03.trans x5;refine aS.2 ?_;by_cases hr:M.result=X.result
 ·simp only [hr,ne_eq,not_true_eq_false,dJ,aJ,reduceIte,Bool.false_eq_true,decide_false];refine bA hb5.boxed fB aZ rfl ?_;refine bA ((hb2.ext D23).ext x5).boxed cM aZ rfl ?_;refine aSi (hmp.ext x5) (hpv.ext x05) (by have:=hMr.1.2;omega) λw6 x6=>?_;have x06:=x05.trans x6;refine fN.2 ?_;by_cases he:M.params=X.params
  ·simp only [he,aA,Bool.not_true,decide_true];refine hR _ _ ?_ x06;rw [hres,hf];simp only [Option.bind_some];rw [hm,hM,if_pos ⟨by omega,he,hr⟩];simp
  ·simp only [he,aE,Bool.not_false,decide_false];exact fail _ x06 λh=>he h.2.1
 ·simp only [hr,ne_eq,not_false_eq_true,kB,aJ,aE,reduceIte,decide_true];exact fail _ x05 λh=>hr h.2.2
end
def WQ0 (q:QP) (vs:List O) (IB X:Nat->Prop):Lq->Nat->Prop
 | .rm,i=>SF q i\/AR q i
 | .im,i=>IB i
 | .fo,i=>q.fv.ownBlock=some i
 | .fd k,i=>∃ v,vs[k]?=some v/\v.ownBlock=some i
 | .ex,i=>X i
 | _,_=>False
structure RQ (pl:List (bP × bF)) (q:QP) (vs:List O) (r:Rm) (IB X:Nat->Prop) (w:Ω):Prop where
 ref:qK q w
 ps:q.size=r.ps.size/\q.ar.map pa=r.ps.ar/\q.tp=r.ps.tp/\q.ts=r.ps.ts
 img:tM IB w λw'=>SH w' q.iv pl
 fo:w.ownsRow 0 37 1 q.fv vs.length vs/\vs.length=r.fd.length
 fd:∀ (k:Nat) v d,vs[k]?=some v->r.fd[k]?=some d->w.ownsRow 0 21 1 v d.length (d.map i32)
 dj:∀ a b i,WQ0 q vs IB X a i->WQ0 q vs IB X b i->a=b
 lt:∀ a i,WQ0 q vs IB X a i->i < w.heap.size
section
variable {pl:List (bP × bF)} {q:QP} {vs:List O} {r:Rm} {IB X:Nat->Prop} {w w':Ω}
theorem RQ.fr {S:Nat->Prop} (h:RQ pl q vs r IB X w) (F:Fr S w w') (hS:∀ a i,WQ0 q vs IB X a i->¬ S i):RQ pl q vs r IB X w':=
 ⟨h.ref.fr F λi hi=>⟨λhm=>hS .rm i (.inl hm) hi,λhm=>hS .rm i (.inr hm) hi⟩,h.ps,h.img.fr F λi hi=>hS .im i hi,⟨F.own h.fo.1 λi hi=>hS .fo i hi,h.fo.2⟩,λk v d hv hd=>F.own (h.fd k v d hv hd) λi hi=>hS (.fd k) i ⟨v,hv,hi⟩,h.dj,λa i hi=>Nat.lt_of_lt_of_le (h.lt a i hi) F.size⟩
theorem RQ.ext (h:RQ pl q vs r IB X w) (hx:aG w w'):RQ pl q vs r IB X w':=h.fr (Fr.of_ext (S:=λ_=>False) hx) λ_ _ _ h=>h
theorem aOa {w:Ω} {x g u:Nat} {fu:Int} :
  (Instr.build 64 #[(0,.pointer (some ⟨x,0,none⟩)),(1,.slice (some ⟨g,0,none⟩) 1 1),(3,i64 fu),(4,.pointer (some ⟨u,0,none⟩))]).run prog w=.ok (.agg #[.pointer (some ⟨x,0,none⟩),.slice (some ⟨g,0,none⟩) 1 1,i64 0,i64 fu,.pointer (some ⟨u,0,none⟩)]) w:=by kernel_rfl
theorem aNz {w:Ω}:(Instr.build 66 #[]).run prog w=.ok (.agg #[.slice none 0 0]) w:=by kernel_rfl
theorem aTo {w:Ω} {b:Nat} {K:O->Ω->Prop} (hk:∀ w',bD w' w.heap.size [.pointer (some ⟨b,0,none⟩)] 135->aG w w'->K (.slice (some ⟨w.heap.size,0,none⟩) 1 1) w'):V prog (Instr.buildSlice 61 1 #[(0,.pointer (some ⟨b,0,none⟩))]) w K:=by
 refine V.ok (v:=.slice (some ⟨w.heap.size,0,none⟩) 1 1) (w':=w.alloc (.cells (([.pointer (some ⟨b,0,none⟩)]:List O)).toArray 135)) (by kernel_rfl) ?_;exact hk _ (by unfold bD;rw [heap_alloc_new]) ((aG.refl _).alloc _)
def AsP (n:QN) (m:PM):Prop:=n.fa=(m.f::m.fs).reverse/\n.fu=m.fuel/\n.st=0/\n.r=m.r/\n.frs.length=m.fs.length+1
def AsE (n:QN) (e:AP):Prop:=n.frs.length=e.depth/\n.fu=e.fuel/\n.st=e.s/\n.r=e.r
theorem aVn (hT:nK (fT pl)) (h:RQ pl q vs r IB X w) {who fuel:Nat} (hw:who < (fT pl).length) :
  aC prog 26 #[oZ q,i64 (who:Int),i64 (fuel:Int)] w λrv w'=>∃ n,rv=pn n/\MQ pl n w'/\AsP n (tY (fT pl) who fuel r)/\n.X=X/\n.q.xb=q.xb/\(∀ a i,a≠Lq.ex->WQ n a i->WQ0 q vs IB X a i\/w.heap.size<=i)/\aG w w':=by
 have hi:=(hT _ (fJ hw)).1.2.2.1;have h0:((aP (fT pl) who).meth ((0:Nat):Int)).params=[]:=hi.2.2.1;apply aQw;unfold TR;refine (ZT hT h.ref.xbox h.img.now.are hw (by have:=hi.1.1;omega) (mth:=0) (t:=[]) (aB.nil _ _) (by rw [h0];first|rfl|done)).mono λrv w1 ⟨a,hrv,ha1,ha2,ha3,ha4,ha5,x1⟩=>?_;subst hrv;have s1:=x1.size;refine aTo λw2 hb2 x2=>?_;have s2:=x2.size;refine V.ok aNz ?_;refine tH λw3 hb3 x3=>?_;have hb3:bD w3 w2.heap.size [.slice none 0 0] 66:=hb3;have s3:=x3.size;refine V.ok aOa ?_;refine tH λw4 hb4 x4=>?_;have hb4:bD w4 w3.heap.size [oZ q,.slice (some ⟨w1.heap.size,0,none⟩) 1 1,i64 0,i64 (fuel:Int),.pointer (some ⟨w2.heap.size,0,none⟩)] 64:=hb4;have s4:=x4.size;have l1:=ha1.lt;have l2:=hb2.lt;have l3:=hb3.lt;have l4:=hb4.lt;have x24:=x3.trans x4;have x14:=x2.trans x24;have x04:=x1.trans x14;have h4:=h.ext x04;have old:∀ {a:Lq} {i:Nat},WQ0 q vs IB X a i->i < w.heap.size:=λhi=>h.lt _ _ hi
 have hR:dL { q with ub:=w2.heap.size,uv:=.slice none 0 0,tr:=[] } w4:=by
  obtain ⟨g1,g2,g3,g4,g5,g6,g7,g8,g9,gx,gd,g10,g11,g12⟩:=h4.ref;have ox:q.xb < w.heap.size:=old (a:=.rm) (.inl (.inl rfl));have oy:q.yb < w.heap.size:=old (a:=.rm) (.inl (.inr rfl));refine ⟨g1,g2,(hb3.ext x4),g3,g4,g5,g6,g7,g8,g9,World.ownsRow_nil _ _ _ _,gx,?_,?_,?_,?_,g10,g11,g12⟩
  ·show q.xb≠w2.heap.size;omega
  ·show q.yb≠w2.heap.size;omega
  ·intro i hi;cases hi
  ·rintro i (hi|hi|hi|hi) hc
   ·exact gd i (.inl hi) hc
   ·exact gd i (.inr hi) hc
   ·have hi:i=w2.heap.size:=hi;have:=old (a:=.rm) (i:=i) (.inr hc);omega
   ·cases hi
 have hfr:∀ i,vR a i->w.heap.size<=i/\i < w1.heap.size:=λi hi=>⟨ha4 i hi,by
  rcases hi with hi|hi|hi
  ·rw [hi];exact l1
  ·exact (ha2.lt i hi).2
  ·rw [ha3] at hi;cases hi⟩
 have k0:∀ {k:Nat} {b:FQ},[a][k]?=some b->k=0/\b=a:=λ{k b} hk=>by
  cases k with
  | zero=>exact ⟨rfl,(Option.some.inj hk).symm⟩
  | succ k=>cases hk
 have f0:∀ {k:Nat} {b:gV},[jI (fT pl) who 0 []][k]?=some b->b=jI (fT pl) who 0 []:=λ{k b} hk=>by
  cases k with
  | zero=>exact (Option.some.inj hk).symm
  | succ k=>cases hk
 have cls:∀ {c:Lq} {i:Nat},WQ ⟨{ q with ub:=w2.heap.size,uv:=.slice none 0 0,tr:=[] },{ r with ps:={ r.ps with tr:=[] } },w3.heap.size,w1.heap.size,1,vs,IB,X,[a],[jI (fT pl) who 0 []],(fuel:Int),0⟩ c i->(WQ0 q vs IB X c i/\i < w.heap.size)\/(c=.rm/\i=w2.heap.size)\/(c=.mb/\i=w3.heap.size)\/(c=.fg/\i=w1.heap.size)\/(c=.fb 0/\i=a.fb)\/(c=.lv 0/\a.lv.ownBlock=some i):=by
  intro c i hi;cases c with
  | rm=>
   rcases hi with (hi|hi|hi|hi)|hi
   ·have:WQ0 q vs IB X .rm i:=.inl (.inl hi);exact .inl ⟨this,old this⟩
   ·have:WQ0 q vs IB X .rm i:=.inl (.inr hi);exact .inl ⟨this,old this⟩
   ·exact .inr (.inl ⟨rfl,hi⟩)
   ·cases hi
   ·have:WQ0 q vs IB X .rm i:=.inr hi;exact .inl ⟨this,old this⟩
  | im=>exact .inl ⟨hi,old (a:=.im) hi⟩
  | fo=>exact .inl ⟨hi,old (a:=.fo) hi⟩
  | fd k=>exact .inl ⟨hi,old (a:=.fd k) hi⟩
  | ex=>exact .inl ⟨hi,old (a:=.ex) hi⟩
  | mb=>exact .inr (.inr (.inl ⟨rfl,hi⟩))
  | fg=>exact .inr (.inr (.inr (.inl ⟨rfl,hi⟩)))
  | fb k=>obtain ⟨b,hb,hi⟩:=hi;obtain ⟨rfl,rfl⟩:=k0 hb;exact .inr (.inr (.inr (.inr (.inl ⟨rfl,hi⟩))))
  | lv k=>obtain ⟨b,hb,hi⟩:=hi;obtain ⟨rfl,rfl⟩:=k0 hb;exact .inr (.inr (.inr (.inr (.inr ⟨rfl,hi⟩))))
  | sv k=>obtain ⟨b,hb,hi⟩:=hi;obtain ⟨rfl,rfl⟩:=k0 hb;rw [ha3] at hi;cases hi
 have lfb:=hfr a.fb (.inl rfl);have llv:∀ i,a.lv.ownBlock=some i->w.heap.size<=i/\i < w1.heap.size/\i≠a.fb:=λi hi=>⟨(hfr i (.inr (.inl hi))).1,(hfr i (.inr (.inl hi))).2,ha5 i hi⟩;refine ⟨⟨{ q with ub:=w2.heap.size,uv:=.slice none 0 0,tr:=[] },{ r with ps:={ r.ps with tr:=[] } },w3.heap.size,w1.heap.size,1,vs,IB,X,[a],[jI (fT pl) who 0 []],(fuel:Int),0⟩,rfl,⟨λc=>?_,λc d i hc hd=>?_,λc i hc=>?_⟩,⟨rfl,rfl,rfl,rfl,rfl⟩,rfl,rfl,λc i hn hc=>?_,x04⟩
 ·cases c with
  | rm=>
   refine (aBc hR).imp λw'' hw=>⟨hw,?_⟩;obtain ⟨e1,e2,e3,e4⟩:=h.ps;show (⟨q.size,q.ar.map pa,q.tp,q.ts,[]⟩:PS)=⟨r.ps.size,r.ps.ar,r.ps.tp,r.ps.ts,[]⟩;rw [e1,e2,e3,e4]
  | im=>exact h4.img
  | fo=>exact (sP h4.fo.1).imp λw'' hw=>⟨hw,h.fo.2⟩
  | fd k=>
   intro w'' F v d hv hd;exact F.own (h4.fd k v d hv hd) λi hi hn=>hn ⟨v,hv,hi⟩
  | mb=>exact zO hb4.seg
  | fg=>
   have hrow:w4.ownsRow 0 135 1 (.slice (some ⟨w1.heap.size,0,none⟩) 1 1) 1 [pq a]:=eC (hb2.ext x24) rfl (Nat.zero_le _) (by unfold maxLen;omega)
   exact (sP hrow).mono λi _ hi=>by
    have:w1.heap.size=i:=by simpa [Value.ownBlock] using hi
    exact this.symm
  | fb k=>
   intro w'' F b f hb hf;obtain ⟨rfl,rfl⟩:=k0 hb;rw [f0 hf];exact F.seg (ha1.ext x14) λhn=>hn ⟨b,rfl,rfl⟩
  | lv k=>
   intro w'' F b f hb hf;obtain ⟨rfl,rfl⟩:=k0 hb;rw [f0 hf];exact F.own (x14.own ha2) λi hi hn=>hn ⟨b,rfl,hi⟩
  | sv k=>
   intro w'' F b f hb hf;obtain ⟨rfl,rfl⟩:=k0 hb;rw [f0 hf,ha3];exact World.ownsRow_nil _ _ _ _
  | ex=>exact λ_ _=>trivial
 ·rcases cls hc with ⟨hc,la⟩|⟨e1,hc⟩|⟨e1,hc⟩|⟨e1,hc⟩|⟨e1,hc⟩|⟨e1,hc⟩<;>rcases cls hd with ⟨hd,lb⟩|⟨e2,hd⟩|⟨e2,hd⟩|⟨e2,hd⟩|⟨e2,hd⟩|⟨e2,hd⟩
  all_goals first|exact h.dj c d i hc hd|(rw [e1,e2];done)|(exfalso;omega)|(exfalso;have:=llv i hc;omega)|(exfalso;have:=llv i hd;omega)
 ·rcases cls hc with ⟨hc,la⟩|⟨e1,hc⟩|⟨e1,hc⟩|⟨e1,hc⟩|⟨e1,hc⟩|⟨e1,hc⟩
  all_goals first|omega|(have:=llv i hc;omega)
 ·rcases cls hc with ⟨hc,la⟩|⟨e1,hc⟩|⟨e1,hc⟩|⟨e1,hc⟩|⟨e1,hc⟩|⟨e1,hc⟩
  all_goals first|exact .inl hc|(exact .inr (by omega))|(have:=llv i hc;exact .inr (by omega))
end
section
variable {pl:List (bP × bF)} {n:QN} {w w':Ω}
theorem XU {m:PM} (ha:AsP n m):∃ a,n.frs[m.fs.length]?=some a/\n.fa[m.fs.length]?=some m.f:=by
 obtain ⟨h1,_,_,_,h2⟩:=ha;obtain ⟨a,ha⟩:=bH (l:=n.frs) (j:=m.fs.length) (by omega);refine ⟨a,ha,?_⟩;rw [h1,List.reverse_cons,List.getElem?_append_right (by simp)];simp
theorem aVa (h:MQ pl n w) {m:PM} (ha:AsP n m) (hd:m.fs.length < 8):aC prog 28 #[pn n] w λrv w'=>∃ sv,rv=.tuple #[i64 (m.f.who:Int),i64 (m.f.mth:Int),i64 (m.f.pc:Int),sv]/\w'.ownsRow 0 21 1 sv m.f.st.length (m.f.st.map i32)/\aG w w':=by
 obtain ⟨a,ha1,ha2⟩:=XU ha;have hs0:=ha.2.2.1;have hlen:=ha.2.2.2.2;apply aCl;unfold FW;refine ⟨.inl ⟨_,rfl⟩,?_⟩;refine gC jF aL h.box rfl ?_;rw [hs0];refine aS.2 ?_;simp only [ne_eq,not_true_eq_false,decide_false,dJ];refine ⟨.inl ⟨_,rfl⟩,?_⟩;refine gC eU mS h.box rfl (ES.2 (aF.2 ?_));simp only [show ¬ ((n.frs.length:Int)=0) by omega,decide_false,aJ,Bool.false_eq_true,reduceIte,aA];have D1:aG w w.drew:=(aG.refl _).drew;refine aH.mk' (λw'=>aG w w') D1 ⟨.inl ⟨_,rfl⟩,?_⟩;refine lE eU mS (λw' hw=>h.box.ext hw) rfl ⟨.inl ⟨_,rfl⟩,?_⟩;refine lE eU mS (λw' hw=>h.box.ext hw) rfl ?_;refine aD.ok (λw' _=>jR underlying61) ?_;refine aD.ok (λw' _=>mB) ?_;rw [show IntKind.i64.wrap (((n.frs.length:Nat):Int) - 1)=(m.fs.length:Int) from by rw [aX (by omega)];omega];have hrow:=(h.dep .fg).now;refine gF XM jJ (aB.of_own hrow) (λw' hw=>hw) (by omega) (by omega) (u:=pq a) (by rw [Int.toNat_natCast,List.getElem?_map,ha1];rfl) ?_;have h1:=h.ext D1;have D2:aG w.drew w.drew.drew:=(aG.refl _).drew;refine aH.mk' (λw'=>aG w.drew w') D2 ⟨.inl ⟨_,rfl⟩,?_⟩;have fb:∀ w',aG w.drew w'->kV w' a.fb 0 (fbC a m.f):=λw' hw=>(h1.fbx ha1 ha2).ext hw;refine lE cG aL fb rfl ⟨.inl ⟨_,rfl⟩,?_⟩;refine lE dX aL fb rfl ⟨.inl ⟨_,rfl⟩,?_⟩;refine lE cF aL fb rfl ⟨.inl ⟨_,rfl⟩,?_⟩
 refine lE cD gX fb rfl ?_;exact ⟨a.sv,rfl,(D1.trans D2).own (h.sta ha1 ha2),D1.trans D2⟩
theorem aSe (h:MQ pl n w) (hs:n.st≠0):aC prog 28 #[pn n] w λrv w'=>rv=.tuple #[i64 (-1),i64 (-1),i64 (-1),.slice none 0 0]/\w'=w:=by
 apply aCl;unfold FW;refine ⟨.inl ⟨_,rfl⟩,?_⟩;refine gC jF aL h.box rfl ?_;refine aS.2 ?_;simp only [show n.st≠0 from hs,ne_eq,not_false_eq_true,decide_true,kB,aJ,reduceIte,aE];exact ⟨by first|rfl|trivial,by first|rfl|trivial⟩
end
end Go.Proofs.YtgkkecladbmjkaaGreatDoor
namespace Go.Vc
theorem DG {P:Program} {w:Ω} {t e by_:Nat} {z:O} {K:O->Ω->Prop} (ht:P.underlying t=some (.slice e)) (hi:cV P e z 1 by_) (hz:(z.cells.size == 1)=true) {b n:Nat} {v:O} {cs:List O} (hb:bD w b [] e) (hv:aB w v 1 n cs) (h1:cs.all cB=true) (hn:n<=1000) (hby:by_<=1000)
  (hk:∀ v' w',w'.ownsRow 0 e 1 v' n cs->Fr (λi=>i=b) w w'->(v'.ownBlock=some b\/v'.ownBlock=some w.heap.size)->K v' w'):V P (Builtin.append_ #[t,t] t #[.slice (some ⟨b,0,none⟩) 0 0,v]) w K:=by
 have ho:w.ownsRow 0 e 1 (.slice (some ⟨b,0,none⟩) 0 0) 0 []:=eC hb rfl (Nat.zero_le _) (by decide);refine apG ht hi hz (by decide) ho hv h1 (by rw [Nat.zero_add];have:=Nat.mul_le_mul hn hby;omega) (by unfold maxLen;omega) (Nat.zero_le _) λv' w' h2 h3 h4=>?_;refine hk v' w' (by simpa using h2) (Fr.of_grown h3 λk hk=>?_) h4;simpa [Value.ownBlock] using hk.symm
end Go.Vc
namespace Go.Proofs.YtgkkecladbmjkaaGreatDoor
open Tryz
open Go.Vc Go.Tc
section
variable {pl:List (bP × bF)} {n n':QN} {w w1 w':Ω} {S:Nat->Prop} {k:Nat} {a:FQ} {f:gV}
theorem aBk {K:O->Ω->Prop} (hk:∀ w',bD w' w.heap.size [] 21->aG w w'->K (.slice (some ⟨w.heap.size,0,none⟩) 0 0) w'):V prog (Instr.buildSlice 37 0 #[]) w K:=by
 refine V.ok (v:=.slice (some ⟨w.heap.size,0,none⟩) 0 0) (w':=w.alloc (.cells (([]:List O)).toArray 21)) (by kernel_rfl) ?_;exact hk _ (by unfold bD;rw [heap_alloc_new]) ((aG.refl _).alloc _)
theorem OL {K:O->Ω->Prop} {x:Int} (hk:∀ w',bD w' w.heap.size [i32 x] 21->aG w w'->K (.slice (some ⟨w.heap.size,0,none⟩) 1 1) w'):V prog (Instr.buildSlice 37 1 #[(0,i32 x)]) w K:=by
 refine V.ok (v:=.slice (some ⟨w.heap.size,0,none⟩) 1 1) (w':=w.alloc (.cells (([i32 x]:List O)).toArray 21)) (by kernel_rfl) ?_;exact hk _ (by unfold bD;rw [heap_alloc_new]) ((aG.refl _).alloc _)
theorem MQ.addX (h:MQ pl n w) {Y:Nat->Prop} (h1:∀ i,Y i->∀ a,¬ WQ n a i) (h2:∀ i,Y i->i < w.heap.size):MQ pl { n with X:=λi=>n.X i\/Y i } w:=by
 have up:∀ {c:Lq} {i:Nat},WQ { n with X:=λi=>n.X i\/Y i } c i->WQ n c i\/(c=.ex/\Y i):=λ{c i} hc=>by
  cases c with
  | ex=>exact hc.imp id λh=>⟨rfl,h⟩
  | _=>exact .inl hc
 refine ⟨λc=>?_,λc d i hc hd=>?_,λc i hc=>?_⟩
 ·have hd:=h.dep c;cases c with
  | ex=>exact λ_ _=>trivial
  | _=>exact hd
 ·rcases up hc with hc|⟨e1,hc⟩<;>rcases up hd with hd|⟨e2,hd⟩
  ·exact h.dj c d i hc hd
  ·exact absurd hc (h1 i hd c)
  ·exact absurd hd (h1 i hc d)
  ·rw [e1,e2]
 ·rcases up hc with hc|⟨_,hc⟩
  ·exact h.lt c i hc
  ·exact h2 i hc
theorem MQ.weakX (h:MQ pl n w) {Y:Nat->Prop} (h1:∀ i,Y i->n.X i):MQ pl { n with X:=Y } w:=by
 have up:∀ {c:Lq} {i:Nat},WQ { n with X:=Y } c i->WQ n c i:=λ{c i} hc=>by
  cases c with
  | ex=>exact h1 i hc
  | _=>exact hc
 refine ⟨λc=>?_,λc d i hc hd=>h.dj c d i (up hc) (up hd),λc i hc=>h.lt c i (up hc)⟩;have hd:=h.dep c;cases c with
 | ex=>exact λ_ _=>trivial
 | _=>exact hd
theorem sN {α:Type} {l:List α} {x y:α} {j:Nat} (h:(l++[x])[j]?=some y):l[j]?=some y\/(j=l.length/\y=x):=by
 by_cases hj:j < l.length
 ·rw [List.getElem?_append_left hj] at h;exact .inl h
 ·rw [List.getElem?_append_right (by omega)] at h;have:=(List.getElem?_eq_some_iff.1 h).1;have e:j - l.length=0:=by simp at this;omega
  rw [e] at h;exact .inr ⟨by omega,(Option.some.inj h).symm⟩
theorem GO {α:Type} {l:List α} {x:α}:(l++[x])[l.length]?=some x:=by simp
theorem wI {α:Type} {l:List α} {x y:α} {j:Nat} (h:l[j]?=some y):(l++[x])[j]?=some y:=by
 rw [List.getElem?_append_left (List.getElem?_eq_some_iff.1 h).1];exact h
theorem MQ.addFr (h:MQ pl n w) (hl:n.fa.length=n.frs.length) {g cap:Nat} {w3:Ω} (F:Fr (λi=>i=n.fg) w w3) (hb:kV w3 a.fb 0 (fbC a f)) (hlo:w3.ownsRow 0 21 1 a.lv f.loc.length (f.loc.map i32)) (hsv:a.sv=.slice none 0 0) (hst:f.st=[])
  (hn:∀ i,vR a i->w.heap.size<=i) (hd:∀ i,a.lv.ownBlock=some i->i≠a.fb) (ho:w3.ownsRow 0 135 1 (.slice (some ⟨g,0,none⟩) (n.frs.length+1) cap) (n.frs.length+1) (n.frs.map pq++[pq a])) (hg:g=n.fg\/(w.heap.size<=g/\¬ vR a g)) :
  MQ pl { n with fg:=g,fcap:=cap,frs:=n.frs++[a],fa:=n.fa++[f] } (w3.setCell ⟨n.mb,0+1,none⟩ (.slice (some ⟨g,0,none⟩) (n.frs.length+1) cap))/\Fr (λi=>i=n.fg\/i=n.mb) w (w3.setCell ⟨n.mb,0+1,none⟩ (.slice (some ⟨g,0,none⟩) (n.frs.length+1) cap)):=by
 have f2:Fr (λi=>i=n.mb) w3 (w3.setCell ⟨n.mb,0+1,none⟩ (.slice (some ⟨g,0,none⟩) (n.frs.length+1) cap)):=Fr.of_set rfl;have FF:=F.or f2;have hmb:=h.lt .mb n.mb rfl;have hfg:=h.lt .fg n.fg rfl;have hne:n.mb≠n.fg:=λe=>h.no (a:=.mb) (b:=.fg) rfl e (by intro e;cases e);have box:=(F.seg h.box hne).set (j:=1) (by show 1 < 5;decide) (.slice (some ⟨g,0,none⟩) (n.frs.length+1) cap);have hgl:=(ho.lt g rfl).2
 have hfl:∀ i,vR a i->i < w3.heap.size:=λi hi=>by
  rcases hi with hi|hi|hi
  ·rw [hi];exact hb.lt
  ·exact (hlo.lt i hi).2
  ·rw [hsv] at hi;cases hi
 have s3:=F.size
 have cls:∀ {c:Lq} {i:Nat},WQ { n with fg:=g,fcap:=cap,frs:=n.frs++[a],fa:=n.fa++[f] } c i->(c≠.fg/\WQ n c i)\/(c=.fg/\i=g)\/(c=.fb n.frs.length/\i=a.fb)\/(c=.lv n.frs.length/\a.lv.ownBlock=some i):=by
  intro c i hi;cases c with
  | fg=>exact .inr (.inl ⟨rfl,hi⟩)
  | fb j=>
   obtain ⟨b,hb,hi⟩:=hi;rcases sN hb with hb|⟨rfl,rfl⟩
   ·exact .inl ⟨(by intro e;cases e),b,hb,hi⟩
   ·exact .inr (.inr (.inl ⟨rfl,hi⟩))
  | lv j=>
   obtain ⟨b,hb,hi⟩:=hi;rcases sN hb with hb|⟨rfl,rfl⟩
   ·exact .inl ⟨(by intro e;cases e),b,hb,hi⟩
   ·exact .inr (.inr (.inr ⟨rfl,hi⟩))
  | sv j=>
   obtain ⟨b,hb,hi⟩:=hi;rcases sN hb with hb|⟨rfl,rfl⟩
   ·exact .inl ⟨(by intro e;cases e),b,hb,hi⟩
   ·rw [hsv] at hi;cases hi
  | _=>exact .inl ⟨(by intro e;cases e),hi⟩
 have one:∀ {c d:Lq} {i:Nat},w.heap.size<=i->WQ { n with fg:=g,fcap:=cap,frs:=n.frs++[a],fa:=n.fa++[f] } c i->WQ { n with fg:=g,fcap:=cap,frs:=n.frs++[a],fa:=n.fa++[f] } d i->d=c:=by
  intro c d i hi hc hd'
  have nf:i=g->¬ vR a i:=λe hm=>by
   subst e;rcases hg with e|e
   ·omega
   ·exact e.2 hm
  rcases cls hc with ⟨_,hc⟩|⟨e1,hc⟩|⟨e1,hc⟩|⟨e1,hc⟩
  ·have:=h.lt _ _ hc;omega
  all_goals rcases cls hd' with ⟨_,hd'⟩|⟨e2,hd'⟩|⟨e2,hd'⟩|⟨e2,hd'⟩
  ·have:=h.lt _ _ hd';omega
  ·rw [e1,e2]
  ·exact (nf hc (Or.inl hd')).elim
  ·exact (nf hc (Or.inr (Or.inl hd'))).elim
  ·have:=h.lt _ _ hd';omega
  ·exact (nf hd' (Or.inl hc)).elim
  ·rw [e1,e2]
  ·exact absurd hc (hd i hd')
  ·have:=h.lt _ _ hd';omega
  ·exact (nf hd' (Or.inr (Or.inl hc))).elim
  ·exact absurd hd' (hd i hc)
  ·rw [e1,e2]
 refine ⟨h.step (λc=>c=.mb\/c=.fg\/c=.fb n.frs.length\/c=.lv n.frs.length\/c=.sv n.frs.length) FF (λc i hc hi hm=>?_) (λc i hc=>?_) (λc hc=>⟨λi hi=>?_,λw hw=>?_⟩) λc hc=>?_,FF⟩
 ·rcases hm with hm|hm
  ·exact hc (.inr (.inl (h.dj _ _ i hi hm)))
  ·exact hc (.inl (h.dj _ _ i hi hm))
 ·rcases cls hc with ⟨_,hc⟩|⟨e1,hc'⟩|⟨e1,hc'⟩|⟨e1,hc'⟩
  ·exact .inl hc
  ·rcases hg with e|⟨e,_⟩
   ·rw [e1];exact .inl (hc'.trans e)
   ·exact .inr ⟨by omega,Nat.lt_of_lt_of_le (by omega) f2.size,λb hb=>one (by omega) hc hb⟩
  ·have h1:=hn i (.inl hc');have h2:=hfl i (.inl hc');exact .inr ⟨h1,Nat.lt_of_lt_of_le h2 f2.size,λb hb=>one h1 hc hb⟩
  ·have h1:=hn i (.inr (.inl hc'));have h2:=hfl i (.inr (.inl hc'));exact .inr ⟨h1,Nat.lt_of_lt_of_le h2 f2.size,λb hb=>one h1 hc hb⟩
 ·cases c with
  | fg=>exact absurd (.inr (.inl rfl)) hc
  | fb j=>obtain ⟨b,hb,hi⟩:=hi;exact ⟨b,wI hb,hi⟩
  | lv j=>obtain ⟨b,hb,hi⟩:=hi;exact ⟨b,wI hb,hi⟩
  | sv j=>obtain ⟨b,hb,hi⟩:=hi;exact ⟨b,wI hb,hi⟩
  | _=>exact hi
 ·have at_:∀ {j:Nat} {b:FQ} {g:gV},j≠n.frs.length->(n.frs++[a])[j]?=some b->(n.fa++[f])[j]?=some g->n.frs[j]?=some b/\n.fa[j]?=some g:=λ{j b g} hj h1 h2=>by
   rcases sN h1 with h1|⟨e,_⟩
   ·rcases sN h2 with h2|⟨e,_⟩
    ·exact ⟨h1,h2⟩
    ·omega
   ·exact absurd e hj
  cases c with
  | mb=>exact absurd (.inl rfl) hc
  | fg=>exact absurd (.inr (.inl rfl)) hc
  | fb j=>intro b g h1 h2;obtain ⟨h1,h2⟩:=at_ (λe=>hc (.inr (.inr (.inl (e▸rfl))))) h1 h2;exact hw b g h1 h2
  | lv j=>intro b g h1 h2;obtain ⟨h1,h2⟩:=at_ (λe=>hc (.inr (.inr (.inr (.inl (e▸rfl)))))) h1 h2;exact hw b g h1 h2
  | sv j=>intro b g h1 h2;obtain ⟨h1,h2⟩:=at_ (λe=>hc (.inr (.inr (.inr (.inr (e▸rfl)))))) h1 h2;exact hw b g h1 h2
  | _=>exact hw
 ·have gk:(n.frs++[a])[n.frs.length]?=some a:=GO;have gf:(n.fa++[f])[n.frs.length]?=some f:=by rw [<- hl];exact GO
  have bf:a.fb≠n.mb:=λe=>by have:=hn a.fb (.inl rfl);omega
  have bl:∀ i,a.lv.ownBlock=some i->i≠n.mb:=λi hi e=>by have:=hn i (.inr (.inl hi));omega
  rcases hc with rfl|rfl|rfl|rfl|rfl
  ·have e:(VS n).set 1 (.slice (some ⟨g,0,none⟩) (n.frs.length+1) cap)=VS { n with fg:=g,fcap:=cap,frs:=n.frs++[a],fa:=n.fa++[f] }:=by
    simp [VS]
   rw [e] at box;exact zO box
  ·have gm:g≠n.mb:=λe=>by
    rcases hg with h1|h1
    ·exact hne (e.symm.trans h1)
    ·omega
   have ho':(w3.setCell ⟨n.mb,0+1,none⟩ (.slice (some ⟨g,0,none⟩) (n.frs.length+1) cap)).ownsRow 0 135 1 (.slice (some ⟨g,0,none⟩) (n.frs++[a]).length cap) (n.frs++[a]).length ((n.frs++[a]).map pq):=by
    rw [List.length_append,List.map_append]
    exact f2.own ho fun i hi => by have : g = i := by simpa [Value.ownBlock] using hi
                                   exact this▸gm
   exact (sP ho').mono λi _ hi=>by
    have:g=i:=by simpa [Value.ownBlock] using hi
    exact this.symm
  ·intro w'' F'' b q hb' hq;have hb':(n.frs++[a])[n.frs.length]?=some b:=hb';have hq:(n.fa++[f])[n.frs.length]?=some q:=hq;rw [gk] at hb';rw [gf] at hq;cases hb';cases hq;exact F''.seg (f2.seg hb bf) λhn=>hn ⟨a,gk,rfl⟩
  ·intro w'' F'' b q hb' hq;have hb':(n.frs++[a])[n.frs.length]?=some b:=hb';have hq:(n.fa++[f])[n.frs.length]?=some q:=hq;rw [gk] at hb';rw [gf] at hq;cases hb';cases hq;exact F''.own (f2.own hlo λi hi=>bl i hi) λi hi hn=>hn ⟨a,gk,hi⟩
  ·intro w'' F'' b q hb' hq;have hb':(n.frs++[a])[n.frs.length]?=some b:=hb';have hq:(n.fa++[f])[n.frs.length]?=some q:=hq;rw [gk] at hb';rw [gf] at hq;cases hb';cases hq;rw [hsv,hst];exact World.ownsRow_nil _ _ _ _
theorem lS {α:Type} {l:List α} {j k:Nat} {y:α} (h:(l.take k)[j]?=some y):j < k/\l[j]?=some y:=by
 rw [List.getElem?_take] at h;split at h
 ·exact ⟨‹_›,h⟩
 ·cases h
theorem MQ.popFr (h:MQ pl n w) (hk:n.frs.length=k+1):MQ pl { n with frs:=n.frs.take k,fa:=n.fa.take k } (w.setCell ⟨n.mb,0+1,none⟩ (.slice (some ⟨n.fg,0,none⟩) k n.fcap))/\Fr (λi=>i=n.mb) w (w.setCell ⟨n.mb,0+1,none⟩ (.slice (some ⟨n.fg,0,none⟩) k n.fcap)):=by
 have f2:Fr (λi=>i=n.mb) w (w.setCell ⟨n.mb,0+1,none⟩ (.slice (some ⟨n.fg,0,none⟩) k n.fcap)):=Fr.of_set rfl;have box:=h.box.set (j:=1) (by show 1 < 5;decide) (.slice (some ⟨n.fg,0,none⟩) k n.fcap);have lk:(n.frs.take k).length=k:=by simp;omega
 have sub:∀ {c:Lq} {i:Nat},WQ { n with frs:=n.frs.take k,fa:=n.fa.take k } c i->WQ n c i:=λ{c i} hc=>by
  cases c with
  | fb j=>obtain ⟨b,hb,hi⟩:=hc;exact ⟨b,(lS hb).2,hi⟩
  | lv j=>obtain ⟨b,hb,hi⟩:=hc;exact ⟨b,(lS hb).2,hi⟩
  | sv j=>obtain ⟨b,hb,hi⟩:=hc;exact ⟨b,(lS hb).2,hi⟩
  | _=>exact hc
 have tk:∀ {j:Nat} {b:FQ},j < k->n.frs[j]?=some b->(n.frs.take k)[j]?=some b:=λ{j b} hj hb=>by rw [List.getElem?_take,if_pos hj];exact hb
 refine ⟨h.step (λc=>c=.mb\/c=.fg\/∃ j,k<=j/\fL j c) f2 (λc i hc hi hm=>hc (.inl (h.dj _ _ i hi hm))) (λc i hc=>.inl (sub hc)) (λc hc=>⟨λi hi=>?_,λw hw=>?_⟩) λc hc=>?_,f2⟩
 ·cases c with
  | fb j=>obtain ⟨b,hb,hi⟩:=hi;exact ⟨b,tk (Nat.lt_of_not_le λhj=>hc (.inr (.inr ⟨j,hj,.inl rfl⟩))) hb,hi⟩
  | lv j=>obtain ⟨b,hb,hi⟩:=hi;exact ⟨b,tk (Nat.lt_of_not_le λhj=>hc (.inr (.inr ⟨j,hj,.inr (.inl rfl)⟩))) hb,hi⟩
  | sv j=>obtain ⟨b,hb,hi⟩:=hi;exact ⟨b,tk (Nat.lt_of_not_le λhj=>hc (.inr (.inr ⟨j,hj,.inr (.inr rfl)⟩))) hb,hi⟩
  | _=>exact hi
 ·cases c with
  | mb=>exact absurd (.inl rfl) hc
  | fg=>exact absurd (.inr (.inl rfl)) hc
  | fb j=>exact λb g h1 h2=>hw b g (lS h1).2 (lS h2).2
  | lv j=>exact λb g h1 h2=>hw b g (lS h1).2 (lS h2).2
  | sv j=>exact λb g h1 h2=>hw b g (lS h1).2 (lS h2).2
  | _=>exact hw
 ·have no:∀ {j:Nat} {b:FQ},k<=j->¬ (n.frs.take k)[j]?=some b:=λ{j b} hj hb=>by have:=(lS hb).1;omega
  rcases hc with rfl|rfl|⟨j,hj,rfl|rfl|rfl⟩
  ·have e:(VS n).set 1 (.slice (some ⟨n.fg,0,none⟩) k n.fcap)=VS { n with frs:=n.frs.take k,fa:=n.fa.take k }:=by
    simp only [VS,lk];rfl
   rw [e] at box;exact zO box
  ·have hro:w.ownsRow 0 135 1 (.slice (some ⟨n.fg,0,none⟩) n.frs.length n.fcap) n.frs.length (n.frs.map pq):=(h.dep .fg).now;have h1:=yR hro (a:=k) (by omega);rw [Nat.mul_one,<- List.map_take] at h1
   have h2:=f2.own h1 λi hi e=>by
    have:n.fg=i:=by simpa [Value.ownBlock] using hi
    exact h.no (a:=.mb) (b:=.fg) e this.symm (by intro e;cases e)
   have h3:(w.setCell ⟨n.mb,0+1,none⟩ (.slice (some ⟨n.fg,0,none⟩) k n.fcap)).ownsRow 0 135 1 (.slice (some ⟨n.fg,0,none⟩) (n.frs.take k).length n.fcap) (n.frs.take k).length ((n.frs.take k).map pq):=by rw [lk];exact h2
   exact (sP h3).mono λi _ hi=>by
    have:n.fg=i:=by simpa [Value.ownBlock] using hi
    exact this.symm
  iterate 3
   ·exact λ_ _ b g h1 _=>absurd h1 (no hj)
theorem MQ.setFd (h:MQ pl n w) {who:Nat} {v':O} {row:List Int} (hw:who < n.vs.length) (F:Fr (λi=>n.q.fv.ownBlock=some i) w w') (ho:w'.ownsRow 0 37 1 n.q.fv n.vs.length (n.vs.set who v')) (hr:w'.ownsRow 0 21 1 v' row.length (row.map i32)) (hv:∀ i,v'.ownBlock=some i->w.heap.size<=i) :
  MQ pl { n with vs:=n.vs.set who v',r:={ n.r with fd:=n.r.fd.set who row } } w':=by
 have hvl:(n.vs.set who v')[who]?=some v':=List.getElem?_set_self hw;have hfl:=(h.dep .fo).now.2
 have up:∀ {c:Lq} {i:Nat},c≠.fd who->(WQ { n with vs:=n.vs.set who v',r:={ n.r with fd:=n.r.fd.set who row } } c i↔WQ n c i):=λ{c i} hc=>by
  cases c with
  | fd j=>have hj:who≠j:=λe=>hc (e▸rfl);simp only [WQ,List.getElem?_set_ne hj]
  | _=>exact Iff.rfl
 refine h.step (λc=>c=.fo\/c=.fd who) F (λc i hc hi hm=>hc (.inl (h.dj _ _ i hi hm))) (λc i hc=>?_) (λc hc=>⟨λi hi=>(up λe=>hc (.inr e)).2 hi,λw hw=>?_⟩) λc hc=>?_
 ·by_cases hf:c=.fd who
  ·subst hf;obtain ⟨v,hv1,hi⟩:=hc;have hv1:(n.vs.set who v')[who]?=some v:=hv1;rw [hvl] at hv1;cases hv1;have h1:=hv i hi;refine .inr ⟨h1,(hr.lt i hi).2,λb hb=>?_⟩;by_cases hb':b=.fd who
   ·exact hb'
   ·have:=h.lt _ _ ((up hb').1 hb);omega
  ·exact .inl ((up hf).1 hc)
 ·cases c with
  | fo=>exact absurd (.inl rfl) hc
  | fd j=>
   have hj:who≠j:=λe=>hc (.inr (e▸rfl));simp only [Rd,List.getElem?_set_ne hj] at hw ⊢;exact hw
  | _=>exact hw
 ·rcases hc with rfl|rfl
  ·refine (sP ho).imp λw'' hw=>⟨?_,by simpa using hfl⟩;simp only [List.length_set];exact hw
  ·refine (sP hr).imp (λw'' hw=>?_) |>.mono λi _ hi=>⟨v',hvl,hi⟩;intro v d h1 h2;have h1:(n.vs.set who v')[who]?=some v:=h1;have h2:(n.r.fd.set who row)[who]?=some d:=h2;rw [hvl] at h1;rw [List.getElem?_set_self (by omega)] at h2;cases h1;cases h2;exact hw
theorem stR (h:MQ pl n' w') (hp:n'.mb=n.mb) {R:O->Ω->Prop} (hR:R (i64 n'.st) w') :
  Go.Vc.aI (pn n)/\V prog (Instr.fieldAt 64 (pn n) 2) w' λa w1=>V prog (Instr.loadAt 3 a) w1 λb w2=>R b w2:=by
 have e:pn n=.pointer (some ⟨n'.mb,0,none⟩):=by unfold pn;rw [hp]
 rw [e];exact ⟨.inl ⟨_,rfl⟩,gC jF aL h.box rfl hR⟩
theorem aKz {p:bP} {i:bF} {m:Nat} {x:gP} (hA:iG w p i) (hm:m < i.methods.length) (hx:BA i (i.meth m) x):aC prog 62 #[p.val i,i64 (m:Int),.agg #[i64 x.op,i64 x.a,i64 x.b]] w λrv w'=>rv=i64 ((bC i (i.meth m) x).length:Int)/\aG w w':=by
 have hmth:i.methods[m]?=some (i.meth (m:Int)):=by
  unfold bF.meth;rw [Int.toNat_natCast,List.getD_eq_getElem?_getD,List.getElem?_eq_getElem hm];rfl
 apply aPx;suffices key:∀ R:O->Ω->Prop,(∀ w',aG w w'->R (i64 ((bC i (i.meth m) x).length:Int)) w')->FI (p.val i) (i64 (m:Int)) (.agg #[i64 x.op,i64 x.a,i64 x.b]) w R from key _ λw' hx=>⟨rfl,hx⟩;intro R hR;unfold FI;refine tH λw1 hb1 x1=>tH λw2 hb2 x2=>?_;have hb1:bD w1 w.heap.size (p.cells i) 46:=hb1;have hb2:bD w2 w1.heap.size [i64 x.op,i64 x.a,i64 x.b] 70:=hb2;have hb1:=hb1.ext x2;have x02:=x1.trans x2;have D:aG w2 w2.drew:=(aG.refl _).drew;have hA2:=hA.ext x02;obtain ⟨cs,hcs,hrows⟩:=hA2.mt;obtain ⟨row,hrow,pv,lv,cv,hr,h1,h2,h3⟩:=hrows m _ hmth;refine aH.mk' (λw'=>aG w2 w') D ?_;refine yA (λw' hw=>(hb1.ext hw).boxed) kQ rfl ?_;refine dT (λw' hw=>(hb1.ext hw).boxed) bN gR rfl ?_;refine yxA iJ oK (l:=row) hcs (λw' hw=>hcs.ext hw) (by omega) (by omega) (by rw [Int.toNat_natCast];exact hrow) (by rw [hr];rfl) ?_;refine yA (λw' hw=>(hb2.ext hw).boxed) pR rfl ?_;have X:=x02.trans D;have hm':jO w2.drew row (i.meth m):=jO.ext ⟨pv,lv,cv,hr,h1,h2,h3⟩ D;refine PH (hA.ext X) hm' hx λw3 x3=>⟨D.trans x3,hR _ (X.trans x3)⟩
theorem aNe {p:bP} {i:bF} {m:gU} {x:gP} (hA:iG w p i) (hx:BA i m x):aC prog 70 #[p.val i,.agg #[i64 x.op,i64 x.a,i64 x.b]] w λrv w'=>rv=i64 (hgt i m x:Int)/\aG w w':=by
 apply aPs;suffices key:∀ R:O->Ω->Prop,(∀ w',aG w w'->R (i64 (hgt i m x:Int)) w')->FD (p.val i) (.agg #[i64 x.op,i64 x.a,i64 x.b]) w R from key _ λw' hx=>⟨rfl,hx⟩;intro R hR;unfold FD;refine tH λw1 hb1 x1=>tH λw2 hb2 x2=>?_;have hb1:bD w1 w.heap.size (p.cells i) 46:=hb1;have hb2:bD w2 w1.heap.size [i64 x.op,i64 x.a,i64 x.b] 70:=hb2;refine qO (hb1.ext x2).boxed kQ rfl (qO hb2.boxed pR rfl ?_);exact RS ((hA.ext x1).ext x2) hx λw3 x3=>hR _ ((x1.trans x2).trans x3)
end
def QGo (pl:List (bP × bF)) (n:QN) (o:Out) (rv:O) (w w':Ω):Prop:=∃ n',MQ pl n' w'/\n'.X=n.X/\n'.IB=n.IB/\n'.mb=n.mb/\n'.q.xb=n.q.xb/\Fr (λi=>¬ n.XI i) w w'/\match o with
 | .run m'=>rv=i64 0/\AsP n' m'
 | .fin s d fu r=>rv=i64 s/\AsE n' ⟨s,d,fu,r⟩
theorem VZ {w:Ω} {p:bP} {i:bF} (h:iG w p i):(p.cells i).all cB=true:=by
 obtain ⟨a1,c1,e1⟩:=h.fl.shape;obtain ⟨_,hx2,_⟩:=h.im;obtain ⟨a2,c2,e2⟩:=hx2.shape;obtain ⟨_,hx3,_⟩:=h.mt;obtain ⟨a3,c3,e3⟩:=hx3.shape;obtain ⟨a4,c4,e4⟩:=h.ex.shape;unfold bP.cells;rw [e1,e2,e3,e4];rfl
theorem aBj {w:Ω} {a b c:Int}:(Instr.build 54 #[(0,i64 1),(1,i64 a),(2,i64 b),(3,i64 c)]).run prog w=.ok (.agg #[i64 1,i64 a,i64 b,i64 c]) w:=by kernel_rfl
theorem qS {f f':gV} {fs:List gV}:((f::fs).reverse).set fs.length f'=(f'::fs).reverse:=by
 rw [List.reverse_cons,List.reverse_cons,List.set_append_right _ _ (by simp)];simp
section
variable {pl:List (bP × bF)} {n n':QN} {w w1 w':Ω} {m:PM}
structure HdR (pl:List (bP × bF)) (n:QN) (m:PM) (n6:QN) (a:FQ) (p:bP) (im:bF) (b4 b5:Nat) (v1:O) (w w6:Ω):Prop where
 H:MQ pl n6 w6
 X:∀ i,n6.X i↔n.X i\/i=b4\/i=b5\/v1.ownBlock=some i
 ib:n6.IB=n.IB
 mb:n6.mb=n.mb
 xb:n6.q.xb=n.q.xb
 F:Fr (λi=>¬ n.XI i) w w6
 fr:n6.frs[m.fs.length]?=some a
 len:n6.frs.length=m.fs.length+1
 fa:n6.fa=({ m.f with st:=jC (bB (fT pl) m.f) m.f.st,pc:=m.f.pc+1 }::m.fs).reverse
 fu:n6.fu=((m.fuel - 1:Nat):Int)
 st:n6.st=0
 r:n6.r=m.r.ev (iO (fT pl) m.f)
 hb4:bD w6 b4 (p.cells im) 46
 hb5:bD w6 b5 [i64 (m.f.ins (fT pl)).op,i64 (m.f.ins (fT pl)).a,i64 (m.f.ins (fT pl)).b] 70
 row:w6.ownsRow 0 21 1 v1 (bB (fT pl) m.f) ((hY (bB (fT pl) m.f) m.f.st).map i32)
 pl:pl[m.f.who]?=some (p,im)
theorem aTh (hT:nK (fT pl)) (h:MQ pl n w) (ha:AsP n m) (hok:m.ok (fT pl)) (htr:m.r.ps.tr.length<=90000) (hfu:m.fuel<=1000000) {R:O->Ω->Prop}
  (hE:∀ rv w',m.fuel=0->QGo pl n (.fin 28423 (m.fs.length+1) 0 (m.r.ends 28423)) rv w w'->R rv w')
  (hK:∀ n6 a p im b4 b5 v1 w6,m.fuel≠0->HdR pl n m n6 a p im b4 b5 v1 w w6->tJ (pn n) (.pointer (some ⟨b4,0,none⟩)) (.pointer (some ⟨b5,0,none⟩)) (pq a) (i64 (bB (fT pl) m.f:Int)) v1 (i64 (m.f.pc:Int)) w6 R):FY (pn n) w R:=by
 have hA:=hok.top.at_ hT;have hrt:=hok.top.rt hT;have hpc:=hA.pc;have hnt:=hA.nt;have h8:=hA.hi;have hc120:=hrt.2.1.2.2.2.1.2;have hm8:m.f.mth<=1000:=by have:=hok.top.mth;have:=hrt.1.2.2.1.1.2;omega
 obtain ⟨a,ga,gf⟩:=XU ha;obtain ⟨e1,e2,e3,e4,e5⟩:=ha;have hdep:=hok.dep;unfold FY;refine ⟨.inl ⟨_,rfl⟩,?_⟩;refine gC jF aL h.box rfl (aS.2 (aK (λhne=>absurd e3 hne) λ_=>?_));refine ⟨.inl ⟨_,rfl⟩,?_⟩;refine gC lJ aL h.box rfl (aF.2 (aK (λh0=>?_) λh0=>?_))
 ·have h0:m.fuel=0:=by omega
  refine (RN h (by rw [e4];omega) (s:=28423)).mono λ_ w2 ⟨q',h2,hx2,F2⟩=>?_;refine stR h2 rfl (hE _ _ h0 ⟨_,h2,rfl,rfl,rfl,hx2,F2,rfl,e5,?_,rfl,?_⟩)
  ·show n.fu=0;omega
  ·show n.r.ends 28423=_;rw [e4]
 have h0:m.fuel≠0:=by omega
 refine ⟨.inl ⟨_,rfl⟩,?_⟩;refine gC lJ aL h.box rfl (jV.2 ?_);rw [e2,show IntKind.i64.wrap (((m.fuel:Nat):Int) - 1)=((m.fuel - 1:Nat):Int) from by rw [aX (by omega)];omega];refine ⟨.inl ⟨_,rfl⟩,?_⟩;refine OD lJ ?_;refine kM fK h.box (show 3 < 5 by decide) rfl ?_;obtain ⟨h1,F1⟩:=h.cell (j:=3) (u:=i64 ((m.fuel - 1:Nat):Int)) (fu:=((m.fuel - 1:Nat):Int)) (st:=n.st) (by decide) rfl;have F1:=F1.mono λi hi=>h.exM i hi;generalize w.setCell ⟨n.mb,0+3,none⟩ (i64 ((m.fuel - 1:Nat):Int))=w1 at *;have D1:aG w1 w1.drew:=(aG.refl _).drew;refine aH.mk' (λw'=>aG w1 w') D1 ⟨.inl ⟨_,rfl⟩,?_⟩;refine lE eU mS (λw' hw=>h1.box.ext hw) rfl ⟨.inl ⟨_,rfl⟩,?_⟩;refine lE eU mS (λw' hw=>h1.box.ext hw) rfl ?_;refine aD.ok (λw' _=>jR underlying61) ?_;refine aD.ok (λw' _=>mB) ?_;rw [show IntKind.i64.wrap (((n.frs.length:Nat):Int) - 1)=(m.fs.length:Int) from by rw [aX (by omega)];omega];have hrow:=(h1.dep .fg).now;refine gF XM jJ (aB.of_own hrow) (λw' hw=>hw) (by omega) (show ((m.fs.length:Nat):Int) < ((n.frs.length:Nat):Int) by omega) (u:=pq a) (by rw [Int.toNat_natCast,List.getElem?_map];exact congrArg (Option.map pq) ga) ?_;obtain ⟨⟨p,im⟩,hpl⟩:=bH (l:=pl) (j:=m.f.who) (by have:=hok.top.who;simpa using this);have eim:aP (fT pl) m.f.who=im:=wH (by rw [List.getElem?_map,hpl];rfl)
 have h2:=h1.ext D1;have D2:aG w1.drew w1.drew.drew:=(aG.refl _).drew;obtain ⟨cs,hcs,hrows⟩:=(h2.dep .im).now;obtain ⟨hrow2,hA2⟩:=hrows m.f.who _ hpl;have fb2:=h2.fbx ga gf;refine aH.mk' (λw'=>aG w1.drew w') D2 ⟨.inl ⟨_,rfl⟩,?_⟩;refine lE jG kR (λw' hw=>h2.box.ext hw) (u:=oZ n.q) rfl ⟨.inl ⟨_,rfl⟩,?_⟩;refine lE cP iK (λw' hw=>h2.xbox.ext hw) (u:=n.q.iv) rfl ⟨.inl ⟨_,rfl⟩,?_⟩;refine lE cG aL (λw' hw=>fb2.ext hw) (u:=i64 (m.f.who:Int)) rfl ?_;refine yxA iD kQ (l:=p.cells im) hcs (λw' hw=>hcs.ext hw) (by omega) (by have:=(List.getElem?_eq_some_iff.1 hpl).1;omega) (by rw [Int.toNat_natCast];exact hrow2) rfl ?_;refine MA jT λw3 hz x3=>?_;refine ⟨D2.trans x3,?_⟩;refine GF jT hz (l:=p.cells im) rfl rfl rfl (VZ hA2) λw4 hb4 hch4=>?_;have x24:aG w1.drew w4:=D2.trans (hch4.ext _ x3 (Nat.le_refl _));have h4:=h2.ext x24;have hA4:=hA2.ext x24;have s2:=D1.size;have s3:=D2.size;have s4:=x24.size;have D4:aG w4 w4.drew:=(aG.refl _).drew;have fb4:=h4.fbx ga gf
 have hmt:im.methods[m.f.mth]?=some (m.f.me (fT pl)):=by
  have:=hok.top.mth;unfold gV.me gV.img at *;rw [eim] at *;unfold bF.meth;rw [Int.toNat_natCast,List.getD_eq_getElem?_getD,List.getElem?_eq_getElem this];rfl
 obtain ⟨cm,hcm,hrm⟩:=hA4.mt;obtain ⟨row,hrow4,mpv,mlv,mcv,hmr,_,_,hcode⟩:=hrm _ _ hmt;subst hmr;refine aH.mk' (λw'=>aG w4 w') D4 ?_;refine dT (λw' hw=>(hb4.ext hw).boxed) bN gR (u:=p.mv) rfl ⟨.inl ⟨_,rfl⟩,?_⟩;refine lE dX aL (λw' hw=>fb4.ext hw) (u:=i64 (m.f.mth:Int)) rfl ?_;refine XJ iJ iH iF hcm (λw' hw=>hw) (List.getElem?_eq_some_iff.1 hmt).1 (yK (o:=3) hrow4 (by decide) (u:=mcv) rfl) ⟨.inl ⟨_,rfl⟩,?_⟩;refine lE cF aL (λw' hw=>fb4.ext hw) (u:=i64 (m.f.pc:Int)) rfl ?_;refine yxA lL pR hcode (λw' hw=>hcode.ext hw) (by omega) (show ((m.f.pc:Nat):Int) < (((m.f.me (fT pl)).code.length:Nat):Int) by omega) (l:=[i64 (m.f.ins (fT pl)).op,i64 (m.f.ins (fT pl)).a,i64 (m.f.ins (fT pl)).b]) (by rw [Int.toNat_natCast];exact pI (RE hpc)) rfl ?_;refine MA nZ λw5 hz5 x5=>?_;refine ⟨D4.trans x5,?_⟩;refine GF nZ hz5 (l:=[i64 (m.f.ins (fT pl)).op,i64 (m.f.ins (fT pl)).a,i64 (m.f.ins (fT pl)).b]) rfl rfl rfl rfl λw6 hb5 hch6=>?_;have x46:aG w4 w6:=D4.trans (hch6.ext _ x5 (Nat.le_refl _));have hb4:=hb4.ext x46;have s6:=x46.size;have s5:=D4.size;have l4:=hb4.lt;have l5:=hb5.lt;have old1:∀ {c:Lq} {i:Nat},WQ { n with fu:=((m.fuel - 1:Nat):Int),st:=n.st } c i->i < w1.heap.size:=λhi=>h1.lt _ _ hi;have h6:=(h4.ext x46).addX (Y:=λi=>i=w1.drew.drew.heap.size\/i=w4.drew.heap.size) (λi hi c hc=>by have:=old1 hc;omega) (λi hi=>by omega)
 have x16:=(D1.trans x24).trans x46;have D6:aG w6 w6.drew:=(aG.refl _).drew;have fb6:=h6.fbx ga gf;have nb:∀ {c:Lq} {i:Nat},c≠.rm->WQ _ c i->¬ nG n.q i:=λhc hi hm=>h6.no hi (b:=.rm) (.inl hm) hc;refine aH.mk' (λw'=>Fr (nG n.q) w6 w') (Fr.of_ext D6) ⟨.inl ⟨_,rfl⟩,?_⟩;have nmb:=nb (c:=.mb) (by intro e;cases e) rfl;have nfb:=nb (c:=.fb m.fs.length) (i:=a.fb) (by intro e;cases e) ⟨a,ga,rfl⟩;have nx5:=nb (c:=.ex) (i:=w4.drew.heap.size) (by intro e;cases e) (.inr (.inr rfl));refine lE kT tQ (λw' hw=>hw.seg h6.box nmb) (u:=ubT n.q) rfl ⟨.inl ⟨_,rfl⟩,?_⟩;refine lE cG aL (λw' hw=>hw.seg fb6 nfb) (u:=i64 (m.f.who:Int)) rfl ⟨.inl ⟨_,rfl⟩,?_⟩;refine lE dX aL (λw' hw=>hw.seg fb6 nfb) (u:=i64 (m.f.mth:Int)) rfl ?_;refine aD.ok (λw' _=>GY) ⟨.inl ⟨_,rfl⟩,?_⟩;refine lE cF aL (λw' hw=>hw.seg fb6 nfb) (u:=i64 (m.f.pc:Int)) rfl ?_;refine aD.ok (λw' _=>nW) ?_;rw [jD (n:=1000*((m.f.mth:Nat):Int)) (by omega) (by omega),jD (n:=1000*((m.f.mth:Nat):Int)+((m.f.pc:Nat):Int)) (by omega) (by omega)];refine dT (λw' hw=>(hw.blk hb5 nx5).boxed) bK aL rfl ?_;refine aD.ok (λw' _=>aBj) ?_;refine (aTs (h6.ext D6) (by show n.r.ps.tr.length<=_;rw [e4];omega) (e:=iO (fT pl) m.f)).mono λ_ w7 ⟨q7,h7,s7⟩=>?_;have F67:=(Fr.of_ext (S:=nG n.q) D6).trans s7.fr λ_ _ h=>h
 refine ⟨F67,?_⟩;have hb4:=F67.blk hb4 (nb (c:=.ex) (by intro e;cases e) (.inr (.inl rfl)));have hb5:=F67.blk hb5 nx5;have FX7:Fr (λi=>¬ n.XI i) w6 w7:=F67.mono λi hi hx=>h6.exR i hi (Or.imp .inl id hx);have D7:aG w7 w7.drew:=(aG.refl _).drew;have fb7:=h7.fbx ga gf;refine aH.mk' (λw'=>aG w7 w') D7 ?_;refine yA (λw' hw=>(hb4.ext hw).boxed) kQ rfl ⟨.inl ⟨_,rfl⟩,?_⟩;refine lE dX aL (λw' hw=>fb7.ext hw) (u:=i64 (m.f.mth:Int)) rfl ?_;refine yA (λw' hw=>(hb5.ext hw).boxed) pR rfl ?_;have hA7:=(((h7.dep .im).now).choose_spec.2 m.f.who _ hpl).2;have eme:im.meth (m.f.mth:Int)=m.f.me (fT pl):=by unfold gV.me gV.img;rw [eim]
 have hokx:BA im (im.meth (m.f.mth:Int)) (m.f.ins (fT pl)):=by rw [eme];have:=hA.okx;unfold gV.img at this;rw [eim] at this;exact this
 refine (aKz (hA7.ext D7) (List.getElem?_eq_some_iff.1 hmt).1 hokx).mono λrv w8 ⟨hrv,x8⟩=>?_;subst hrv;have eN:(bC im (im.meth (m.f.mth:Int)) (m.f.ins (fT pl))).length=bB (fT pl) m.f:=by rw [eme];unfold bB gV.img;rw [eim]
 rw [eN];have x78:=D7.trans x8;refine ⟨x78,?_⟩;have h8':=h7.ext x78;have hb4:=hb4.ext x78;have hb5:=hb5.ext x78;generalize hnn:bB (fT pl) m.f=nt at *;have D8:aG w8 w8.drew:=(aG.refl _).drew;have fb8:=h8'.fbx ga gf;have st8:=h8'.sta ga gf;refine aH.mk' (λw'=>aG w8 w') D8 ⟨.inl ⟨_,rfl⟩,?_⟩;refine lE cD gX (λw' hw=>fb8.ext hw) (u:=a.sv) rfl ⟨.inl ⟨_,rfl⟩,?_⟩;refine lE cD gX (λw' hw=>fb8.ext hw) (u:=a.sv) rfl ?_;refine tW bX (aB.of_own st8) ?_;refine aD.ok (λw' _=>mB) ?_;rw [show IntKind.i64.wrap (((m.f.st.length:Nat):Int) - (nt:Int))=((m.f.st.length - nt:Nat):Int) from by rw [aX (by omega)];omega];obtain ⟨v',hrun,hsl⟩:=vV underlying37 mC (aB.of_own st8) (lo:=some (.int .i64 ((m.f.st.length - nt:Nat):Int))) (hi':=none) (a:=m.f.st.length - nt) (b:=m.f.st.length) (.inr rfl) (.inl ⟨rfl,rfl⟩) (by omega) (Nat.le_refl _);refine aD.ok (λw' _=>hrun w') ?_
 have hsv:aB w8 v' 1 nt ((hY nt m.f.st).map i32):=by
  have:=hsl w8 (aB.of_own st8);rw [show m.f.st.length - (m.f.st.length - nt)=nt by omega] at this;unfold hY;rw [List.map_drop];have e2:((m.f.st.map i32).drop (m.f.st.length - nt)).take nt=(m.f.st.map i32).drop (m.f.st.length - nt):=List.take_of_length_le (by simp;omega)
  rwa [e2] at this
 have one32:∀ l:List Int,(l.map i32).all cB=true:=λl=>List.all_eq_true.2 λv hv=>by obtain ⟨x,_,rfl⟩:=List.mem_map.1 hv;rfl
 refine aBk λw9 hb9 x9=>?_;have x89:=D8.trans x9;refine ⟨x89,?_⟩;have s9:=x9.size;have sD8:=D8.size;have l9:=hb9.lt;refine DG underlying37 mC rfl hb9 (hsv.ext x89) (one32 _) (by omega) (by decide) λv1 w10 ho10 F10 hv1=>?_;have x8a:aG w8 w10:=F10.ext x89 λi hi=>by omega
 refine ⟨x8a,?_⟩
 have hv1':∀ i,v1.ownBlock=some i->w8.heap.size<=i:=λi hi=>by
  rcases hv1 with e|e<;>(rw [e] at hi;cases hi;omega)
 have ha':=(h8'.ext x8a).addX (Y:=λi=>v1.ownBlock=some i) (λi hi c hc=>by have:=h8'.lt _ _ hc;have:=hv1' i hi;omega) (λi hi=>(ho10.lt i hi).2);have hb4:=hb4.ext x8a;have hb5:=hb5.ext x8a;have D10:aG w10 w10.drew:=(aG.refl _).drew;have fba:=ha'.fbx ga gf;have sta:=ha'.sta ga gf;refine aH.mk' (λw'=>aG w10 w') D10 ⟨.inl ⟨_,rfl⟩,?_⟩;refine lE cD gX (λw' hw=>fba.ext hw) (u:=a.sv) rfl ⟨.inl ⟨_,rfl⟩,?_⟩;refine lE cD gX (λw' hw=>fba.ext hw) (u:=a.sv) rfl ?_;refine tW bX (aB.of_own sta) ?_;refine aD.ok (λw' _=>mB) ?_;rw [show IntKind.i64.wrap (((m.f.st.length:Nat):Int) - (nt:Int))=((m.f.st.length - nt:Nat):Int) from by rw [aX (by omega)];omega];obtain ⟨v2,hr2,hb2,ho2⟩:=ZL underlying37 mC sta (a:=m.f.st.length - nt) (by omega);refine aD.ok (λw' _=>hr2 w') ?_;refine aBk λw11 hb11 x11=>?_;have x10b:=D10.trans x11;refine ⟨x10b,?_⟩;have lu:(jC nt m.f.st).length=m.f.st.length - nt:=lU
 have hs2:aB w11 v2 1 (m.f.st.length - nt) ((jC nt m.f.st).map i32):=by
  have:=aB.of_own (x10b.own (ho2 _ sta));unfold jC;rw [List.map_take];exact this
 have s11:=x11.size;have sD10:=D10.size;have l11:=hb11.lt;refine DG underlying37 mC rfl hb11 hs2 (one32 _) (by omega) (by decide) λv3 w12 ho12 F12 hv3=>?_;have x10c:aG w10 w12:=F12.ext x10b λi hi=>by omega
 refine ⟨x10c,.inl ⟨_,rfl⟩,?_⟩;have hc:=ha'.ext x10c;have fbc:=hc.fbx ga gf;refine XK cD ?_;refine kM qG fbc (show 4 < 5 by decide) (bM ho12) ?_
 have hv3':∀ i,v3.ownBlock=some i->w10.heap.size<=i:=λi hi=>by
  rcases hv3 with e|e<;>(rw [e] at hi;cases hi;omega)
 obtain ⟨hd,Fd⟩:=ha'.setSv ga gf (v:=v3) (st:=jC nt m.f.st) (Fr.of_ext x10c) (by rw [lu];exact ho12) λi hi=>.inr (hv3' i hi);have FXd:=Fd.mono λi hi=>ha'.exF ga i hi;generalize w12.setCell ⟨a.fb,0+4,none⟩ v3=w13 at *;have nY:∀ {i:Nat},((n.X i\/i=w1.drew.drew.heap.size\/i=w4.drew.heap.size)\/v1.ownBlock=some i)->¬ ¬ (((n.X i\/i=w1.drew.drew.heap.size\/i=w4.drew.heap.size)\/v1.ownBlock=some i)\/n.IB i):=λh hn=>hn (.inl h);have hb4:=FXd.blk hb4 (nY (.inl (.inr (.inl rfl))));have hb5:=FXd.blk hb5 (nY (.inl (.inr (.inr rfl))));have row13:=FXd.own ho10 λi hi=>nY (.inr hi);have ga':=oP (x:=({ a with sv:=v3 }:FQ)) ga;have gf':=oP (x:=({ m.f with st:=jC nt m.f.st }:gV)) gf;have fbd:=hd.fbx ga' gf';refine ⟨.inl ⟨_,rfl⟩,?_⟩;refine gC cF aL fbd (u:=i64 (m.f.pc:Int)) rfl ⟨.inl ⟨_,rfl⟩,?_⟩;refine gC cF aL fbd (u:=i64 (m.f.pc:Int)) rfl (bW.2 ?_);rw [show IntKind.i64.wrap (((m.f.pc:Nat):Int)+1)=((m.f.pc+1:Nat):Int) from by rw [aX (by omega)];omega];refine ⟨.inl ⟨_,rfl⟩,?_⟩;refine OD cF ?_;refine kM fK fbd (show 2 < 5 by decide) rfl ?_;obtain ⟨he,Fe⟩:=hd.setPc ga' gf' (m.f.pc+1);have FXe:=Fe.mono λi hi=>hd.exF ga' i hi;generalize w13.setCell ⟨a.fb,0+2,none⟩ (i64 ((m.f.pc+1:Nat):Int))=w14 at *;have hb4:=FXe.blk hb4 (nY (.inl (.inr (.inl rfl))));have hb5:=FXe.blk hb5 (nY (.inl (.inr (.inr rfl))))
 have row14:=FXe.own row13 λi hi=>nY (.inr hi);refine hK _ { a with sv:=v3 } p im w1.drew.drew.heap.size w4.drew.heap.size v1 w14 h0 ⟨he,λi=>?_,rfl,rfl,s7.xb,?_,oP ga',?_,?_,rfl,e3,?_,hb4,hb5,by rw [hnn];exact row14,hpl⟩
 ·exact or_assoc.trans (or_congr Iff.rfl or_assoc)
 ·have G1:=F1.trans (Fr.of_ext (S:=λi=>¬ n.XI i) x16) λ_ _ h=>h;have G2:=G1.trans FX7 λ_ _ h=>h;have G3:=G2.trans (Fr.of_ext (S:=λi=>¬ n.XI i) (x78.trans x8a)) λ_ _ h=>h;have G4:=G3.trans (FXd.mono λi hn hx=>hn (Or.imp (λh=>.inl (.inl h)) id hx)) λ_ _ h=>h;exact G4.trans (FXe.mono λi hn hx=>hn (Or.imp (λh=>.inl (.inl h)) id hx)) λ_ _ h=>h
 ·show ((n.frs.set _ _).set _ _).length=_;simp only [List.length_set];exact e5
 ·show ((n.fa.set _ _).set _ _)=_;rw [List.set_set,e1,hnn];exact qS
 ·show n.r.ev _=_;rw [e4]
end
theorem UR {op:Int} (h:¬ bG op) {w:Ω}:aC prog 67 #[i64 op] w λr w'=>r=i64 (-1)/\w'=w:=by
 unfold bG at h;apply qC;suffices key:∀ R:O->Ω->Prop,R (i64 (-1)) w->lX (i64 op) w R from key _ ⟨rfl,rfl⟩;intro R hR;unfold lX;refine ⟨λv w'=>v=.bool false/\w'=w,?_,?_⟩
 ·simp only [aF,show ¬ op=27 by omega,show ¬ op=28 by omega,decide_false,aA];exact ⟨by first|rfl|trivial,by first|rfl|trivial⟩
 rintro _ w' ⟨rfl,hw⟩ _;have hw:=hw.symm;subst hw;refine aA.2 ⟨λv w'=>v=.bool false/\w'=w,?_,?_⟩
 ·simp only [aF,show ¬ op=17 by omega,show ¬ op=18 by omega,show ¬ op=29 by omega,decide_false,aA];exact ⟨by first|rfl|trivial,by first|rfl|trivial⟩
 rintro _ w' ⟨rfl,hw⟩ _;have hw:=hw.symm;subst hw;refine aA.2 ⟨λv w'=>v=.bool false/\w'=w,?_,?_⟩
 ·simp only [aF,show ¬ op=30 by omega,show ¬ op=36 by omega,decide_false,aA];exact ⟨by first|rfl|trivial,by first|rfl|trivial⟩
 rintro _ w' ⟨rfl,hw⟩ _;have hw:=hw.symm;subst hw;refine aA.2 ?_;simp only [aF,show ¬ op=31 by omega,show ¬ op=32 by omega,decide_false,aA];exact hR
section
variable {pl:List (bP × bF)} {n n' n6:QN} {a:FQ} {p:bP} {im:bF} {b4 b5:Nat} {v1:O} {w w1 w6 w':Ω} {m:PM}
theorem oF {t:List Int} {j:Nat} (h:j < t.length):(t.map i32)[j]?=some (i32 (bI t j)):=by unfold bI;exact wT h
theorem aSf (hT:nK (fT pl)) (hll:pl.length<=1000) (hok:m.ok (fT pl)) (htr:m.r.ps.tr.length<=90000) (h8k:∀ x∈m.r.ps.ar,qD x.data) (h0:m.fuel≠0) (hH:HdR pl n m n6 a p im b4 b5 v1 w w6) {R:O->Ω->Prop} (hR:∀ rv w',QGo pl n (fR (fT pl) m) rv w w'->R rv w') :
  tJ (pn n) (.pointer (some ⟨b4,0,none⟩)) (.pointer (some ⟨b5,0,none⟩)) (pq a) (i64 (bB (fT pl) m.f:Int)) v1 (i64 (m.f.pc:Int)) w6 R:=by
 have hA:=hok.top.at_ hT;have hrt:=hok.top.rt hT;have hpc:=hA.pc;have hnt:=hA.nt;have h8:=hA.hi;have hc120:=hrt.2.1.2.2.2.1.2;have h32:=hok.top.s32;have hdep:=hok.dep;obtain ⟨H,hX,hIB,hmb,hxb,F6,ga,hlen,hfa,hfu,hst,hr6,hb4,hb5,row,hpl⟩:=hH;have gf:n6.fa[m.fs.length]?=some { m.f with st:=jC (bB (fT pl) m.f) m.f.st,pc:=m.f.pc+1 }:=by rw [hfa,List.reverse_cons,List.getElem?_append_right (by simp)];simp
 have eim:aP (fT pl) m.f.who=im:=wH (by rw [List.getElem?_map,hpl];rfl);have eS:fR (fT pl) m=tG (fT pl) m.fs m.f (m.fuel - 1) (m.r.ev (iO (fT pl) m.f)) (m.f.ins (fT pl)) (hY (bB (fT pl) m.f) m.f.st) (jC (bB (fT pl) m.f) m.f.st):=by unfold fR;rw [if_neg h0]
 have ht32:=(xH h32 (bB (fT pl) m.f)).1;have htl:(hY (bB (fT pl) m.f) m.f.st).length=bB (fT pl) m.f:=oL hnt;have hul:(jC (bB (fT pl) m.f) m.f.st).length=m.f.st.length - bB (fT pl) m.f:=lU;have eN:bB (fT pl) m.f=(bC (m.f.img (fT pl)) (m.f.me (fT pl)) (m.f.ins (fT pl))).length:=rfl;have hloc:=hok.top.loc;have hfd:=hok.fd;have hwho:=hok.top.who;have hokx:=hA.okx;have hme:(m.f.img (fT pl))=im:=eim;have r6tr:n6.r.ps.tr.length<=99000:=by rw [hr6];show (m.r.ps.tr++[_]).length<=_;rw [List.length_append];simp;omega
 generalize m.f.ins (fT pl)=x at *;generalize hnn:bB (fT pl) m.f=nt at *;generalize hY nt m.f.st=t at *;generalize jC nt m.f.st=u at *;have hop:=NG hokx.xr;have hxr:=hokx.xr;have hnm:=hokx.nm
 have fin:∀ {n':QN} {w':Ω} {m':PM},fR (fT pl) m=.run m'->MQ pl n' w'->n'.X=n6.X->n'.IB=n6.IB->n'.mb=n6.mb->n'.q.xb=n6.q.xb->Fr (λi=>¬ n6.XI i) w6 w'->AsP n' m' ->
   Go.Vc.aI (pn n)/\V prog (Instr.fieldAt 64 (pn n) 2) w' λa w1=>V prog (Instr.loadAt 3 a) w1 λb w2=>R b w2:=by
  intro n' w' m' he h' eX eI em ex F' hP;refine stR h' (em.trans hmb) (hR _ _ ?_);rw [he];refine ⟨{ n' with X:=n.X },h'.weakX λi hi=>by rw [eX];exact (hX i).2 (.inl hi),rfl,eI.trans hIB,em.trans hmb,ex.trans hxb,F6.trans (F'.mono λi hi hx=>hi (Or.imp (λh=>(hX i).2 (.inl h)) (λh=>hIB▸h) hx)) λ_ _ h=>h,?_,hP⟩;rw [hP.2.2.1]
 have finE:∀ {n':QN} {w':Ω} {s:Int} {d fu:Nat} {r:Rm},fR (fT pl) m=.fin s d fu r->MQ pl n' w'->n'.X=n6.X->n'.IB=n6.IB->n'.mb=n6.mb->n'.q.xb=n6.q.xb->Fr (λi=>¬ n6.XI i) w6 w'->AsE n' ⟨s,d,fu,r⟩ ->
   Go.Vc.aI (pn n)/\V prog (Instr.fieldAt 64 (pn n) 2) w' λa w1=>V prog (Instr.loadAt 3 a) w1 λb w2=>R b w2:=by
  intro n' w' s d fu r he h' eX eI em ex F' hP;refine stR h' (em.trans hmb) (hR _ _ ?_);rw [he];refine ⟨{ n' with X:=n.X },h'.weakX λi hi=>by rw [eX];exact (hX i).2 (.inl hi),rfl,eI.trans hIB,em.trans hmb,ex.trans hxb,F6.trans (F'.mono λi hi hx=>hi (Or.imp (λh=>(hX i).2 (.inl h)) (λh=>hIB▸h) hx)) λ_ _ h=>h,?_,hP⟩;rw [hP.2.2.1]
 have finP:∀ {n':QN} {w':Ω} {fd':List (List Int)} {f':gV},kL x.op->MQ pl n' w'->n'.X=n6.X->n'.IB=n6.IB->n'.mb=n6.mb->n'.q.xb=n6.q.xb->Fr (λi=>¬ n6.XI i) w6 w'->n'.frs.length=n6.frs.length->n'.fa=n6.fa.set m.fs.length f' ->
   f'={ m.f with st:=u++jS x m.f m.r.fd t,pc:=yQ x m.f.pc t,loc:=uJ x m.f.loc t }->n'.fu=n6.fu->n'.st=n6.st->n'.r={ n6.r with fd:=fd' }->fd'=WC x m.f.who m.r.fd t ->
   Go.Vc.aI (pn n)/\V prog (Instr.fieldAt 64 (pn n) 2) w' λa w1=>V prog (Instr.loadAt 3 a) w1 λb w2=>R b w2:=by
  intro n' w' fd' f' ⟨p1,p2,p3,p4⟩ h' eX eI em ex F' el ef hf' eu es er hfd'
  have eD:fR (fT pl) m=.run ⟨m.fs,{ m.f with st:=u++jS x m.f m.r.fd t,pc:=yQ x m.f.pc t,loc:=uJ x m.f.loc t },m.fuel - 1,{ m.r.ev (iO (fT pl) m.f) with fd:=WC x m.f.who m.r.fd t }⟩:=by
   rw [eS];unfold tG;rw [if_neg p3,if_neg (by omega),if_neg p4];rfl
  refine fin eD h' eX eI em ex F' ⟨?_,eu.trans hfu,es.trans hst,?_,el.trans hlen⟩
  ·rw [ef,hfa,hf'];exact qS
  ·rw [er,hr6,hfd']
 have pc1:x.op≠23->x.op≠24->yQ x m.f.pc t=m.f.pc+1:=λh1 h2=>by unfold yQ;rw [if_neg h1,if_neg h2]
 have loc1:x.op≠3->uJ x m.f.loc t=m.f.loc:=λh1=>by unfold uJ;rw [if_neg h1]
 have fd1:x.op≠34->WC x m.f.who m.r.fd t=m.r.fd:=λh1=>by unfold WC;rw [if_neg h1]
 have r6fd:n6.r.fd=m.r.fd:=by rw [hr6];rfl
 have XF:∀ {w':Ω},Fr (vR a) w6 w'->Fr (λi=>¬ n6.XI i) w6 w':=λh=>h.mono λi hi=>H.exF ga i hi
 have finPush:∀ {z:Int} {w0 w':Ω} {v:O},kL x.op->x.op≠23->x.op≠24->x.op≠3->x.op≠34->jS x m.f m.r.fd t=[z]->aG w6 w0->MQ pl (n6.stk m.fs.length { a with sv:=v } { m.f with st:=u++[z],pc:=m.f.pc+1 }) w'->Fr (vR a) w0 w' ->
   Go.Vc.aI (pn n)/\V prog (Instr.fieldAt 64 (pn n) 2) w' λa w1=>V prog (Instr.loadAt 3 a) w1 λb w2=>R b w2:=by
  intro z w0 w' v hp h1 h2 h3 h4 hz hx0 h' F';refine finP (fd':=m.r.fd) hp h' rfl rfl rfl rfl (XF ((Fr.of_ext (S:=vR a) hx0).trans F' λ_ _ h=>h)) (by show (n6.frs.set _ _).length=_;rw [List.length_set]) rfl ?_ rfl rfl ?_ (fd1 h4).symm
  ·rw [hz,pc1 h1 h2,loc1 h3]
  ·show n6.r=_;rw [<- r6fd]
 have fb6:=H.fbx ga gf;have locR0:=H.loc ga gf;have locR:w6.ownsRow 0 21 1 a.lv m.f.loc.length (m.f.loc.map i32):=locR0
 have nopush:(x.op=3\/x.op=4\/x.op=23\/x.op=24\/x.op=34)->jS x m.f m.r.fd t=[]:=λh=>by
  unfold jS;rw [if_neg (by omega),if_neg (by omega),if_neg (by omega),if_neg (by omega),if_neg (by omega),if_pos h]
 have hrow:=aB.of_own row;have nX:∀ {i:Nat},n6.X i->¬ ¬ n6.XI i:=λh hn=>hn (.inl h);have x5:n6.X b5:=(hX _).2 (.inr (.inr (.inl rfl)));have x4:n6.X b4:=(hX _).2 (.inr (.inl rfl));have x1:∀ i,v1.ownBlock=some i->n6.X i:=λi hi=>(hX _).2 (.inr (.inr (.inr hi)));have D6:aG w6 w6.drew:=(aG.refl _).drew;have epn:pn n=.pointer (some ⟨n6.mb,0,none⟩):=by unfold pn;rw [hmb]
 unfold tJ;refine bA hb5.boxed bK aL rfl ?_;refine aF.2 (aK (λh1=>?_) λn1=>?_)
 ·-- Push
  refine bA hb5.boxed aW aL rfl ?_;refine V.ok (bE underlying3 underlying21) ?_;have ha:-2147483648<=x.a/\x.a<=2147483647:=by have:=hxr.2;rw [h1] at this;exact ⟨this.1,this.2.1⟩
  rw [show IntKind.i32.wrap x.a=x.a by simp only [IntKind.wrap_i32];omega];refine (rW H ga gf (by show u.length<=_;omega)).mono λ_ w' ⟨v,h',F'⟩=>finPush ?_ (by omega) (by omega) (by omega) (by omega) ?_ (aG.refl _) h' F'
  ·unfold kL bG;omega
  ·unfold jS;rw [if_pos (.inl h1)]
 refine aF.2 (aK (λh1=>?_) λn2=>?_)
 ·-- Load
  have ha0:0<=x.a:=by have:=hxr.2.1;rw [h1] at this;exact this
  have hal:x.a < ((m.f.me (fT pl)).locs.length:Int):=by unfold fP at hnm;rw [h1] at hnm;exact hnm
  obtain ⟨k,hk,hkl⟩:=rX (l:=m.f.loc) ha0 (by omega);refine aH.mk' (λw'=>aG w6 w') D6 ⟨.inl ⟨_,rfl⟩,?_⟩;refine lE eO gX (λw' hw=>fb6.ext hw) (u:=a.lv) rfl ?_;refine dT (λw' hw=>(hb5.ext hw).boxed) aW aL (u:=i64 x.a) rfl ?_;rw [hk];refine gF bX cE (aB.of_own locR) (λw' hw=>hw) (by omega) (by omega) (u:=i32 (m.f.loc.getD k 0)) (by rw [Int.toNat_natCast];exact wT hkl) ?_;refine (rW (H.ext D6) ga gf (by show u.length<=_;omega)).mono λ_ w' ⟨v,h',F'⟩=>finPush ?_ (by omega) (by omega) (by omega) (by omega) ?_ D6 h' F'
  ·unfold kL bG;omega
  ·unfold jS;rw [if_neg (by omega),if_pos h1,hk,Int.toNat_natCast]
 refine aF.2 (aK (λh1=>?_) λn3=>?_)
 ·-- Store
  have ha0:0<=x.a:=by have:=hxr.2.1;rw [h1] at this;exact this
  have hal:x.a < ((m.f.me (fT pl)).locs.length:Int):=by unfold fP at hnm;rw [h1] at hnm;exact hnm
  obtain ⟨k,hk,hkl⟩:=rX (l:=m.f.loc) ha0 (by omega);have hn1:nt=1:=by rw [eN];obtain ⟨op,xa,xb⟩:=x;have h1:op=3:=h1;subst h1;rfl
  refine aH.mk' (λw'=>aG w6 w') D6 ⟨.inl ⟨_,rfl⟩,?_⟩;refine lE eO gX (λw' hw=>fb6.ext hw) (u:=a.lv) rfl ?_;refine dT (λw' hw=>(hb5.ext hw).boxed) aW aL (u:=i64 x.a) rfl ?_;rw [hk];refine gF bX cE hrow (λw' hw=>hw) (by omega) (by omega) (u:=i32 (bI t 0)) (oF (by omega)) ?_;refine aDb bX mC (D6.own locR) hkl rfl λw7 ho7 hg7=>?_;have F7:Fr (λi=>a.lv.ownBlock=some i) w6.drew w7:=Fr.of_grown hg7 λk hk=>hk;obtain ⟨h',F'⟩:=(H.ext D6).setLoc ga gf (loc:=m.f.loc.set k (bI t 0)) F7 (by rw [List.length_set,List.map_set];exact ho7);refine finP (fd':=m.r.fd) ?_ h' rfl rfl rfl rfl (XF ((Fr.of_ext (S:=vR a) D6).trans F' λ_ _ h=>h)) (by show (n6.frs.set _ _).length=_;rw [List.length_set]) rfl ?_ rfl rfl ?_ (fd1 (by omega)).symm
  ·unfold kL bG;omega
  ·have e1:=nopush (by omega);rw [e1,pc1 (by omega) (by omega),List.append_nil];unfold uJ;rw [if_pos h1,hk,Int.toNat_natCast]
  ·show n6.r=_;rw [<- r6fd]
 refine aF.2 (aK (λh1=>?_) λn4=>?_)
 ·-- Pop
  refine finP (fd':=m.r.fd) ?_ H rfl rfl rfl rfl (Fr.refl _ _) rfl (f':={ m.f with st:=u,pc:=m.f.pc+1 }) (by rw [hfa];exact qS.symm) ?_ rfl rfl (by rw [<- r6fd]) (fd1 (by omega)).symm
  ·unfold kL bG;omega
  ·have e1:=nopush (by omega);rw [e1,pc1 (by omega) (by omega),loc1 (by omega),List.append_nil]
 refine aF.2 (aK (λh1=>?_) λn5=>?_)
 ·-- Dup
  have hn1:nt=1:=by rw [eN];obtain ⟨op,xa,xb⟩:=x;have h1:op=5:=h1;subst h1;rfl
  refine nO bX cE hrow (by omega) (by omega) (u:=i32 (bI t 0)) (oF (by omega)) ?_;refine (rW H ga gf (by show u.length<=_;omega)).mono λ_ w7 ⟨v,h7,F7⟩=>?_;have row7:=aB.of_own ((XF F7).own row λi hi=>nX (x1 i hi));refine nO bX cE row7 (by omega) (by omega) (u:=i32 (bI t 0)) (oF (by omega)) ?_;have ga7:=oP (x:=({ a with sv:=v }:FQ)) ga;have gf7:=oP (x:=({ m.f with st:=u++[bI t 0],pc:=m.f.pc+1 }:gV)) gf;refine (rW h7 ga7 gf7 (by show (u++[_]).length<=_;rw [List.length_append];simp;omega)).mono λ_ w8 ⟨v2,h9,F8⟩=>?_;have F8':Fr (λi=>¬ n6.XI i) w7 w8:=F8.mono λi hi=>h7.exF ga7 i hi;refine finP (fd':=m.r.fd) ?_ h9 rfl rfl rfl rfl ((XF F7).trans F8' λ_ _ h=>h) (by show ((n6.frs.set _ _).set _ _).length=_;simp only [List.length_set]) (by show (n6.fa.set _ _).set _ _=_;rw [List.set_set]) ?_ rfl rfl (by show n6.r=_;rw [<- r6fd]) (fd1 (by omega)).symm
  ·unfold kL bG;omega
  ·have e1:jS x m.f m.r.fd t=[bI t 0,bI t 0]:=by unfold jS;rw [if_neg (by omega),if_neg (by omega),if_pos h1]
   rw [e1,pc1 (by omega) (by omega),loc1 (by omega)];simp [List.append_assoc]
 refine ⟨λv w'=>v=.bool (decide (x.op=15\/x.op=16\/x.op=26))/\w'=w6,?_,?_⟩
 ·by_cases h15:x.op=15
  ·simp only [aF,h15,decide_true,aE];exact ⟨by first|rfl|trivial,by first|rfl|trivial⟩
  ·simp only [aF,h15,decide_false,aA];by_cases h16:x.op=16
   ·simp only [h16,decide_true,aE];exact ⟨by first|rfl|trivial,by first|rfl|trivial⟩
   ·simp only [h16,decide_false,aA,false_or];exact ⟨by first|rfl|trivial,by first|rfl|trivial⟩
 rintro _ w7 ⟨rfl,hw⟩ _;have hw:=hw.symm;subst hw;refine aK (λh1=>?_) λn15=>?_
 ·have hn1:nt=1:=by rw [eN];obtain ⟨op,xa,xb⟩:=x;have h1:op=15\/op=16\/op=26:=h1;rcases h1 with rfl|rfl|rfl<;>rfl
  refine aH.mk' (λw'=>aG w6 w') D6 ?_;refine dT (λw' hw=>(hb5.ext hw).boxed) bK aL (u:=i64 x.op) rfl ?_;refine gF bX cE hrow (λw' hw=>hw) (by omega) (by omega) (u:=i32 (bI t 0)) (oF (by omega)) ?_;refine (aDv h1).mono λrv w7 ⟨hrv,hw⟩=>?_;subst hrv;have hw:=hw.symm;subst hw;refine ⟨D6,?_⟩;refine (rW (H.ext D6) ga gf (by show u.length<=_;omega)).mono λ_ w' ⟨v,h',F'⟩=>finPush ?_ (by omega) (by omega) (by omega) (by omega) ?_ D6 h' F'
  ·unfold kL bG;omega
  ·unfold jS;rw [if_neg (by omega),if_neg (by omega),if_neg (by omega),if_neg (by omega),if_neg (by omega),if_neg (by omega),if_pos h1]
 refine aF.2 (aK (λh1=>?_) λn22=>?_)
 ·-- Pick
  have hn1:nt=3:=by rw [eN];obtain ⟨op,xa,xb⟩:=x;have h1:op=22:=h1;subst h1;rfl
  refine aH.mk' (λw'=>aG w6 w') D6 ?_;refine gF bX cE hrow (λw' hw=>hw) (by omega) (by omega) (u:=i32 (bI t 0)) (oF (by omega)) ?_;refine gF bX cE hrow (λw' hw=>hw) (by omega) (by omega) (u:=i32 (bI t 1)) (oF (by omega)) ?_;refine gF bX cE hrow (λw' hw=>hw) (by omega) (by omega) (u:=i32 (bI t 2)) (oF (by omega)) ?_;refine ZI.mono λrv w7 ⟨hrv,hw⟩=>?_;subst hrv;have hw:=hw.symm;subst hw;refine ⟨D6,?_⟩;refine (rW (H.ext D6) ga gf (by show u.length<=_;omega)).mono λ_ w' ⟨v,h',F'⟩=>finPush ?_ (by omega) (by omega) (by omega) (by omega) ?_ D6 h' F'
  ·unfold kL bG;omega
  ·unfold jS;simp [h1]
 refine aF.2 (aK (λh1=>?_) λn23=>?_)
 ·-- Jump
  have ha0:0<=x.a:=by have:=hxr.2.1;rw [h1] at this;exact this
  refine bA hb5.boxed aW aL rfl ⟨.inl ⟨_,rfl⟩,?_⟩;refine OD cF ?_;refine kM fK fb6 (show 2 < 5 by decide) rfl ?_;obtain ⟨h',F'⟩:=H.setPc ga gf x.a.toNat;have ea:((x.a.toNat:Nat):Int)=x.a:=by omega
  rw [ea] at h' F';refine finP (fd':=m.r.fd) ?_ h' rfl rfl rfl rfl (XF F') (by show (n6.frs.set _ _).length=_;rw [List.length_set]) rfl ?_ rfl rfl (by show n6.r=_;rw [<- r6fd]) (fd1 (by omega)).symm
  ·unfold kL bG;omega
  ·have e1:=nopush (by omega);rw [e1,loc1 (by omega),List.append_nil];unfold yQ;rw [if_pos h1]
 refine aF.2 (aK (λh1=>?_) λn24=>?_)
 ·-- JumpIf
  have ha0:0<=x.a:=by have:=hxr.2.1;rw [h1] at this;exact this
  have hn1:nt=1:=by rw [eN];obtain ⟨op,xa,xb⟩:=x;have h1:op=24:=h1;subst h1;rfl
  have e1:=nopush (by omega);refine nO bX cE hrow (by omega) (by omega) (u:=i32 (bI t 0)) (oF (by omega)) (aS.2 (aK (λhne=>?_) λheq=>?_))
  ·refine bA hb5.boxed aW aL rfl ⟨.inl ⟨_,rfl⟩,?_⟩;refine OD cF ?_;refine kM fK fb6 (show 2 < 5 by decide) rfl ?_;obtain ⟨h',F'⟩:=H.setPc ga gf x.a.toNat;have ea:((x.a.toNat:Nat):Int)=x.a:=by omega
   rw [ea] at h' F';refine finP (fd':=m.r.fd) ?_ h' rfl rfl rfl rfl (XF F') (by show (n6.frs.set _ _).length=_;rw [List.length_set]) rfl ?_ rfl rfl (by show n6.r=_;rw [<- r6fd]) (fd1 (by omega)).symm
   ·unfold kL bG;omega
   ·rw [e1,loc1 (by omega),List.append_nil];unfold yQ;rw [if_neg (by omega),if_pos h1,if_neg hne]
  ·refine finP (fd':=m.r.fd) ?_ H rfl rfl rfl rfl (Fr.refl _ _) rfl (f':={ m.f with st:=u,pc:=m.f.pc+1 }) (by rw [hfa];exact qS.symm) ?_ rfl rfl (by rw [<- r6fd]) (fd1 (by omega)).symm
   ·unfold kL bG;omega
   ·rw [e1,loc1 (by omega),List.append_nil];unfold yQ;rw [if_neg (by omega),if_pos h1,if_pos (Classical.not_not.1 heq)]
 refine aF.2 (aK (λh1=>?_) λn25=>?_)
 ·-- Null
  refine (rW H ga gf (by show u.length<=_;omega)).mono λ_ w' ⟨v,h',F'⟩=>finPush ?_ (by omega) (by omega) (by omega) (by omega) ?_ (aG.refl _) h' F'
  ·unfold kL bG;omega
  ·unfold jS;simp [h1]
 refine aF.2 (aK (λh1=>?_) λn35=>?_)
 ·-- Buf
  refine bA hb5.boxed aW aL rfl ?_;refine V.ok (bE underlying3 underlying21) ?_
  have ha:-2147483648<=x.a/\x.a<=2147483647:=by
   have:=hxr.2;rw [h1] at this;have h1:1<=x.a:=this.1;have h2:x.a<=2:=this.2.1;omega
  rw [show IntKind.i32.wrap x.a=x.a by simp only [IntKind.wrap_i32];omega];refine (rW H ga gf (by show u.length<=_;omega)).mono λ_ w' ⟨v,h',F'⟩=>finPush ?_ (by omega) (by omega) (by omega) (by omega) ?_ (aG.refl _) h' F'
  ·unfold kL bG;omega
  ·unfold jS;rw [if_pos (.inr h1)]
 have xbR:=H.xbox;have foR:=(H.dep .fo).now;have e33:n6.vs.length=m.r.fd.length:=by rw [foR.2,r6fd]
 have hwv:m.f.who < n6.vs.length:=by rw [e33,hfd.len];exact hwho
 obtain ⟨fv,hfv⟩:=bH (l:=n6.vs) (j:=m.f.who) hwv;have efd:m.r.fd[m.f.who]?=some (m.r.fd.getD m.f.who []):=by rw [List.getD_eq_getElem?_getD,List.getElem?_eq_getElem (by omega)];rfl
 have fdR:w6.ownsRow 0 21 1 fv (m.r.fd.getD m.f.who []).length ((m.r.fd.getD m.f.who []).map i32):=(H.dep (.fd m.f.who)).now fv _ hfv (by rw [r6fd];exact efd);have efl:(m.r.fd.getD m.f.who []).length=im.fields.length:=by rw [(hfd.row _ hwho).1,eim]
 have fol:=aB.of_own foR.1;refine aF.2 (aK (λh1=>?_) λn33=>?_)
 ·-- GetF
  have ha0:0<=x.a:=by have:=hxr.2.1;rw [h1] at this;exact this
  have hal:x.a < (im.fields.length:Int):=by unfold fP at hnm;rw [h1,hme] at hnm;exact hnm
  obtain ⟨k,hk,hkl⟩:=rX (l:=m.r.fd.getD m.f.who []) ha0 (by omega)
  have nm:∀ {c:Lq} {i:Nat},¬ fL m.fs.length c->WQ n6 c i->¬ vR a i:=λhc hi hm=>by
   rcases hm with hm|hm|hm
   ·exact hc (.inl (H.dj _ _ _ hi ⟨a,ga,hm⟩))
   ·exact hc (.inr (.inl (H.dj _ _ _ hi ⟨a,ga,hm⟩)))
   ·exact hc (.inr (.inr (H.dj _ _ _ hi ⟨a,ga,hm⟩)))
  have nL:∀ {c:Lq},(∀ j,c≠.fb j/\c≠.lv j/\c≠.sv j)->¬ fL m.fs.length c:=λhc h=>by
   rcases h with h|h|h
   ·exact (hc _).1 h
   ·exact (hc _).2.1 h
   ·exact (hc _).2.2 h
  have nmb:=nm (c:=.mb) (nL λj=>⟨(by intro e;cases e),(by intro e;cases e),(by intro e;cases e)⟩) rfl;have nxb:=nm (c:=.rm) (i:=n6.q.xb) (nL λj=>⟨(by intro e;cases e),(by intro e;cases e),(by intro e;cases e)⟩) (.inl (.inl rfl));have nfo:∀ i,n6.q.fv.ownBlock=some i->¬ vR a i:=λi hi=>nm (c:=.fo) (nL λj=>⟨(by intro e;cases e),(by intro e;cases e),(by intro e;cases e)⟩) hi;have nfd:∀ i,fv.ownBlock=some i->¬ vR a i:=λi hi=>nm (c:=.fd m.f.who) (nL λj=>⟨(by intro e;cases e),(by intro e;cases e),(by intro e;cases e)⟩) ⟨fv,hfv,hi⟩;have nb5:=nm (c:=.ex) (i:=b5) (nL λj=>⟨(by intro e;cases e),(by intro e;cases e),(by intro e;cases e)⟩) x5;refine aH.mk' (λw'=>Fr (vR a) w6 w'/\∃ cs,kV w' a.fb 0 cs/\cs[0]?=some (i64 (m.f.who:Int))) ⟨Fr.of_ext D6,_,fb6.ext D6,rfl⟩ ⟨.inl ⟨_,epn⟩,?_⟩;rw [epn];refine lE jG kR (λw' hw=>hw.1.seg H.box nmb) (u:=oZ n6.q) rfl ⟨.inl ⟨_,rfl⟩,?_⟩;refine lE cO eE (λw' hw=>hw.1.seg xbR nxb) (u:=n6.q.fv) rfl ⟨.inl ⟨_,rfl⟩,?_⟩;refine yFE cG aL (λw' hw=>hw.2) ?_;refine eY pT gX fol (λw' hw=>aB.of_own (hw.1.own foR.1 nfo)) (by omega) (by omega) (u:=fv) (by rw [Int.toNat_natCast];exact hfv) ?_;refine dT (λw' hw=>(hw.1.blk hb5 nb5).boxed) aW aL (u:=i64 x.a) rfl ?_;rw [hk];refine eY bX cE (aB.of_own fdR) (λw' hw=>aB.of_own (hw.1.own fdR nfd)) (by omega) (by omega) (u:=i32 ((m.r.fd.getD m.f.who []).getD k 0)) (by rw [Int.toNat_natCast];exact wT hkl) ?_
  refine (rW (H.ext D6) ga gf (by show u.length<=_;omega)).mono λ_ w' ⟨v,h',F'⟩=>⟨⟨(Fr.of_ext (S:=vR a) D6).trans F' λ_ _ h=>h,_,h'.fbx (a:={ a with sv:=v }) (oP ga) (oP gf),rfl⟩,?_⟩;rw [<- epn];refine finPush ?_ (by omega) (by omega) (by omega) (by omega) ?_ D6 h' F'
  ·unfold kL bG;omega
  ·unfold jS;rw [if_neg (by omega),if_neg (by omega),if_neg (by omega),if_neg (by omega),if_pos h1,hk,Int.toNat_natCast]
 refine aF.2 (aK (λh1=>?_) λn34=>?_)
 ·-- PutF
  have ha0:0<=x.a:=by have:=hxr.2.1;rw [h1] at this;exact this
  have hal:x.a < (im.fields.length:Int):=by unfold fP at hnm;rw [h1,hme] at hnm;exact hnm
  have hn1:nt=1:=by rw [eN];obtain ⟨op,xa,xb⟩:=x;have h1:op=34:=h1;subst h1;rfl
  obtain ⟨k,hk,hkl⟩:=rX (l:=m.r.fd.getD m.f.who []) ha0 (by omega);have hfl64:im.fields.length<=64:=by have h:=(hT _ (fJ hwho)).1.1;rw [eim] at h;have:=h.2;omega
  refine aH.mk' (λw'=>aG w6 w') D6 ⟨.inl ⟨_,epn⟩,?_⟩;rw [epn];refine lE jG kR (λw' hw=>H.box.ext hw) (u:=oZ n6.q) rfl ⟨.inl ⟨_,rfl⟩,?_⟩;refine lE cO eE (λw' hw=>xbR.ext hw) (u:=n6.q.fv) rfl ⟨.inl ⟨_,rfl⟩,?_⟩;refine lE cG aL (λw' hw=>fb6.ext hw) (u:=i64 (m.f.who:Int)) rfl ?_;refine gF pT gX fol (λw' hw=>hw) (by omega) (by omega) (u:=fv) (by rw [Int.toNat_natCast];exact hfv) ?_;refine aBk λw7 hb7 x7=>?_;have x67:=D6.trans x7;refine ⟨x67,?_⟩;have s7:=x7.size;have sD:=D6.size;have l7:=hb7.lt;refine DG underlying37 mC rfl hb7 ((aB.of_own fdR).ext x67) (List.all_eq_true.2 λv hv=>by obtain ⟨x,_,rfl⟩:=List.mem_map.1 hv;rfl) (by omega) (by decide) λv8 w8 ho8 F8 hv8=>?_;have x68:aG w6 w8:=F8.ext x67 λi hi=>by omega
  refine ⟨x68,?_⟩
  have hv8':∀ i,v8.ownBlock=some i->w6.heap.size<=i:=λi hi=>by
   rcases hv8 with e|e<;>(rw [e] at hi;cases hi;omega)
  have D8:aG w8 w8.drew:=(aG.refl _).drew;refine aH.mk' (λw'=>aG w8 w') D8 ?_;refine dT (λw' hw=>((hb5.ext x68).ext hw).boxed) aW aL (u:=i64 x.a) rfl ?_;rw [hk];refine gF bX cE (hrow.ext x68) (λw' hw=>hw) (by omega) (by omega) (u:=i32 (bI t 0)) (oF (by omega)) ?_;refine aDb bX mC (D8.own ho8) hkl rfl λw9 ho9 hg9=>?_;have F9:Fr (λi=>v8.ownBlock=some i) w8.drew w9:=Fr.of_grown hg9 λk hk=>hk;have x69:aG w6 w9:=F9.ext (x68.trans D8) λi hi=>hv8' i hi;have H9:=H.ext x69;have D9:aG w9 w9.drew:=(aG.refl _).drew;have x6a:=x69.trans D9;refine aH.mk' (λw'=>aG w9 w') D9 ⟨.inl ⟨_,rfl⟩,?_⟩;refine lE jG kR (λw' hw=>H9.box.ext hw) (u:=oZ n6.q) rfl ⟨.inl ⟨_,rfl⟩,?_⟩;refine lE cO eE (λw' hw=>H9.xbox.ext hw) (u:=n6.q.fv) rfl ⟨.inl ⟨_,rfl⟩,?_⟩;refine lE cG aL (λw' hw=>(H9.fbx ga gf).ext hw) (u:=i64 (m.f.who:Int)) rfl ?_;refine aDb pT qG (x6a.own foR.1) hwv (bM ho9) λw10 ho10 hg10=>?_;have F10:Fr (λi=>n6.q.fv.ownBlock=some i) w9.drew w10:=Fr.of_grown hg10 λk hk=>hk;have F6a:Fr (λi=>n6.q.fv.ownBlock=some i) w6 w10:=(Fr.of_ext (S:=λi=>n6.q.fv.ownBlock=some i) x6a).trans F10 λ_ _ h=>h
  have row10:w10.ownsRow 0 21 1 v8 ((m.r.fd.getD m.f.who []).set k (bI t 0)).length (((m.r.fd.getD m.f.who []).set k (bI t 0)).map i32):=by
   rw [List.length_set,List.map_set];exact F10.own (D9.own ho9) λi hi hf=>by have:=hv8' i hi;have:=H.lt .fo i hf;omega
  have h':=H.setFd hwv F6a ho10 row10 hv8';rw [<- epn];refine finP (f':={ m.f with st:=u,pc:=m.f.pc+1 }) ?_ h' rfl rfl rfl rfl (F6a.mono λi hi=>H.exL (c:=.fo) (by intro e;cases e) (by intro e;cases e) hi) rfl (by show n6.fa=_;rw [hfa];exact qS.symm) ?_ rfl rfl rfl ?_
  ·unfold kL bG;omega
  ·have e1:=nopush (by omega);rw [e1,pc1 (by omega) (by omega),loc1 (by omega),List.append_nil]
  ·unfold WC;rw [if_pos h1,r6fd,hk,Int.toNat_natCast]
 refine ⟨λv w'=>v=.bool (decide (x.op=37\/x.op=38))/\w'=w6,?_,?_⟩
 ·by_cases h37:x.op=37
  ·simp only [aF,h37,decide_true,aE];exact ⟨by first|rfl|trivial,by first|rfl|trivial⟩
  ·simp only [aF,h37,decide_false,aA,false_or];exact ⟨by first|rfl|trivial,by first|rfl|trivial⟩
 rintro _ w7 ⟨rfl,hw⟩ _;have hw:=hw.symm;subst hw;have hfal:n6.fa.length=n6.frs.length:=by rw [hfa,hlen];simp
 refine aK (λh1=>?_) λn37=>?_
 ·have eD:fR (fT pl) m=match mK (fT pl) m.f x with
   | none=>.fin 28424 (m.fs.length+1) (m.fuel - 1) ((m.r.ev (iO (fT pl) m.f)).ends 28424)
   | some q=>if 8<=m.fs.length+1 then .fin 28422 (m.fs.length+1) (m.fuel - 1) ((m.r.ev (iO (fT pl) m.f)).ends 28422) else .run ⟨{ m.f with st:=u,pc:=m.f.pc+1 }::m.fs,jI (fT pl) q.1 q.2 t,m.fuel - 1,m.r.ev (iO (fT pl) m.f)⟩:=by
   rw [eS];unfold tG;rw [if_neg (by omega),if_pos h1];rfl
  have bad:∀ {w0:Ω} {s:Int},aG w6 w0->fR (fT pl) m=.fin s (m.fs.length+1) (m.fuel - 1) ((m.r.ev (iO (fT pl) m.f)).ends s) ->
    Go.Vc.aI (pq a)/\V prog (Instr.fieldAt 141 (pq a) 2) w0 λv w1=>U prog (Instr.storeAt 3 v (i64 (m.f.pc:Int))) w1 λ_ w2=>aC prog 60 #[pn n,i64 s] w2 λ_ w3=>Go.Vc.aI (pn n)/\V prog (Instr.fieldAt 64 (pn n) 2) w3 λa w1=>V prog (Instr.loadAt 3 a) w1 λb w2=>R b w2:=by
   intro w0 s x0 he;have H0:=H.ext x0;refine ⟨.inl ⟨_,rfl⟩,?_⟩;refine OD cF ?_;refine kM fK (H0.fbx ga gf) (show 2 < 5 by decide) rfl ?_;obtain ⟨h',F'⟩:=H0.setPc ga gf m.f.pc;generalize w0.setCell ⟨a.fb,0+2,none⟩ (i64 (m.f.pc:Int))=w1 at *;have e:pn n=pn (n6.stk m.fs.length a { m.f with st:=u,pc:=m.f.pc }):=epn;rw [e];refine (RN h' (by show n6.r.ps.tr.length<=_;omega) (s:=s)).mono λ_ w3 ⟨q',h3,e3,F3⟩=>?_;rw [<- e];have G1:=(Fr.of_ext (S:=λi=>¬ n6.XI i) x0).trans (F'.mono λi hi=>H0.exF ga i hi) λ_ _ h=>h;refine finE he h3 rfl rfl rfl e3 (G1.trans F3 λ_ _ h=>h) ⟨?_,?_,rfl,?_⟩
   ·show (n6.frs.set _ _).length=_;rw [List.length_set];exact hlen
   ·show n6.fu=_;exact hfu
   ·show n6.r.ends s=_;rw [hr6]
  refine ⟨.inl ⟨_,rfl⟩,?_⟩;refine gC cG aL fb6 (u:=i64 (m.f.who:Int)) rfl ?_;refine bA hb5.boxed aW aL rfl ?_;refine ⟨λv2 v3 w'=>∃ q,mK (fT pl) m.f x=some q/\v2=i64 (q.1:Int)/\v3=i64 (q.2:Int)/\aG w6 w',?_,?_⟩
  ·refine bA hb5.boxed bK aL rfl (aF.2 (aK (λh38=>?_) λn38=>?_))
   ·have ha0:0<=x.a:=by have:=hxr.2.1;rw [h38] at this;exact this
    have hal:x.a < ((im.imports.length:Nat):Int):=by unfold fP at hnm;rw [h38,hme] at hnm;exact hnm
    obtain ⟨k,hk⟩:∃ k:Nat,x.a=k:=⟨x.a.toNat,by omega⟩;have hkl:k < (aP (fT pl) m.f.who).imports.length:=by rw [eim];omega
    refine aH.mk' (λw'=>aG w6 w') D6 ⟨.inl ⟨_,epn⟩,?_⟩;rw [epn];refine lE jG kR (λw' hw=>H.box.ext hw) (u:=oZ n6.q) rfl ⟨.inl ⟨_,rfl⟩,?_⟩;refine lE cP iK (λw' hw=>xbR.ext hw) (u:=n6.q.iv) rfl ⟨.inl ⟨_,rfl⟩,?_⟩;refine lE cG aL (λw' hw=>fb6.ext hw) (u:=i64 (m.f.who:Int)) rfl ?_;refine dT (λw' hw=>(hb5.ext hw).boxed) aW aL (u:=i64 x.a) rfl ?_;rw [hk];have hll':(fT pl).length<=1000:=by simpa using hll
    refine (YO ((H.ext D6).dep .im).now.are hT hll' hwho hkl).mono λrv w8 ⟨hrv,x8⟩=>?_;have x68:=D6.trans x8;have eq38:mK (fT pl) m.f x=iT (fT pl) m.f.who (k:Int):=by unfold mK;rw [if_neg (by omega),hk]
    refine ⟨x68,?_⟩;rw [<- epn];cases hq:iT (fT pl) m.f.who (k:Int) with
    | none=>
     rw [hq] at hrv;subst hrv;refine aD.ok (λw' _=>CD) (aD.ok (λw' _=>CC) (aD.ok (λw' _=>CB) (fN.2 (aE.2 ?_))));exact bad x68 (by rw [eD,eq38,hq])
    | some z=>
     rw [hq] at hrv;subst hrv;refine aD.ok (λw' _=>CD) (aD.ok (λw' _=>CC) (aD.ok (λw' _=>CB) (fN.2 (aA.2 ?_))));exact ⟨z,eq38.trans hq,rfl,rfl,x68⟩
   ·have h37:x.op=37:=by omega
    have ha0:0<=x.a:=by have:=hxr.2.1;rw [h37] at this;exact this
    exact ⟨(m.f.who,x.a.toNat),by unfold mK;rw [if_pos h37],rfl,by rw [show ((x.a.toNat:Nat):Int)=x.a by omega],aG.refl _⟩
  rintro _ _ w8 ⟨⟨to,mth⟩,hq,rfl,rfl,x8⟩ _;rw [hq] at eD;dsimp only at eD;have H8:=H.ext x8;refine ⟨.inl ⟨_,epn⟩,?_⟩;rw [epn];refine gC eU mS H8.box (u:=.slice (some ⟨n6.fg,0,none⟩) n6.frs.length n6.fcap) rfl (ES.2 (kU.2 (aK (λhge=>?_) λhlt=>?_)))
  ·rw [<- epn];exact bad x8 (by rw [eD,if_pos (by omega)])
  rw [if_neg (by omega)] at eD
  have key:to < (fT pl).length/\mth < (aP (fT pl) to).methods.length/\nt=((aP (fT pl) to).meth mth).params.length:=by
   rw [eN];unfold mK at hq;obtain ⟨op,xa,xb⟩:=x;dsimp only at h1 hq;rcases h1 with rfl|rfl
   ·rw [if_pos rfl] at hq;cases hq;have ha:0<=xa:=hxr.2.1;have hn:xa < ((m.f.img (fT pl)).methods.length:Int):=hnm;have e:((xa.toNat:Nat):Int)=xa:=by omega
    refine ⟨hwho,by have:m.f.img (fT pl)=aP (fT pl) m.f.who:=rfl;rw [this] at hn;omega,?_⟩;simp only [e];rfl
   ·rw [if_neg (by decide)] at hq;have ha:0<=xa:=hxr.2.1;have hn:xa < ((m.f.img (fT pl)).imports.length:Int):=hnm;obtain ⟨r1,r2,r3,_⟩:=uB hT hwho ha hn hq;refine ⟨r1,r2,?_⟩;rw [r3];rfl
  obtain ⟨k1,k2,k3⟩:=key;have D8:aG w8 w8.drew:=(aG.refl _).drew;have nfg:∀ {c:Lq} {i:Nat},c≠.fg->WQ n6 c i->¬ i=n6.fg:=λhc hi he=>hc (H8.dj _ _ _ hi he);have nmb:=nfg (c:=.mb) (i:=n6.mb) (by intro e;cases e) rfl;refine aH.mk' (λw'=>Fr (λi=>i=n6.fg) w8 w') (Fr.of_ext D8) ⟨.inl ⟨_,rfl⟩,?_⟩;refine lE eU mS (λw' hw=>hw.seg H8.box nmb) (u:=.slice (some ⟨n6.fg,0,none⟩) n6.frs.length n6.fcap) rfl ⟨.inl ⟨_,rfl⟩,?_⟩;refine lE jG kR (λw' hw=>hw.seg H8.box nmb) (u:=oZ n6.q) rfl ?_;have hD:=H8.ext D8;refine (ZT hT hD.xbox (hD.dep .im).now.are k1 k2 (pv:=v1) (t:=t) (by rw [htl];exact hrow.ext (x8.trans D8)) (by rw [htl];exact k3)).mono λrv w9 ⟨a9,hrv,c1,c2,c3,c4,c5,x9⟩=>?_;subst hrv;have x89:=D8.trans x9;refine ⟨Fr.of_ext x89,?_⟩;refine aTo λw10 hb10 x10=>?_;have x8a:=x89.trans x10;refine ⟨Fr.of_ext x8a,?_⟩;have Ha:=H8.ext x8a;have s8:=D8.size;have s9:=x9.size;have s10:=x10.size;have l10:=hb10.lt;have ho10:w10.ownsRow 0 135 1 (.slice (some ⟨w9.heap.size,0,none⟩) 1 1) 1 [pq a9]:=eC hb10 rfl (Nat.zero_le _) (by unfold maxLen;omega);have hrA:=(Ha.dep .fg).now;refine apL aRy hrA ho10 (by decide) (by rfl) (by omega) (by unfold maxLen;omega) (Nat.zero_le _) λg' cap' w11 ho11 hg11 hlies=>?_;have F11:Fr (λi=>i=n6.fg) w10 w11:=Fr.of_grown hg11 λk hk=>by simpa [Value.ownBlock] using hk.symm
  have F8b:Fr (λi=>i=n6.fg) w8 w11:=(Fr.of_ext (S:=λi=>i=n6.fg) x8a).trans F11 λ_ _ h=>h;refine ⟨F8b,.inl ⟨_,rfl⟩,?_⟩;refine XK eU ?_;refine kM aAl (F8b.seg H8.box nmb) (show 1 < 5 by decide) rfl ?_;have fgl:=H8.lt .fg n6.fg rfl;have q9:∀ i,vR a9 i->w8.heap.size<=i:=λi hi=>by have:=c4 i hi;omega
  have l9:∀ i,vR a9 i->i < w10.heap.size:=λi hi=>by
   rcases hi with hi|hi|hi
   ·rw [hi];have:=c1.lt;omega
   ·have:=(c2.lt i hi).2;omega
   ·rw [c3] at hi;cases hi
  have n9:∀ i,vR a9 i->¬ i=n6.fg:=λi hi e=>by have:=q9 i hi;omega
  obtain ⟨h',F'⟩:=H8.addFr (a:=a9) (f:=jI (fT pl) to mth t) hfal F8b (F11.seg (c1.ext x10) (n9 _ (.inl rfl))) (F11.own (x10.own c2) λi hi=>n9 i (.inr (.inl hi))) c3 rfl q9 c5 (by simpa using ho11) (by
   rcases hlies with e|e
   ·exact .inl (by simpa [Value.ownBlock] using e.symm)
   ·exact .inr ⟨by omega,λhm=>by have:=l9 _ hm;omega⟩)
  rw [<- epn];refine fin eD h' rfl rfl rfl rfl ((Fr.of_ext (S:=λi=>¬ n6.XI i) x8).trans (F'.mono λi hi=>?_) λ_ _ h=>h) ⟨?_,hfu,hst,hr6,?_⟩
  ·rcases hi with hi|hi
   ·exact H8.exL (c:=.fg) (by intro e;cases e) (by intro e;cases e) hi
   ·exact H8.exM i hi
  ·show n6.fa++[_]=_;rw [hfa];simp
  ·show (n6.frs++[_]).length=_;simp [hlen]
 refine aF.2 (aK (λh1=>?_) λn39=>?_)
 ·-- Ret
  have hnr:nt=(jP (m.f.me (fT pl)).result).length:=by
   rw [eN];unfold bC;simp only [h1,jB,Int.reduceEq,or_self,Int.reduceLE,and_false,if_false,if_true]
  have hrA:=(H.dep .fg).now;have hcap:=QU hrA;refine aH.mk' (λw'=>aG w6 w') D6 ⟨.inl ⟨_,epn⟩,?_⟩;rw [epn];refine lE eU mS (λw' hw=>H.box.ext hw) (u:=.slice (some ⟨n6.fg,0,none⟩) n6.frs.length n6.fcap) rfl ⟨.inl ⟨_,rfl⟩,?_⟩;refine lE eU mS (λw' hw=>H.box.ext hw) (u:=.slice (some ⟨n6.fg,0,none⟩) n6.frs.length n6.fcap) rfl ?_;refine aD.ok (λw' _=>jR underlying61) ?_;refine aD.ok (λw' _=>mB) ?_;rw [show IntKind.i64.wrap (((n6.frs.length:Nat):Int) - 1)=(m.fs.length:Int) from by rw [aX (by omega)];omega];refine aD.ok (λw' _=>QI underlying61 NO (by omega) hcap) ⟨.inl ⟨_,rfl⟩,?_⟩;refine XK eU ?_;refine kM aAl (H.ext D6).box (show 1 < 5 by decide) rfl ?_;obtain ⟨h7,F7⟩:=(H.ext D6).popFr hlen;have F7:Fr (λi=>¬ n6.XI i) w6 (w6.drew.setCell ⟨n6.mb,0+1,none⟩ (.slice (some ⟨n6.fg,0,none⟩) m.fs.length n6.fcap)):=(Fr.of_ext (S:=λi=>¬ n6.XI i) D6).trans (F7.mono λi hi=>H.exM i hi) λ_ _ h=>h;generalize w6.drew.setCell ⟨n6.mb,0+1,none⟩ (.slice (some ⟨n6.fg,0,none⟩) m.fs.length n6.fcap)=w7 at *;have hfr7:(n6.frs.take m.fs.length).length=m.fs.length:=by simp;omega
  have hfa7:n6.fa.take m.fs.length=m.fs.reverse:=by rw [hfa,List.reverse_cons,List.take_left' (by simp)]
  refine ⟨.inl ⟨_,rfl⟩,?_⟩;refine gC eU mS h7.box (u:=.slice (some ⟨n6.fg,0,none⟩) (n6.frs.take m.fs.length).length n6.fcap) rfl (ES.2 (aF.2 ?_));rw [hfr7];cases hfs:m.fs with
  | nil=>
   refine aK (λ_=>?_) λhn=>absurd rfl hn
   have eD:fR (fT pl) m=.fin 36864 0 (m.fuel - 1) ((m.r.ev (iO (fT pl) m.f)).ends 36864):=by
    rw [eS];unfold tG;rw [if_pos h1,hfs]
   have e:Value.pointer (some ⟨n6.mb,0,none⟩)=pn { n6 with frs:=n6.frs.take m.fs.length,fa:=n6.fa.take m.fs.length }:=rfl;rw [e];refine (RN h7 (by show n6.r.ps.tr.length<=_;omega) (s:=36864)).mono λ_ w8 ⟨q',h8,e8,F8⟩=>?_;rw [<- e,<- epn];refine finE eD h8 rfl rfl rfl e8 (F7.trans F8 λ_ _ h=>h) ⟨?_,hfu,rfl,?_⟩
   ·show (n6.frs.take m.fs.length).length=0;rw [hfr7,hfs];rfl
   ·show n6.r.ends _=_;rw [hr6]
  | cons g gs=>
   refine aK (λhz=>?_) λ_=>?_
   ·exact absurd hz (by simp;omega)
   have eD:fR (fT pl) m=.run ⟨gs,{ g with st:=g.st++t },m.fuel - 1,m.r.ev (iO (fT pl) m.f)⟩:=by
    rw [eS];unfold tG;rw [if_pos h1,hfs]
   have hfsl:m.fs.length=gs.length+1:=by rw [hfs];rfl
   have hg8:g.st.length<=8:=by
    have:=hok.ch;rw [hfs] at this;obtain ⟨K,hK,hl⟩:=this.1.rch;have hr:=this.1.rt hT;obtain ⟨_,_,_,g4,_⟩:=hK.go hr.1 hr.2.1;omega
   obtain ⟨a7,ga7⟩:=bH (l:=n6.frs.take m.fs.length) (j:=gs.length) (by omega);have gf7:(n6.fa.take m.fs.length)[gs.length]?=some g:=by rw [hfa7,hfs,List.reverse_cons,List.getElem?_append_right (by simp)];simp
   refine dR.2 (aK (λhgt=>?_) λhle=>?_)
   ·have hn1:nt=1:=by
     rw [hnr];have:nt≠0:=by omega
     rw [hnr] at this;unfold jP at *;split at this
     ·exact absurd rfl this
     ·rw [if_neg ‹_›];rfl
    have et:t=[bI t 0]:=by
     obtain ⟨z,hz⟩:=List.length_eq_one_iff.1 (htl.trans hn1);rw [hz];rfl
    have D7:aG w7 w7.drew:=(aG.refl _).drew;refine aH.mk' (λw'=>aG w7 w') D7 ⟨.inl ⟨_,rfl⟩,?_⟩;refine lE eU mS (λw' hw=>h7.box.ext hw) (u:=.slice (some ⟨n6.fg,0,none⟩) (n6.frs.take m.fs.length).length n6.fcap) rfl ⟨.inl ⟨_,rfl⟩,?_⟩;refine lE eU mS (λw' hw=>h7.box.ext hw) (u:=.slice (some ⟨n6.fg,0,none⟩) (n6.frs.take m.fs.length).length n6.fcap) rfl ?_;refine aD.ok (λw' _=>jR underlying61) ?_;refine aD.ok (λw' _=>mB) ?_;rw [hfr7,hfsl,show IntKind.i64.wrap (((gs.length+1:Nat):Int) - 1)=(gs.length:Int) from by rw [aX (by omega)];omega,<- hfsl];have hr7:w7.ownsRow 0 135 1 (.slice (some ⟨n6.fg,0,none⟩) (n6.frs.take m.fs.length).length n6.fcap) (n6.frs.take m.fs.length).length ((n6.frs.take m.fs.length).map pq):=(h7.dep .fg).now;rw [hfr7] at hr7;refine gF XM jJ (aB.of_own hr7) (λw' hw=>hw) (by omega) (by omega) (u:=pq a7) (by rw [Int.toNat_natCast,List.getElem?_map,ga7];rfl) ?_;have h7':=h7.ext D7;have row7:=D7.own (F7.own row λi hi=>nX (x1 i hi));have fb7:=h7'.fbx ga7 gf7;have st7:w7.drew.ownsRow 0 21 1 a7.sv g.st.length (g.st.map i32):=h7'.sta ga7 gf7;have D8:aG w7.drew w7.drew.drew:=(aG.refl _).drew;generalize w7.drew=w8 at *;refine aH.mk' (λw'=>aG w8 w') D8 ⟨.inl ⟨_,rfl⟩,?_⟩;refine lE cD gX (λw' hw=>fb7.ext hw) (u:=a7.sv) rfl ?_;refine gF bX cE (aB.of_own row7) (λw' hw=>hw) (by omega) (by omega) (u:=i32 (bI t 0)) (oF (by omega)) ?_
    have one32:∀ l:List Int,(l.map i32).all cB=true:=λl=>List.all_eq_true.2 λv hv=>by obtain ⟨x,_,rfl⟩:=List.mem_map.1 hv;rfl
    have last:∀ {v9:O} {b9:Nat} {w9:Ω},aG w8 w9->w9.ownsRow 0 21 1 v9 g.st.length (g.st.map i32)->(∀ i,v9.ownBlock=some i->w8.heap.size<=i)->bD w9 b9 [i32 (bI t 0)] 21 ->
      V prog (Builtin.append_ #[37,37] 37 #[v9,.slice (some ⟨b9,0,none⟩) 1 1]) w9 λv10 w10=>aG w8 w10/\Go.Vc.aI (pq a7)/\aD prog (λw'=>aG w8 w') (Instr.fieldAt 141 (pq a7) 4) λq=>U prog (Instr.storeAt 37 q v10) w10 λ_ w11=>Go.Vc.aI (pn n)/\V prog (Instr.fieldAt 64 (pn n) 2) w11 λa w1=>V prog (Instr.loadAt 3 a) w1 λb w2=>R b w2:=by
     intro v9 b9 w9 x89 ho9 hv9 hb9;have ho1:w9.ownsRow 0 21 1 (.slice (some ⟨b9,0,none⟩) 1 1) 1 [i32 (bI t 0)]:=eC hb9 rfl (Nat.zero_le _) (by unfold maxLen;omega);refine apL uQ ho9 ho1 (by decide) (by rfl) (by omega) (by unfold maxLen;omega) (Nat.zero_le _) λg' cap' w10 ho10 hg10 hlies=>?_;have F10:Fr (λi=>v9.ownBlock=some i) w9 w10:=Fr.of_grown hg10 λk hk=>hk;have x8a:aG w8 w10:=F10.ext x89 λi hi=>hv9 i hi;refine ⟨x8a,.inl ⟨_,rfl⟩,?_⟩;refine XK cD ?_;refine kM qG (fb7.ext x8a) (show 4 < 5 by decide) rfl ?_;have s9:=x89.size
     obtain ⟨h',F'⟩:=h7'.setSv ga7 gf7 (v:=.slice (some ⟨g',0,none⟩) (g.st.length+1) cap') (st:=g.st++[bI t 0]) (Fr.of_ext x8a) (by simpa using ho10) λi hi=>by
      have:g'=i:=by simpa [Value.ownBlock] using hi
      subst this;rcases hlies with e|e
      ·exact .inr (hv9 _ e)
      ·exact .inr (by omega)
     refine fin eD h' rfl rfl rfl rfl ((F7.trans (Fr.of_ext (S:=λi=>¬ n6.XI i) D7) λ_ _ h=>h).trans (F'.mono λi hi=>h7'.exF ga7 i hi) λ_ _ h=>h) ⟨?_,hfu,hst,hr6,?_⟩
     ·show (n6.fa.take m.fs.length).set gs.length _=_;rw [hfa7,hfs,et];exact qS
     ·show ((n6.frs.take m.fs.length).set _ _).length=_;rw [List.length_set,hfr7,hfsl]
    rw [<- epn];have s8:=D8.size;refine ⟨aBk λw9 hb9 x9=>?_,OL λw9 hb9 x9=>?_⟩
    ·have x89:=D8.trans x9;have s9:=x9.size;have l9:=hb9.lt;refine ⟨x89,?_,?_⟩
     ·refine DG underlying37 mC rfl hb9 ((aB.of_own st7).ext x89) (one32 _) (by omega) (by decide) λv10 w10 ho10 F10 hv10=>?_;have x8a:aG w8 w10:=F10.ext x89 λi hi=>by omega
      refine ⟨x8a,OL λw11 hb11 x11=>?_⟩;have x8b:=x8a.trans x11;exact ⟨x8b,last x8b (x11.own ho10) (λi hi=>by rcases hv10 with e|e<;>(rw [e] at hi;cases hi;omega)) hb11⟩
     ·refine OL λw10 hb10 x10=>?_;have x8a:=x89.trans x10;have s10:=x10.size;have l10:=hb10.lt;refine ⟨x8a,?_⟩;refine DG underlying37 mC rfl (hb9.ext x10) ((aB.of_own st7).ext x8a) (one32 _) (by omega) (by decide) λv11 w11 ho11 F11 hv11=>?_;have x8b:aG w8 w11:=F11.ext x8a λi hi=>by omega
      exact ⟨x8b,last x8b ho11 (λi hi=>by rcases hv11 with e|e<;>(rw [e] at hi;cases hi;omega)) (F11.blk hb10 (by omega))⟩
    ·have x89:=D8.trans x9;have s9:=x9.size;have l9:=hb9.lt;refine ⟨x89,aBk λw10 hb10 x10=>?_⟩;have x8a:=x89.trans x10;have s10:=x10.size;have l10:=hb10.lt;refine ⟨x8a,?_⟩;refine DG underlying37 mC rfl hb10 ((aB.of_own st7).ext x8a) (one32 _) (by omega) (by decide) λv11 w11 ho11 F11 hv11=>?_;have x8b:aG w8 w11:=F11.ext x8a λi hi=>by omega
     exact ⟨x8b,last x8b ho11 (λi hi=>by rcases hv11 with e|e<;>(rw [e] at hi;cases hi;omega)) (F11.blk (hb9.ext x10) (by omega))⟩
   ·have ht0:t=[]:=List.eq_nil_of_length_eq_zero (by rw [htl];omega);rw [<- epn];refine fin eD h7 rfl rfl rfl rfl F7 ⟨?_,hfu,hst,hr6,?_⟩
    ·show n6.fa.take m.fs.length=_;rw [hfa7,hfs,ht0,List.append_nil]
    ·show (n6.frs.take m.fs.length).length=_;rw [hfr7,hfsl]
 refine bA hb5.boxed bK aL rfl ?_;by_cases hs:bG x.op
 ·-- served
  have hNs:nt=oM x.op:=by rw [eN];exact uW hs
  have htN:t.length=oM x.op:=htl.trans hNs;refine (MO hs).mono λrv w7 ⟨hrv,hw⟩=>?_;subst hrv;have hw:=hw.symm;subst hw;refine aV.2 (aK (λhneg=>?_) λ_=>?_)
  ·exact absurd hneg (by omega)
  have hag:=wN hxr hs (m.f.who:Int) htN ht32;have nb:∀ {c:Lq} {i:Nat},c≠.rm->WQ n6 c i->¬ nG n6.q i:=λhc hi hm=>H.no hi (b:=.rm) (.inl hm) hc;have nmb:=nb (c:=.mb) (i:=n6.mb) (by intro e;cases e) rfl;have nfb:=nb (c:=.fb m.fs.length) (i:=a.fb) (by intro e;cases e) ⟨a,ga,rfl⟩;have nx5:=nb (c:=.ex) (i:=b5) (by intro e;cases e) x5;have nx4:=nb (c:=.ex) (i:=b4) (by intro e;cases e) x4;refine aH.mk' (λw'=>Fr (nG n6.q) w6 w') (Fr.of_ext D6) ⟨.inl ⟨_,epn⟩,?_⟩;rw [epn];refine lE jG kR (λw' hw=>hw.seg H.box nmb) (u:=oZ n6.q) rfl ⟨.inl ⟨_,rfl⟩,?_⟩;refine lE kT tQ (λw' hw=>hw.seg H.box nmb) (u:=ubT n6.q) rfl ⟨.inl ⟨_,rfl⟩,?_⟩;refine lE cG aL (λw' hw=>hw.seg fb6 nfb) (u:=i64 (m.f.who:Int)) rfl ?_;refine dT (λw' hw=>(hw.blk hb5 nx5).boxed) bK aL (u:=i64 x.op) rfl ?_;refine dT (λw' hw=>(hw.blk hb5 nx5).boxed) aW aL (u:=i64 x.a) rfl ?_;refine dT (λw' hw=>(hw.blk hb5 nx5).boxed) oR aL (u:=i64 x.b) rfl ?_;have qtr:n6.q.tr.length<=99000:=by have:=congrArg (λs=>s.tr.length) H.ps;simp only [QP.ps] at this;omega
  have qok:∀ x∈n6.q.ps.ar,qD x.data:=by rw [H.ps,hr6];exact h8k
  have HD:=H.ext D6;refine (hag.ref HD.ref qtr qok λw' hw=>?_).mono λrv w7 ⟨q',hrv,hq,hR7,s7⟩=>?_
  ·rw [<- hNs];exact aB.of_own (hw.own (D6.own row) λi hi hm=>H.no (a:=.rm) (b:=.ex) (.inl hm) (x1 i hi) (by intro e;cases e))
  rw [H.ps] at hq hrv;subst hrv;have e6ps:n6.r.ps=(m.r.ev (iO (fT pl) m.f)).ps:=by rw [hr6]
  have F67:Fr (nG n6.q) w6 w7:=(Fr.of_ext (S:=nG n6.q) D6).trans s7.fr λ_ _ h=>h;have FX:Fr (λi=>¬ n6.XI i) w6 w7:=F67.mono λi hi=>H.exR i hi;have h7:=HD.room (r':={ n6.r with ps:=(dK n6.r.ps (m.f.who:Int) x t).2.2 }) hR7 s7 hq rfl;refine ⟨F67,aD.ok (λw' _=>iQ) (aD.ok (λw' _=>iP) (aS.2 ?_))⟩;rw [<- epn]
  have eD:fR (fT pl) m=if (dK n6.r.ps m.f.who x t).2.1=36864 then .run ⟨m.fs,{ m.f with st:=u++(if iR x.op then [] else [(dK n6.r.ps m.f.who x t).1]),pc:=m.f.pc+1 },m.fuel - 1,{ n6.r with ps:=(dK n6.r.ps m.f.who x t).2.2 }⟩
   else .fin (dK n6.r.ps m.f.who x t).2.1 (m.fs.length+1) (m.fuel - 1) (Rm.ends { n6.r with ps:=(dK n6.r.ps m.f.who x t).2.2 } (dK n6.r.ps m.f.who x t).2.1):=by
   rw [eS,hr6];unfold tG;rw [if_neg n39,if_neg n37,if_pos hs]
  generalize hS:dK n6.r.ps (m.f.who:Int) x t=S at *;have str:S.2.2.tr.length<=100000:=by have h:=BL (s:=n6.r.ps) (who:=(m.f.who:Int)) (x:=x) (t:=t);rw [hS] at h;omega
  refine aK (λhne=>?_) λheq=>?_
  ·rw [if_neg hne] at eD;have e:pn n=pn { n6 with q:=q',r:={ n6.r with ps:=S.2.2 } }:=epn;rw [e];refine (RN h7 str (s:=S.2.1)).mono λ_ w8 ⟨q2,h8,e8,F8⟩=>?_;rw [<- e];exact finE eD h8 rfl rfl rfl (e8.trans s7.xb) (FX.trans F8 λ_ _ h=>h) ⟨hlen,hfu,rfl,rfl⟩
  ·rw [if_pos (Classical.not_not.1 heq)] at eD;have hb4:=F67.blk hb4 nx4;have hb5:=F67.blk hb5 nx5;refine qO hb4.boxed kQ rfl (qO hb5.boxed pR rfl ?_);have hA7:iG w7 p im:=((h7.dep .im).now.choose_spec.2 m.f.who _ hpl).2;rw [hme] at hokx;refine (aNe hA7 hokx).mono λrv w8 ⟨hrv,x8⟩=>?_;subst hrv;have hgs:=yG (i:=im) (me:=m.f.me (fT pl)) hs;have h8':=h7.ext x8;have ga8:({ n6 with q:=q',r:={ n6.r with ps:=S.2.2 } }:QN).frs[m.fs.length]?=some a:=ga;have gf8:({ n6 with q:=q',r:={ n6.r with ps:=S.2.2 } }:QN).fa[m.fs.length]?=some { m.f with st:=u,pc:=m.f.pc+1 }:=gf;refine dR.2 (aK (λhp=>?_) λhz=>?_)
   ·have ns0:¬ iR x.op:=λh=>by rw [if_pos h] at hgs;omega
    rw [if_neg ns0] at eD;refine (rW h8' ga8 gf8 (by show u.length<=_;omega)).mono λ_ w9 ⟨v,h9,F9⟩=>?_;refine fin eD h9 rfl rfl rfl s7.xb ((FX.trans (Fr.of_ext (S:=λi=>¬ n6.XI i) x8) λ_ _ h=>h).trans (F9.mono λi hi=>h8'.exF ga8 i hi) λ_ _ h=>h) ⟨?_,hfu,hst,rfl,?_⟩
    ·show n6.fa.set _ _=_;rw [hfa];exact qS
    ·show (n6.frs.set _ _).length=_;rw [List.length_set];exact hlen
   ·have s0:iR x.op:=Classical.byContradiction λh=>by rw [if_neg h] at hgs;omega
    rw [if_pos s0,List.append_nil] at eD;exact fin eD h8' rfl rfl rfl s7.xb (FX.trans (Fr.of_ext (S:=λi=>¬ n6.XI i) x8) λ_ _ h=>h) ⟨hfa,hfu,hst,rfl,hlen⟩
 ·-- two numbers
  refine (UR hs).mono λrv w7 ⟨hrv,hw⟩=>?_;subst hrv;have hw:=hw.symm;subst hw;refine aV.2 (aK (λ_=>?_) λhneg=>?_)
  ·have hs':=hs;unfold bG at hs'
   have hbin:jB x.op:=by
    rcases hop with h|h|h|h|h|h|h|h|h|h|h|h|h|h|h|h|h|h|h|h|h|h|h|h|h|h|h|h<;>first|exact h|omega
   have hn2:nt=2:=by
    rw [eN];obtain ⟨op,xa,xb⟩:=x;have hb:=wG (op:=op) hbin;rcases hb with rfl|rfl|rfl|rfl|rfl|rfl|rfl|rfl|rfl|rfl|rfl|rfl<;>rfl
   refine aH.mk' (λw'=>aG w6 w') D6 ?_;refine dT (λw' hw=>(hb5.ext hw).boxed) bK aL (u:=i64 x.op) rfl ?_;refine gF bX cE hrow (λw' hw=>hw) (by omega) (by omega) (u:=i32 (bI t 0)) (oF (by omega)) ?_;refine gF bX cE hrow (λw' hw=>hw) (by omega) (by omega) (u:=i32 (bI t 1)) (oF (by omega)) ?_;refine (aNr hbin (sC ht32 0) (sC ht32 1)).mono λrv w7 ⟨hrv,hw⟩=>?_;subst hrv;have hw:=hw.symm;subst hw;refine ⟨D6,?_⟩;refine (rW (H.ext D6) ga gf (by show u.length<=_;omega)).mono λ_ w' ⟨v,h',F'⟩=>finPush ⟨by omega,by omega,n39,hs⟩ (by omega) (by omega) (by omega) (by omega) ?_ D6 h' F';unfold jS;rw [if_neg (by omega),if_neg (by omega),if_neg (by omega),if_neg (by omega),if_neg (by omega),if_neg (by omega),if_neg (by omega),if_neg (by omega)]
  ·exact absurd (by decide) hneg
end
section
variable {pl:List (bP × bF)} {n n':QN} {w w1 w':Ω} {m:PM} {S:Nat->Prop}
theorem aJo (hT:nK (fT pl)) (hll:pl.length<=1000) (h:MQ pl n w) (ha:AsP n m) (hok:m.ok (fT pl)) (htr:m.r.ps.tr.length<=90000) (hfu:m.fuel<=1000000) (h8k:∀ x∈m.r.ps.ar,qD x.data) :
  aC prog 27 #[pn n] w λrv w'=>QGo pl n (fR (fT pl) m) rv w w':=by
 apply aQv;refine aTh hT h ha hok htr hfu (λrv w' h0 hq=>?_) λn6 a p im b4 b5 v1 w6 h0 hH=>aSf hT hll hok htr h8k h0 hH λrv w' hq=>hq;have eS:fR (fT pl) m=.fin 28423 (m.fs.length+1) 0 (m.r.ends 28423):=by unfold fR;rw [if_pos h0]
 rw [eS];exact hq
def QB (n:QN) (i:Nat):Prop:=∃ c,c≠Lq.ex/\c≠Lq.im/\WQ n c i
def QL (n:QN) (k i:Nat):Prop:=i < k/\¬ QB n i/\¬ n.IB i
theorem MQ.all (h:MQ pl n w):MQ pl { n with X:=QL n w.heap.size } w:=by
 have h0:=h.weakX (Y:=λ_=>False) λ_ h=>h.elim;have h1:=h0.addX (Y:=QL n w.heap.size) (λi hi c hc=>?_) λi hi=>hi.1
 ·exact h1.weakX λi hi=>.inr hi
 ·cases c with
  | ex=>exact hc
  | im=>exact hi.2.2 hc
  | rm=>exact hi.2.1 ⟨.rm,(by intro e;cases e),(by intro e;cases e),hc⟩
  | fo=>exact hi.2.1 ⟨.fo,(by intro e;cases e),(by intro e;cases e),hc⟩
  | fd j=>exact hi.2.1 ⟨.fd j,(by intro e;cases e),(by intro e;cases e),hc⟩
  | mb=>exact hi.2.1 ⟨.mb,(by intro e;cases e),(by intro e;cases e),hc⟩
  | fg=>exact hi.2.1 ⟨.fg,(by intro e;cases e),(by intro e;cases e),hc⟩
  | fb j=>exact hi.2.1 ⟨.fb j,(by intro e;cases e),(by intro e;cases e),hc⟩
  | lv j=>exact hi.2.1 ⟨.lv j,(by intro e;cases e),(by intro e;cases e),hc⟩
  | sv j=>exact hi.2.1 ⟨.sv j,(by intro e;cases e),(by intro e;cases e),hc⟩
theorem MQ.noX (h:MQ pl n w):MQ pl { n with X:=λ_=>False } w:=h.weakX λ_ h=>h.elim
theorem QB.of {i:Nat} {X:Nat->Prop} (h:QB { n with X:=X } i):QB n i:=by
 obtain ⟨c,h1,h2,h3⟩:=h;refine ⟨c,h1,h2,?_⟩;cases c with
 | ex=>exact absurd rfl h1
 | _=>exact h3
theorem MQ.qlt (h:MQ pl n w) {i:Nat} (hi:QB n i):i < w.heap.size:=by obtain ⟨c,_,_,hc⟩:=hi;exact h.lt c i hc
theorem MQ.frQ (h:MQ pl n w) (hX:n.X=λ_=>False) (g:Fr S w w') (hn:∀ i,QB n i\/n.IB i->¬ S i):MQ pl n w':=by
 refine h.fr g λc i hc=>?_;by_cases h1:c=.ex
 ·subst h1;have hc:n.X i:=hc;rw [hX] at hc;exact hc.elim
 by_cases h2:c=.im
 ·subst h2;exact hn i (.inr hc)
 ·exact hn i (.inl ⟨c,h1,h2,hc⟩)
end
section
variable {pl:List (bP × bF)} {n:QN} {p:iY} {q:FP} {f:gV} {r:Rm} {X:Nat->Prop} {sl:O} {fu st:Int} {w w':Ω}
theorem aDt {p:RP} {q:QP} (hps:p.ar.map pa=q.ar.map pa) {k:Nat} {b:dB} (hb:q.ar[k]?=some b):∃ a,p.ar[k]?=some a/\aBx a b:=by
 have h1:(p.ar.map pa)[k]?=some (pa b):=by rw [hps];simp [hb]
 rw [List.getElem?_map] at h1;obtain ⟨a,ha,hp⟩:=Option.map_eq_some_iff.1 h1;have e1:=congrArg PA.owner hp;have e2:=congrArg PA.label hp;have e3:=congrArg PA.life hp;have e4:=congrArg PA.share hp;have e5:=congrArg PA.data hp;exact ⟨a,ha,e1.symm,e2.symm,e3.symm,e4.symm,e5.symm⟩
theorem aSj (h:Wh (fT pl) p q f r X sl fu st w) (h':MQ pl n w) (hr:n.r=r) (hfd:EU (fT pl) r.fd) (hll:pl.length<=1000):aC prog 30 #[kZ p.rp,oZ n.q] w λrv w'=>rv=.bool true/\aG w w':=by
 have hps:p.rp.ps=n.q.ps:=by rw [h.rps,h'.ps,hr]
 have etp:n.q.tp=p.rp.tp:=(congrArg PS.tp hps).symm;have ets:n.q.ts=p.rp.ts:=(congrArg PS.ts hps).symm;have ear:p.rp.ar.map pa=n.q.ar.map pa:=congrArg PS.ar hps;have eln:n.q.ar.length=p.rp.ar.length:=by simpa using (congrArg List.length ear).symm
 have hcn:=h'.ref.cnt
 have hfl:n.vs.length=pl.length:=by
  have:=(h'.dep .fo).now.2;rw [hr,hfd.len] at this;simpa using this
 have hB:∀ w',aG w w'->kV w' n.q.xb 0 [.pointer (some ⟨n.q.yb,0,none⟩),n.q.iv,n.q.fv,n.q.pub,n.q.sec]:=λw' hw=>h'.xbox.ext hw;apply aQt;suffices key:∀ R:O->Ω->Prop,(∀ w',aG w w'->R (.bool true) w')->FV (kZ p.rp) (oZ n.q) w R from key _ λw' hx=>⟨rfl,hx⟩;intro R hR;unfold FV;refine (XV h.room).mono λr w1 ⟨⟨v1,v2,hr',b1,b2⟩,x1⟩=>?_;subst hr';refine cL.2 (cK.2 ?_);have D1:aG w1 w1.drew:=(aG.refl _).drew;have X1:=x1.trans D1;have hw1:=h.ext X1;refine aH.mk' (λw'=>aG w1 w') D1 ?_;refine (uK hw1.room).mono λr w' ⟨hr',hw⟩=>?_;subst hr';have hw:=hw.symm;subst hw;refine ⟨D1,?_⟩;refine aD.ok (λw' _=>gZ underlying100) ?_;simp only [kC];refine aD.ok (λw' hw=>wP underlying23 underlying5 underlying9 (b1.ext hw)) ⟨.inl ⟨_,rfl⟩,?_⟩;refine lE fX fS (λw' hw=>hB w' (x1.trans hw)) (u:=n.q.pub) rfl ?_;refine aD.ok (λw' hw=>wP (l:=p.rp.tp) underlying23 underlying5 underlying9 (by have:=aB.of_own ((x1.trans hw).own h'.ref.qp);rw [etp] at this;exact this)) ?_;refine aD.ok (λw' _=>GX) ?_;simp only [beq_self_eq_true,Bool.not_true,aJ,Bool.false_eq_true,reduceIte,kC];refine aD.ok (λw' hw=>wP underlying23 underlying5 underlying9 (b2.ext hw)) ⟨.inl ⟨_,rfl⟩,?_⟩;refine lE fW fS (λw' hw=>hB w' (x1.trans hw)) (u:=n.q.sec) rfl ?_;refine aD.ok (λw' hw=>wP (l:=p.rp.ts) underlying23 underlying5 underlying9 (by have:=aB.of_own ((x1.trans hw).own h'.ref.qs);rw [ets] at this;exact this)) ?_
 refine aD.ok (λw' _=>GX) ?_;simp only [beq_self_eq_true,Bool.not_true,aJ,Bool.false_eq_true,reduceIte,kC,dJ];refine ⟨.inl ⟨_,rfl⟩,?_⟩;refine lE bJ dE (λw' hw=>hB w' (x1.trans hw)) (u:=OZ n.q) rfl ⟨.inl ⟨_,rfl⟩,?_⟩;refine dT (λw' hw=>(h'.ref.ybox.ext (x1.trans hw)).boxed) bV dA rfl ?_;refine tW XO (aB.of_own h'.ref.list) ?_;refine (uK hw1.room).mono λr w' ⟨hr',hw⟩=>?_;subst hr';have hw:=hw.symm;subst hw;refine ⟨D1,?_⟩;refine (NW hw1.room).mono λr w' ⟨hr',hw⟩=>?_;subst hr';have hw:=hw.symm;subst hw;refine ⟨D1,?_⟩;refine aD.ok (λw' _=>lR) ?_;simp only [eln,ne_eq,not_true_eq_false,decide_false,aJ,Bool.false_eq_true,reduceIte,kC,dJ];refine ⟨.inl ⟨_,rfl⟩,?_⟩;refine lE cP iK (λw' hw=>hB w' (x1.trans hw)) (u:=n.q.iv) rfl ?_;obtain ⟨ics,hics,_⟩:=(h'.dep .im).now;refine tW iD hics ?_;refine (aNw hw1).mono λr w' ⟨hr',hw⟩=>?_;subst hr';have hw:=hw.symm;subst hw;refine ⟨D1,?_⟩;refine aD.ok (λw' _=>lR) ?_;have eil:(fT pl).length=pl.length:=by simp
 simp only [eil,ne_eq,not_true_eq_false,decide_false,aA];generalize w1.drew=w2 at *;refine ⟨λx w'=>∃ k:Nat,x=i64 k/\k<=n.q.ar.length/\aG w w',λx _=>n.q.ar.length - (RowKit.intOf x).toNat,⟨0,rfl,Nat.zero_le _,X1⟩,?_⟩;rintro _ w3 ⟨k,rfl,hk,x3⟩ _;have h3:=h.ext x3;have h3':=h'.ext x3;refine ⟨.inl ⟨_,rfl⟩,?_⟩;refine gC bJ dE h3'.xbox (u:=OZ n.q) rfl ⟨.inl ⟨_,rfl⟩,?_⟩;refine bA h3'.ref.ybox.boxed bV dA rfl ?_;refine gG XO (aB.of_own h3'.ref.list) ?_;refine aV.2 (aK (λhlt=>?_) λhge=>?_)
 ·have hkl:k < n.q.ar.length:=by omega
  obtain ⟨b,hb⟩:=bH (l:=n.q.ar) (j:=k) hkl;obtain ⟨a,ha,hab⟩:=aDt ear hb;refine (uK h3.room).mono λr w' ⟨hr',hw⟩=>?_;subst hr';have hw:=hw.symm;subst hw;refine bW.2 ?_;rw [aX (by omega)];refine (qJ h3.room.h ha rfl).mono λr w4 ⟨⟨v,hr',hv⟩,x4⟩=>?_;subst hr';refine cL.2 (cK.2 ?_);refine xL pD rfl (gS (bM hv)) λw5 hb5 x5=>?_;have D5:aG w5 w5.drew:=(aG.refl _).drew;have X45:=x4.trans x5;have X5:=X45.trans D5;have h5:=h3'.ext X5;refine aH.mk' (λw'=>aG w5 w') D5 ?_;refine aD.ok (λw' _=>BS) ?_;simp only [Bool.not_true,kC,dJ];refine yA (λw' hw=>(hb5.ext hw).boxed) EG rfl ⟨.inl ⟨_,rfl⟩,?_⟩;refine lE bJ dE (λw' hw=>(h3'.ext (X45.trans hw)).xbox) (u:=OZ n.q) rfl ⟨.inl ⟨_,rfl⟩,?_⟩;refine dT (λw' hw=>((h3'.ext (X45.trans hw)).ref.ybox).boxed) bV dA rfl ?_;refine aD.ok (λw' _=>nV (by omega) (by omega)) ?_;have e0:0+((k:Nat):Int).toNat*5=k*5:=by omega
  rw [e0];refine aD.ok (λw' hw=>vC (cs:=b.cells) rfl λj hj=>(h3'.ext (X45.trans hw)).ref.get hb hj) ?_;refine (MT (a:={ a with dv:=v }) (b:=b) (aB.of_own ((x5.trans D5).own hv)) (aB.of_own (h5.ref.data b (List.mem_of_getElem? hb)))).mono λr w6 ⟨⟨t,hr',ht⟩,x6⟩=>?_;obtain rfl:=ht hab;subst hr';refine ⟨D5.trans x6,?_⟩;refine aD.ok (λw' _=>BS) ?_;simp only [Bool.not_true,aJ,Bool.false_eq_true,reduceIte,aA];refine mH (by omega) ?_;exact ⟨⟨k+1,rfl,by omega,x3.trans (X5.trans x6)⟩,by simp only [aT];omega⟩
 refine ⟨λx w'=>∃ k:Nat,x=i64 k/\k<=n.vs.length/\w'=w3,λx _=>n.vs.length - (RowKit.intOf x).toNat,⟨0,rfl,Nat.zero_le _,rfl⟩,?_⟩;rintro _ w4 ⟨a,rfl,ha2,hw⟩ _;have hw:=hw.symm;subst hw;have foR:=(h3'.dep .fo).now;refine ⟨.inl ⟨_,rfl⟩,?_⟩;refine gC cO eE h3'.xbox (u:=n.q.fv) rfl (gG pT (aB.of_own foR.1) (aV.2 (aK (λhla=>?_) λhga=>hR _ x3)));have hal:a < n.vs.length:=by omega
 obtain ⟨v,hv⟩:=bH (l:=n.vs) (j:=a) hal;have efd:n.r.fd[a]?=some (r.fd.getD a []):=by rw [hr,List.getD_eq_getElem?_getD,List.getElem?_eq_getElem (by have:=hfd.len;omega)];rfl
 have fdR:w3.ownsRow 0 21 1 v (r.fd.getD a []).length ((r.fd.getD a []).map i32):=(h3'.dep (.fd a)).now v _ hv efd
 have hd64:(r.fd.getD a []).length<=9223372036854775807:=by
  rcases (aB.of_own fdR).2 with ⟨_,h0⟩|⟨_,_,_,_,h1,h2,_⟩
  ·omega
  ·unfold maxLen at h2;omega
 refine ⟨λx w'=>∃ k:Nat,x=i64 k/\k<=(r.fd.getD a []).length/\w'=w3,λx _=>(r.fd.getD a []).length - (RowKit.intOf x).toNat,⟨0,rfl,Nat.zero_le _,rfl⟩,?_⟩;rintro _ w5 ⟨k,rfl,hkk,hw⟩ _;have hw:=hw.symm;subst hw;refine ⟨.inl ⟨_,rfl⟩,?_⟩;refine gC cO eE h3'.xbox (u:=n.q.fv) rfl ?_;refine nO pT gX (aB.of_own foR.1) (by omega) (by omega) (u:=v) (by rw [Int.toNat_natCast];exact hv) ?_;refine gG bX (aB.of_own fdR) (aV.2 (aK (λhlk=>?_) λhgk=>?_))
 ·have hkl:k < (r.fd.getD a []).length:=by omega
  have har:a < r.fd.length:=by have:=hfd.len;omega
  refine (aNi h3).mono λrv w' ⟨hrv,hw⟩=>?_;unfold OC at hrv;rw [if_pos ⟨har,hkl⟩] at hrv;subst hrv;have hw:=hw.symm;subst hw;refine cL.2 (cK.2 (fN.2 ?_));simp only [Bool.not_true,dJ];refine ⟨.inl ⟨_,rfl⟩,?_⟩;refine gC cO eE h3'.xbox (u:=n.q.fv) rfl ?_;refine nO pT gX (aB.of_own foR.1) (by omega) (by omega) (u:=v) (by rw [Int.toNat_natCast];exact hv) ?_;refine nO bX cE (aB.of_own fdR) (by omega) (by omega) (u:=i32 ((r.fd.getD a []).getD k 0)) (by rw [Int.toNat_natCast];exact wT hkl) ?_;simp only [aS,ne_eq,not_true_eq_false,aS,aJ,aA,reduceIte,Bool.false_eq_true,decide_false];refine mH (by omega) ?_;exact ⟨⟨k+1,rfl,by omega,rfl⟩,by simp only [aT];omega⟩
 ·refine mH (by omega) ?_;exact ⟨⟨a+1,rfl,by omega,rfl⟩,by simp only [aT];omega⟩
end
theorem aNh {l:List bF} {m:PM} {s:Int} {d fu:Nat} {r:Rm} (h:fR l m=.fin s d fu r):r.fd=m.r.fd:=by
 unfold fR at h;split at h
 ·cases h;rfl
 unfold tG at h;split at h
 ·cases hfs:m.fs with
  | nil=>rw [hfs] at h;cases h;rfl
  | cons _ _=>rw [hfs] at h;cases h
 split at h
 ·split at h
  ·cases h;rfl
  ·split at h
   ·cases h;rfl
   ·cases h
 split at h
 ·split at h
  ·cases h
  ·cases h;rfl
 ·cases h
theorem aEr {l:List bF} {m:PM} {s:Int} {d fu:Nat} {r:Rm} (h:fR l m=.fin s d fu r):d<=m.fs.length+1:=by
 unfold fR at h;split at h
 ·cases h;exact Nat.le_refl _
 unfold tG at h;split at h
 ·cases hfs:m.fs with
  | nil=>rw [hfs] at h;cases h;omega
  | cons _ _=>rw [hfs] at h;cases h
 split at h
 ·split at h
  ·cases h;exact Nat.le_refl _
  ·split at h
   ·cases h;exact Nat.le_refl _
   ·cases h
 split at h
 ·split at h
  ·cases h
  ·cases h;exact Nat.le_refl _
 ·cases h
structure Bo (pl:List (bP × bF)) (w0:Ω) (v1 v2:O) (mb2 xb2 k i:Nat) (w:Ω):Prop where
 ex:∃ (m:PM) (p:iY) (fg fc:Nat) (qs:List FP) (q:FP) (n:QN),cW (fT pl) (λ_=>False) p fg fc qs q m w/\MQ pl n w/\n.X=(λ_=>False)/\AsP n m/\m.ok (fT pl)/\Bnd m/\i+m.fuel=k/\pm p=v1/\kZ p.rp=v2/\n.mb=mb2/\n.q.xb=xb2 /\
  (∀ i,MB p q fg qs i->w0.heap.size<=i/\¬ QB n i/\¬ n.IB i)/\(∀ i,QB n i->w0.heap.size<=i)/\aG w0 w
structure Eo (pl:List (bP × bF)) (w0:Ω) (v1 v2:O) (mb2 xb2:Nat) (w:Ω):Prop where
 ex:∃ (e:AP) (p:iY) (n:QN),WZ (fT pl) (λ_=>False) p e w/\MQ pl n w/\AsE n e/\e.s≠0/\EU (fT pl) e.r.fd/\e.r.ps.tr.length<=90000/\pm p=v1/\kZ p.rp=v2/\n.mb=mb2/\n.q.xb=xb2/\aG w0 w
section
variable {pl:List (bP × bF)} {w0 w w':Ω} {v1 v2:O} {mb2 xb2 k i:Nat}
theorem Bo.ext (h:Bo pl w0 v1 v2 mb2 xb2 k i w) (hx:aG w w'):Bo pl w0 v1 v2 mb2 xb2 k i w':=by
 obtain ⟨m,p,fg,fc,qs,q,n,M,Q,a1,a2,a3,a4,a5,a6,a7,a8,a9,b1,b2,x0⟩:=h.ex;exact ⟨m,p,fg,fc,qs,q,n,M.ext hx,Q.ext hx,a1,a2,a3,a4,a5,a6,a7,a8,a9,b1,b2,x0.trans hx⟩
theorem Eo.ext (h:Eo pl w0 v1 v2 mb2 xb2 w) (hx:aG w w'):Eo pl w0 v1 v2 mb2 xb2 w':=by
 obtain ⟨e,p,n,T,Q,a1,a2,a3,a4,a5,a6,a7,a8,x0⟩:=h.ex;exact ⟨e,p,n,T.fr (Fr.of_ext (S:=λ_=>False) hx) λ_ h=>h.elim,Q.ext hx,a1,a2,a3,a4,a5,a6,a7,a8,x0.trans hx⟩
structure PoR (pl:List (bP × bF)) (w0:Ω) (v1 v2:O) (mb2 xb2 k i:Nat) (s:Int) (w:Ω):Prop where
 ex:∃ (fu d g cap:Nat) (a b c:Int) (st:List Int),d<=8 /\
  (∀ {w'},aG w w'->aC prog 18 #[v1] w' λrv w''=>rv=i64 (fu:Int)/\w''=w') /\
  (∀ {w'},aG w w'->aC prog 17 #[v1] w' λrv w''=>rv=i64 (d:Int)/\w''=w') /\
  (∀ {w'},aG w w'->aC prog 14 #[v1] w' λrv w''=>∃ sv,rv=.tuple #[i64 a,i64 b,i64 c,sv]/\aB w'' sv 1 st.length (st.map i32)/\aG w' w'') /\
  (∀ {w'},aG w w'->aC prog 28 #[pt mb2] w' λrv w''=>∃ sv,rv=.tuple #[i64 a,i64 b,i64 c,sv]/\aB w'' sv 1 st.length (st.map i32)/\aG w' w'') /\
  (∀ {w'},aG w w'->∃ cs,kV w' mb2 0 cs/\cs[1]?=some (.slice (some ⟨g,0,none⟩) d cap)/\cs[2]?=some (i64 s)/\cs[3]?=some (i64 (fu:Int)))/\st.length<=1000 /\
  (s=0->Bo pl w0 v1 v2 mb2 xb2 k (i+1) w)/\(s≠0->Eo pl w0 v1 v2 mb2 xb2 w)
theorem aLk (hT:nK (fT pl)) (hll:pl.length<=1000) (h:Bo pl w0 v1 v2 mb2 xb2 k i w) :
  aC prog 19 #[v1] w λr1 w1=>aC prog 27 #[pt mb2] w1 λr2 w2=>∃ s,r1=i64 s/\r2=i64 s/\PoR pl w0 v1 v2 mb2 xb2 k i s w2/\aG w0 w2:=by
 obtain ⟨m,p,fg,fc,qs,q,n,M,Q,hX,hA,ok,bd,hf,e1,e2,e3,e4,dM,dQ,x0⟩:=h.ex;have hll':(fT pl).length<=1000:=by simpa using hll
 have h8k:∀ x∈m.r.ps.ar,qD x.data:=by
  intro x hx;rw [<- M.wh.rps] at hx;obtain ⟨a,ha,rfl⟩:=List.mem_map.1 hx;exact M.wh.room.bytes a ha
 have btr:m.r.ps.tr.length<=80000/\m.fuel<=80000:=by unfold Bnd at bd;omega
 have in1:∀ i,(¬ Els p q fg qs w.heap.size i/\i < w.heap.size)->MB p q fg qs i:=λi ⟨hi,hl⟩=>Classical.byContradiction λhn=>hi ⟨hl,hn⟩;have hb8:m.f.st.length<=8:=(ok.top.at_ hT).hi;have dep8:=ok.dep
 have two:∀ {w1:Ω},Fr (λi=>¬ Els p q fg qs w.heap.size i) w w1->MQ pl n w1/\aG w0 w1/\w.heap.size<=w1.heap.size:=λ{w1} F1=>
  ⟨Q.frQ hX (OB F1) λi hi hS=>by
   have:=dM i (in1 i hS);rcases hi with hi|hi
   ·exact this.2.1 hi
   ·exact this.2.2 hi,(OB F1).ext x0 λi hi=>(dM i (in1 i hi)).1,F1.size⟩
 have aft:∀ {w1 w2:Ω} {n':QN},MQ pl n w1->w.heap.size<=w1.heap.size->MQ pl n' w2->n'.X=QL n w1.heap.size->n'.IB=n.IB->∀ i,QB n' i->QB n i\/w1.heap.size<=i:=by
  intro w1 w2 n' Q1 hs Q' eX eI i ⟨c,h1,h2,hc⟩;by_cases hi:w1.heap.size<=i
  ·exact .inr hi
  refine .inl (Classical.byContradiction λhn=>?_);by_cases hI:n.IB i
  ·exact Q'.no hc (b:=.im) (by show n'.IB i;rw [eI];exact hI) h2
  ·exact Q'.no hc (b:=.ex) (by show n'.X i;rw [eX];exact ⟨by omega,hn,hI⟩) h1
 have in2:∀ {w1:Ω} {i:Nat},(¬ QN.XI { n with X:=QL n w1.heap.size } i/\i < w1.heap.size)->QB n i:=λ{w1 i} ⟨hi,hl⟩=>Classical.byContradiction λhn=>by
  by_cases hI:n.IB i
  ·exact hi (.inr hI)
  ·exact hi (.inl ⟨hl,hn,hI⟩)
 have epn:pn n=pt mb2:=by unfold pn;rw [e3]
 have asx:∀ Y,AsP { n with X:=Y } m:=λY=>hA;subst e1;refine (aJn hT hll' M.all ok (by omega) (by omega)).mono λrv w1 hs=>?_;rcases hs with ⟨m',hs,hr,p',fg',fc',qs',q',M',mb',rb',F1⟩|⟨s,d,fu,r,hs,s0,hr,p',T',mb',rb',F1⟩
 ·obtain ⟨Q1,x1,s1⟩:=two F1;rw [<- epn];refine (aJo hT hll Q1.all (asx _) ok (by omega) (by omega) h8k).mono λrv2 w2 ⟨n',Q',eX,eI,em,ex,F2,hP⟩=>?_;rw [hs] at hP;obtain ⟨hr2,hA'⟩:=hP;subst hr;subst hr2;have hqn:=aft Q1 s1 Q' eX eI
  have nE:∀ i,MB p' q' fg' qs' i->¬ Els p q fg qs w.heap.size i:=λi hi hE=>by
   rcases hi with ⟨c,hc,hi⟩|hi|⟨b,hb,hi⟩
   ·exact hc (M'.wh.sep.dj c .ex i (WRx hc hi) (.inl hE))
   ·exact (M'.x0 i hE).1 hi
   ·exact (M'.x0 i hE).2 b hb hi
  have nQ:∀ i,MB p' q' fg' qs' i->¬ QB n i/\¬ n.IB i:=λi hi=>⟨λhq=>nE i hi ⟨Q.qlt hq,λhm=>(dM i hm).2.1 hq⟩,λhI=>nE i hi ⟨Q.lt .im i hI,λhm=>(dM i hm).2.2 hI⟩⟩;have M2:cW (fT pl) (λ_=>False) p' fg' fc' qs' q' m' w2:=(M'.weak λ_ h=>h.elim).fr (OB F2) λi hi hS=>(nQ i hi).1 (in2 hS);have x2:aG w0 w2:=(OB F2).ext x1 λi hi=>dQ i (in2 hi);have ok':=yC hT ok hs;have bd':=GL hs bd;have hfu':=(tX hs).1;have hf':m.fuel=m'.fuel+1:=by omega
  have hb8':m'.f.st.length<=8:=(ok'.top.at_ hT).hi;have dep8':=ok'.dep;have hln:=M2.len;have Qn:=Q'.noX;have epm:pm p'=pm p:=by unfold pm;rw [mb']
  obtain ⟨f1,f2,f3,f4,f5⟩:=hA';refine ⟨0,rfl,rfl,⟨m'.fuel,m'.fs.length+1,n'.fg,n'.fcap,(m'.f.who:Int),(m'.f.mth:Int),(m'.f.pc:Int),m'.f.st,by omega,λhx=>?_,λhx=>?_,λhx=>?_,λhx=>?_,λhx=>?_,by omega,λ_=>⟨m',p',fg',fc',qs',q',{ n' with X:=λ_=>False },M2,Qn,rfl,⟨f1,f2,f3,f4,f5⟩,ok',bd',by omega,epm,by rw [<- e2];unfold kZ;rw [rb'],em.trans e3,ex.trans e4,λi hi=>⟨?_,λhq=>?_,λhI=>?_⟩,λi hi=>?_,x2⟩,λh=>absurd rfl h⟩,x2⟩
  ·rw [<- epm];exact aAs (M2.ext hx).wh
  ·rw [<- epm];have:=aBb (M2.ext hx).wh;rw [hln] at this;exact this
  ·rw [<- epm];exact (aDf (M2.ext hx) dep8' hb8').mono λrv w'' ⟨sv,h1,h2,h3⟩=>⟨sv,h1,aB.of_own h2,h3⟩
  ·have e:pt mb2=pn n':=by unfold pn;rw [em.trans e3]
   rw [e];exact (aVa (Q'.ext hx) ⟨f1,f2,f3,f4,f5⟩ dep8').mono λrv w'' ⟨sv,h1,h2,h3⟩=>⟨sv,h1,aB.of_own h2,h3⟩
  ·have hb:=(Q'.ext hx).box;rw [em.trans e3] at hb;exact ⟨_,hb,by rw [<- f5];rfl,by rw [<- f3];rfl,by rw [<- f2];rfl⟩
  ·by_cases hl:i < w.heap.size
   ·have hm:MB p q fg qs i:=Classical.byContradiction λhn=>nE i hi ⟨hl,hn⟩;exact (dM i hm).1
   ·have:=x0.size;omega
  ·rcases hqn i hq.of with h1|h1
   ·exact (nQ i hi).1 h1
   ·have:=(M'.weak (Y0:=λ_=>False) λ_ h=>h.elim).lt hi;omega
  ·have hI:n'.IB i:=hI;rw [eI] at hI;exact (nQ i hi).2 hI
  ·rcases hqn i hi.of with h1|h1
   ·exact dQ i h1
   ·have:=x1.size;omega
 ·obtain ⟨Q1,x1,s1⟩:=two F1;rw [<- epn];refine (aJo hT hll Q1.all (asx _) ok (by omega) (by omega) h8k).mono λrv2 w2 ⟨n',Q',eX,eI,em,ex,F2,hP⟩=>?_;rw [hs] at hP;obtain ⟨hr2,hE'⟩:=hP;subst hr;subst hr2
  have T2:WZ (fT pl) (λ_=>False) p' ⟨s,d,fu,r⟩ w2:=by
   have T3:=T'.fr (OB F2) λi hi _=>⟨Q.qlt (in2 hi),λhm=>(dM i hm).2.1 (in2 hi)⟩;obtain ⟨q,f,X,a,cap,h1,_⟩:=T3;exact ⟨q,f,X,a,cap,h1,λ_ h=>h.elim⟩
  have x2:aG w0 w2:=(OB F2).ext x1 λi hi=>dQ i (in2 hi);have htr:=PT (fT pl) m;rw [hs] at htr;have htr:r.ps.tr.length<=m.r.ps.tr.length+4:=htr;have epm:pm p'=pm p:=by unfold pm;rw [mb']
  obtain ⟨f1,f2,f3,f4⟩:=hE';have f1:n'.frs.length=d:=f1;have f2:n'.fu=fu:=f2;have f3:n'.st=s:=f3
  have hd8:d<=8:=by
   have:=aEr hs;omega
  have wh:∀ {w'},aG w2 w'->∃ q f X a cap,Wh (fT pl) p' q f r X (.slice a d cap) fu s w':=λhx=>by
   obtain ⟨q,f,X,a,cap,h1,_⟩:=T2;exact ⟨q,f,X,a,cap,h1.ext hx⟩
  refine ⟨s,rfl,rfl,⟨fu,d,n'.fg,n'.fcap,-1,-1,-1,[],hd8,λhx=>?_,λhx=>?_,λhx=>?_,λhx=>?_,λhx=>?_,by decide,λh=>absurd h s0,λ_=>⟨⟨s,d,fu,r⟩,p',n',T2,Q',⟨f1,f2,f3,f4⟩,s0,by rw [show (⟨s,d,fu,r⟩:AP).r.fd=m.r.fd from aNh hs];exact ok.fd,by show r.ps.tr.length<=90000;omega,epm,by rw [<- e2];unfold kZ;rw [rb'],em.trans e3,ex.trans e4,x2⟩⟩,x2⟩
  ·obtain ⟨q,f,X,a,cap,h1⟩:=wh hx;rw [<- epm];exact aAs h1
  ·obtain ⟨q,f,X,a,cap,h1⟩:=wh hx;rw [<- epm];exact aBb h1
  ·obtain ⟨q,f,X,a,cap,h1⟩:=wh hx;rw [<- epm];exact (aKy h1 s0).mono λrv w'' ⟨h1,h2⟩=>⟨_,h1,aB.nil _ _,h2▸aG.refl _⟩
  ·have e:pt mb2=pn n':=by unfold pn;rw [em.trans e3]
   rw [e];exact (aSe (Q'.ext hx) (by rw [f3];exact s0)).mono λrv w'' ⟨h1,h2⟩=>⟨_,h1,aB.nil _ _,h2▸aG.refl _⟩
  ·have hb:=(Q'.ext hx).box;rw [em.trans e3] at hb;exact ⟨_,hb,by rw [<- f1];rfl,by rw [<- f3];rfl,by rw [<- f2];rfl⟩
end
theorem aVf {l:List (bP × bF)} {size:Int} {a b:List Int} {p:iY} {q:QP} {vs:List O} {lv:O} {w3 w4:Ω} (R1:Rms l size a b w3.heap.size p q vs w4) (hA:nS w3 lv l) (x:aG w3 w4) :
  RQ l q vs (rm0 l size a b) (λi=>q.iv.ownBlock=some i\/i < w3.heap.size) (λ_=>False) w4:=by
 obtain ⟨cs,i1,i2,i3⟩:=R1.rbd.iv;obtain ⟨asl,_,hrow⟩:=hA;have hvl:vs.length=(zs l).length:=by have:=R1.rbd.fv.1;omega
 have cls:∀ {c:Lq} {i:Nat},WQ0 q vs (λi=>q.iv.ownBlock=some i\/i < w3.heap.size) (λ_=>False) c i->(∃ y,BQ q vs y i/\((c=.rm/\y=.rm)\/(c=.fo/\y=.fo)\/((∃ k,c=.fd k)/\y=.fd)\/(c=.im/\y=.mb)))\/(c=.im/\i < w3.heap.size):=by
  intro c i hc;cases c with
  | rm=>exact .inl ⟨.rm,hc,.inl ⟨rfl,rfl⟩⟩
  | fo=>exact .inl ⟨.fo,hc,.inr (.inl ⟨rfl,rfl⟩)⟩
  | fd k=>obtain ⟨v,hv,hi⟩:=hc;exact .inl ⟨.fd,⟨v,List.mem_of_getElem? hv,hi⟩,.inr (.inr (.inl ⟨⟨k,rfl⟩,rfl⟩))⟩
  | im=>
   rcases hc with hc|hc
   ·exact .inl ⟨.mb,hc,.inr (.inr (.inr ⟨rfl,rfl⟩))⟩
   ·exact .inr ⟨rfl,hc⟩
  | ex=>exact hc.elim
  | mb=>exact hc.elim
  | fg=>exact hc.elim
  | fb k=>exact hc.elim
  | lv k=>exact hc.elim
  | sv k=>exact hc.elim
 have e1:=R1.qs;refine ⟨R1.rbd.ref,⟨congrArg PS.size e1,congrArg PS.ar e1,congrArg PS.tp e1,congrArg PS.ts e1⟩,λw' F=>?_,⟨by rw [hvl];exact R1.rbd.fv,hvl⟩,R1.rbd.row,λc d i hc hd=>?_,λc i hc=>?_⟩
 ·have x':aG w3 w':=F.ext x λi hi=>Nat.le_of_not_lt λhl=>hi (.inr hl);refine ⟨cs,aB.of_own (F.own i1 λi hi hn=>hn (.inl hi)),λk y hy=>⟨i3 k y hy,?_⟩⟩;obtain ⟨_,_,_,hAp,_⟩:=hrow k y hy;exact hAp.at_.ext x'
 ·rcases cls hc with ⟨y,hy,h1⟩|⟨rfl,hl⟩<;>rcases cls hd with ⟨z,hz,h2⟩|⟨rfl,hl2⟩
  ·have:=R1.rbd.sep.dj y z i hy hz;subst this;rcases h1 with ⟨rfl,e⟩|⟨rfl,e⟩|⟨⟨k,rfl⟩,e⟩|⟨rfl,e⟩<;>rcases h2 with ⟨rfl,e'⟩|⟨rfl,e'⟩|⟨⟨k',rfl⟩,e'⟩|⟨rfl,e'⟩
   all_goals first|rfl|(rw [e] at e';cases e')|skip
   obtain ⟨v,hv,hi⟩:=hc;obtain ⟨v',hv',hi'⟩:=hd;rw [R1.rbd.djv k k' v v' i hv hv' hi hi']
  ·have:=R1.rbd.ge y i hy;omega
  ·have:=R1.rbd.ge z i hz;omega
  ·rfl
 ·rcases cls hc with ⟨y,hy,_⟩|⟨_,hl⟩
  ·exact R1.rbd.sep.lt y i hy
  ·have:=x.size;omega
theorem aMd {w:Ω} {v0 v2 v3:O} {n1 n4 n5:Int} {ll:List (List Rw)} {a b:List Int} (h:SE w v0 ll) (hbin:mP w) (hT:oT w) (ha:iZ w v2 a) (hb:iZ w v3 b) (oka:qD a) (okb:qD b) (known:∀ w,aC prog 12 #[] w λv w'=>v=.bool true/\aG w w') :
  aC prog 6 #[v0,i64 n1,v2,v3,i64 n4,i64 n5] w λr w'=>r=.bool true/\aG w w':=by
 apply aUd;suffices key:∀ R:O->Ω->Prop,(∀ w',aG w w'->R (.bool true) w')->OW v0 (i64 n1) v2 v3 (i64 n4) (i64 n5) w R from key _ λw' hx=>⟨rfl,hx⟩;intro R hR;unfold OW;refine aOf h hbin hT λlv l w1 hA h0 h3 x1=>?_;refine yP (by decide) (by decide) λsz hsz=>bW.2 ?_;rw [aX (by omega)];refine (IC (ha.ext x1) oka).mono λc1 w2 ⟨⟨_,a1,la,oka1⟩,x2⟩=>?_;refine (IC (hb.ext (x1.trans x2)) okb).mono λc2 w3 ⟨⟨_,b1,lb,okb1⟩,x3⟩=>?_;refine (YL (size:=64+(sz:Int)) (hA.ext (x2.trans x3)) h3 h0 (by omega) (by omega) (a1.ext x3) b1 oka1 okb1 la lb).mono λrv w4 ⟨p1,q1,vs1,hr,R1,x4⟩=>?_;subst hr;refine cL.2 (cK.2 ?_);have A3:=hA.ext (x2.trans x3);have X3:=(x1.trans x2).trans x3;refine wQ iD (A3.ext x4) ?_;refine yP (by omega) (by omega) λwho hwho=>?_;refine yP (by decide) (by decide) λk hk=>?_;refine (known w4).mono λrv w5 ⟨hr,x5⟩=>?_;subst hr;refine fN.2 ?_;simp only [Bool.not_true,dJ,aJ,reduceIte,Bool.false_eq_true,Bool.not_true];refine V.ok (gZ underlying26) ?_;simp only [dJ,aJ,reduceIte,Bool.false_eq_true];refine V.ok (gZ underlying27) ?_;simp only [aA];have hTT:nK (fT l):=OQ hA;have hw0:who < (fT l).length:=by simp;omega
 have hll:l.length<=1000:=by omega
 have hrq:=aVf R1 A3 x4;have s4:=x4.size;have s5:=x5.size;refine (aSy hTT (R1.rms.ext x5) hw0 (by omega) (aRt l)).mono λrv w6 ⟨m1,fg1,fc1,k1,hr,M1,ok1,bd1,hrm1,x6,mb1⟩=>?_;subst hr;refine cL.2 (cK.2 (aS.2 ?_));simp only [ne_eq,not_true_eq_false,dJ,aJ,reduceIte,Bool.false_eq_true,decide_false];refine V.ok (gZ underlying33) ?_;simp only [aA];have x46:=x5.trans x6;have s6:=x6.size;refine (aVn hTT (hrq.ext x46) (fuel:=k) hw0).mono λrv w7 ⟨n,hr,Q,hAn,hX,hxb,hqb,x7⟩=>?_;subst hr;have s7:=x7.size;have hIB:∀ i,n.IB i->WQ n .im i:=λi hi=>hi
 have B0:Bo l w3 (pm m1) (kZ p1.rp) n.mb q1.xb k 0 w7:=by
  have lo:∀ i,MB m1 k1 fg1 [] i->w3.heap.size<=i/\(i < w4.heap.size->∃ x,XD p1 (λ_=>False) x i)/\i < w6.heap.size:=λi hi=>by
   have hl:=M1.lt hi;rcases mb1 i hi with ⟨c,hc⟩|hge
   ·exact ⟨R1.ge c i hc,λ_=>⟨c,hc⟩,hl⟩
   ·exact ⟨by omega,λh=>by omega,hl⟩
  have qq:∀ c i,c≠Lq.ex->WQ n c i->(∃ y,BQ q1 vs1 y i/\i < w4.heap.size)\/(c=.im/\i < w3.heap.size)\/w6.heap.size<=i:=by
   intro c i hc hi;rcases hqb c i hc hi with h1|h1
   ·have hbl:∀ y,BQ q1 vs1 y i->(∃ y,BQ q1 vs1 y i/\i < w4.heap.size):=λy hy=>⟨y,hy,R1.rbd.sep.lt y i hy⟩;cases c with
    | rm=>exact .inl (hbl .rm h1)
    | fo=>exact .inl (hbl .fo h1)
    | fd j=>obtain ⟨v,hv,hi'⟩:=h1;exact .inl (hbl .fd ⟨v,List.mem_of_getElem? hv,hi'⟩)
    | im=>
     rcases h1 with h1|h1
     ·exact .inl (hbl .mb h1)
     ·exact .inr (.inl ⟨rfl,h1⟩)
    | ex=>exact h1.elim
    | mb=>exact h1.elim
    | fg=>exact h1.elim
    | fb j=>exact h1.elim
    | lv j=>exact h1.elim
    | sv j=>exact h1.elim
   ·exact .inr (.inr h1)
  have no:∀ c i,c≠Lq.ex->WQ n c i->¬ MB m1 k1 fg1 [] i:=λc i hc hi hm=>by
   obtain ⟨l1,l2,l3⟩:=lo i hm;rcases qq c i hc hi with ⟨y,hy,hl⟩|⟨_,hl⟩|hl
   ·obtain ⟨x,hx⟩:=l2 hl;exact R1.no x y i hx hy
   iterate 2
    ·omega
  refine ⟨_,m1,fg1,fc1,[],k1,n,M1.ext x7,Q,hX,hAn,ok1,bd1,by show 0+k=k;omega,rfl,hrm1,rfl,hxb,λi hi=>⟨(lo i hi).1,λ⟨c,c1,c2,hc⟩=>no c i c1 hc hi,λhI=>no .im i (by intro e;cases e) hI hi⟩,λi ⟨c,c1,c2,hc⟩=>?_,(x4.trans x46).trans x7⟩;rcases qq c i c1 hc with ⟨y,hy,hl⟩|⟨e,_⟩|hl
  ·exact R1.rbd.ge y i hy
  ·exact absurd e c2
  ·omega
 have epn:pn n=pt n.mb:=rfl;rw [epn];generalize n.mb=mb2 at *;refine ⟨λw'=>Eo l w3 (pm m1) (kZ p1.rp) mb2 q1.xb w',⟨λt w'=>∃ i:Nat,t=i64 (i:Int)/\Bo l w3 (pm m1) (kZ p1.rp) mb2 q1.xb k i w',λt _=>450 - (RowKit.intOf t).toNat,⟨0,rfl,B0⟩,?_⟩,?_⟩
 ·rintro _ w8 ⟨i,rfl,hB⟩ _;have hi:i<=k:=by obtain ⟨_,_,_,_,_,_,_,_,_,_,_,_,_,hf,_⟩:=hB.ex;omega
  refine aV.2 (aK (λ_=>?_) λhge=>absurd (by omega) hge);have D:aG w8 w8.drew:=(aG.refl _).drew;refine aH.mk' (λ_=>True) trivial ?_;refine (aLk hTT hll (hB.ext D)).mono λrv w9 hc=>?_;refine ⟨trivial,hc.mono λrv2 w10 ⟨s,hr1,hr2,hP,x10⟩=>?_⟩;subst hr1;subst hr2;obtain ⟨fu,d,g,cap,ta,tb,tc,st,hd8,hF,hD,hTp,hTr,hBx,hst,hN,hE⟩:=hP.ex;refine ⟨trivial,⟨λw'=>aG w10 w',λ_ _=>trivial,aG.refl _,?_⟩⟩;refine aD.ok (λw' _=>lR) ?_;simp only [ne_eq,not_true_eq_false,decide_false,kC,dJ];refine ⟨.inl ⟨_,rfl⟩,?_⟩;refine yFE lJ aL (u:=i64 (fu:Int)) (λw' hw=>by obtain ⟨cs,c1,c2,c3,c4⟩:=hBx hw;exact ⟨cs,c1,c4⟩) ?_;refine (hF (aG.refl _)).mono λrv w' ⟨hr,hw⟩=>?_;subst hr;have hw:=hw.symm;subst hw;refine ⟨aG.refl _,⟨λw'=>aG w10 w',λ_ h=>h,aG.refl _,?_⟩⟩;refine aD.ok (λw' _=>lR) ?_;simp only [ne_eq,not_true_eq_false,decide_false,aJ,Bool.false_eq_true,reduceIte,kC,dJ];refine ⟨.inl ⟨_,rfl⟩,?_⟩;refine yFE eU mS (u:=.slice (some ⟨g,0,none⟩) d cap) (λw' hw=>by obtain ⟨cs,c1,c2,c3,c4⟩:=hBx hw;exact ⟨cs,c1,c2⟩) ?_;refine aD.ok (λw' _=>jR underlying61) ?_;refine (hD (aG.refl _)).mono λrv w' ⟨hr,hw⟩=>?_;subst hr;have hw:=hw.symm;subst hw;refine ⟨aG.refl _,⟨λw'=>aG w10 w',λ_ h=>h,aG.refl _,?_⟩⟩;refine aD.ok (λw' _=>lR) ?_
  simp only [ne_eq,not_true_eq_false,decide_false,aA];refine (hTp (aG.refl _)).mono λrv w11 ⟨s1,hr,hs1,x11⟩=>?_;subst hr;refine xQ.2 (xP.2 (xO.2 (xN.2 ?_)));refine (hTr x11).mono λrv w12 ⟨s2,hr,hs2,x12⟩=>?_;subst hr;refine xQ.2 (xP.2 (xO.2 (xN.2 ?_)));have hs1:=hs1.ext x12;refine aS.2 ?_;simp only [ne_eq,not_true_eq_false,decide_false,dJ];refine aS.2 ?_;simp only [ne_eq,not_true_eq_false,decide_false,aJ,Bool.false_eq_true,reduceIte,dJ];refine aS.2 ?_;simp only [ne_eq,not_true_eq_false,decide_false,aJ,Bool.false_eq_true,reduceIte,dJ];refine gG bX hs1 (gG bX hs2 (aS.2 ?_));simp only [ne_eq,not_true_eq_false,decide_false,aA];refine ⟨λt w'=>∃ j:Nat,t=i64 (j:Int)/\j<=st.length/\aG w12 w',λt _=>st.length - (RowKit.intOf t).toNat,⟨0,rfl,Nat.zero_le _,aG.refl _⟩,?_⟩;rintro _ w13 ⟨j,rfl,hj,x13⟩ _;refine gG bX (hs1.ext x13) (aV.2 (aK (λhlt=>?_) λhge=>?_))
  ·have D13:aG w13 w13.drew:=(aG.refl _).drew;have hjl:j < st.length:=by omega
   refine aH.mk' (λw'=>aG w13 w') D13 ?_;refine gF bX cE (hs1.ext x13) (λw' hw=>hw) (by omega) (by omega) (u:=i32 (st.getD j 0)) (by rw [Int.toNat_natCast];exact wT hjl) ?_;refine gF bX cE (hs2.ext x13) (λw' hw=>hw) (by omega) (by omega) (u:=i32 (st.getD j 0)) (by rw [Int.toNat_natCast];exact wT hjl) ?_;refine aD.ok (λw' _=>lR) ?_;simp only [ne_eq,not_true_eq_false,decide_false,aA];refine mH (by omega) ?_;exact ⟨⟨j+1,rfl,by omega,x13.trans D13⟩,by simp only [aT];omega⟩
  ·have x1013:=(x11.trans x12).trans x13;obtain ⟨cs,c1,c2,c3,c4⟩:=hBx x1013;refine ⟨.inl ⟨_,rfl⟩,?_⟩;refine gC jF aL c1 c3 (aS.2 (aK (λhne=>?_) λheq=>?_))
   ·exact (hE hne).ext x1013
   ·refine mH (by omega) ?_;exact ⟨⟨i+1,rfl,(hN (Classical.not_not.1 heq)).ext x1013⟩,by simp only [aT];omega⟩
 rintro w8 hE _;obtain ⟨e,p,n',T,Q',hAE,hs0,hfd,htr,ep,er,em,ex,x8⟩:=hE.ex;obtain ⟨qq,ff,Z,aa,cc,H,_⟩:=T;have trp:p.rp.tr=e.r.ps.tr:=congrArg PS.tr H.rps;obtain ⟨f1,f2,f3,f4⟩:=hAE;have trn:n'.q.tr=e.r.ps.tr:=by have:=congrArg PS.tr Q'.ps;rw [f4] at this;exact this
 rw [<- ep,<- er];refine (aKw H).mono λrv w' ⟨hr,hw⟩=>?_;subst hr;have hw:=hw.symm;subst hw;have D:aG w8 w8.drew:=(aG.refl _).drew;have bx:∀ w',aG w8 w'->kV w' mb2 0 (VS n'):=λw' hw=>by rw [<- em];exact (Q'.ext hw).box
 refine aH.mk' (λw'=>aG w8 w') D ?_;refine aD.ok (λw' _=>gZ underlying48) ?_;simp only [kC,dJ];refine ⟨.inl ⟨_,rfl⟩,?_⟩;refine lE jF aL bx (u:=i64 n'.st) rfl ?_;refine (PU (H.ext D)).mono λrv w' ⟨hr,hw⟩=>?_;subst hr;have hw:=hw.symm;subst hw;refine ⟨D,⟨λw'=>aG w8 w',λ_ h=>h,D,?_⟩⟩;refine aD.ok (λw' _=>lR) ?_;rw [f3];simp only [ne_eq,not_true_eq_false,decide_false,aJ,Bool.false_eq_true,reduceIte,kC,dJ];refine ⟨.inl ⟨_,rfl⟩,?_⟩;refine lE kT tQ bx (u:=ubT n'.q) rfl ⟨.inl ⟨_,rfl⟩,?_⟩;refine dT (λw' hw=>(Q'.ext hw).ref.ubox.boxed) lI qF rfl ?_;refine tW uR (aB.of_own Q'.ref.trow) ?_;refine (XW (H.ext D).room).mono λrv w' ⟨hr,hw⟩=>?_;subst hr;have hw:=hw.symm;subst hw;refine ⟨D,⟨λw'=>aG w8 w',λ_ h=>h,D,?_⟩⟩;refine aD.ok (λw' _=>lR) ?_;rw [trp,trn];simp only [ne_eq,not_true_eq_false,decide_false,aJ,Bool.false_eq_true,reduceIte,kC,dJ];have exb:oZ q1=oZ n'.q:=by unfold oZ;rw [ex]
 rw [exb];refine (aSj (H.ext D) (Q'.ext D) f4 hfd hll).mono λrv w9 ⟨hr,x9⟩=>?_;subst hr;have x89:=D.trans x9;refine ⟨x89,⟨λw'=>aG w8 w',λ_ h=>h,x89,?_⟩⟩;refine aD.ok (λw' _=>BS) ?_;simp only [Bool.not_true,aA];refine (aFg (H.ext x89).room (by rw [trp];omega)).mono λv1 w10 ⟨hv1,x10⟩=>?_;have x8a:=x89.trans x10;rw [trp] at hv1;have tr8:=aB.of_own Q'.ref.trow;rw [trn] at tr8;refine ⟨λt w'=>∃ j:Nat,t=i64 (j:Int)/\j<=e.r.ps.tr.length/\aG w10 w',λt _=>e.r.ps.tr.length - (RowKit.intOf t).toNat,⟨0,rfl,Nat.zero_le _,aG.refl _⟩,?_⟩;rintro _ w11 ⟨j,rfl,hj,x11⟩ _;have x8b:=x8a.trans x11;refine gG uR (hv1.ext x11) (aV.2 (aK (λhlt=>?_) λhge=>hR _ ((X3.trans x8).trans x8b)));have D11:aG w11 w11.drew:=(aG.refl _).drew;obtain ⟨ev,hev⟩:=bH (l:=e.r.ps.tr) (j:=j) (by omega);refine aH.mk' (λw'=>aG w11 w') D11 ?_;refine yxA uR RC (l:=ev.cells) (hv1.ext x11) (λw' hw=>(hv1.ext x11).ext hw) (by omega) (by omega) (by rw [Int.toNat_natCast];exact DP hev) rfl ⟨.inl ⟨_,rfl⟩,?_⟩;refine lE kT tQ (λw' hw=>bx w' (x8b.trans hw)) (u:=ubT n'.q) rfl ⟨.inl ⟨_,rfl⟩,?_⟩;refine dT (λw' hw=>(Q'.ext (x8b.trans hw)).ref.ubox.boxed) lI qF rfl ?_;refine yxA uR RC (l:=ev.cells) (tr8.ext x8b) (λw' hw=>(tr8.ext x8b).ext hw) (by omega) (by omega) (by rw [Int.toNat_natCast];exact DP hev) rfl ?_
 refine aD.ok (λw' _=>YV ev) (aA.2 (bW.2 ?_));rw [aX (by omega),dF];exact ⟨⟨j+1,rfl,by omega,x11.trans D11⟩,by simp only [aT];omega⟩
end Go.Proofs.YtgkkecladbmjkaaGreatDoor
namespace Go.Vc
open Go.ChangeShapes Go.WideShapes Go.ChangeAt Go.RowKit
variable {H:Type} {enc:TypeId × O->H} {P:Program}
theorem HA {f:Func} {s:ChangeSpec} {apart fresh handsOn again:Bool} {W W':Ω} {args:Array O} {v:O} {ds gs:List (DataW H)} {pa pv:List MemPlace}
  (hW:DataW.Whole enc P f.params.toList s.vars apart W args.toList ds gs (pa++pv)) (hx:aG W W')
  (hr:∀ b sp hd,DataW.TrodAll enc P W' b sp hd f.resultTypes.toList (v.resultList f.resultTypes.size) (s.fn H (ds++gs)).results [])
  (ha:∀ sp:Nat->Bool,(∀ p∈pa++pv,sp p.block=true)->DataW.TrodAll enc P W' 0 sp true f.params.toList args.toList (s.fn H (ds++gs)).args pa)
  (hv:∀ sp:Nat->Bool,(∀ p∈pa++pv,sp p.block=true)->DataW.TrodVars enc P W' sp s.vars (s.fn H (ds++gs)).vars pv)
  (hok:∀ (j:Nat) (t:TypeId) (r:O),f.resultTypes[j]?=some t->(v.resultList f.resultTypes.size)[j]?=some r->Value.okWide P W' .any 0 t r) :
  s.post enc P f apart fresh handsOn again W args v W':=by
 have hlt:=hW.lt;have hall:∀ p∈pa++pv,(λb=>decide (b < W.heap.size)) p.block=true:=λp hp=>decide_eq_true (hlt p hp);have hk:=hx.below.frame (·∈pa++pv)
 refine ⟨ds,gs,pa++pv,[],pa,pv,hW,hr _ _ _,ha _ hall,hv _ hall,World.keptBut_mono (λp hp=>⟨hp,.inr (by simpa using hp)⟩) hk,λ_=>?_⟩;obtain ⟨_,_,_,_,_,hz,hn⟩:=hW;have h2:=trodAll_append (ha (λ_=>true) λ_ _=>rfl) (hr 0 (λ_=>true) true);refine ⟨hok,_,_,pa++pv,⟨pa,pv,(by simpa using h2),hv _ λ_ _=>rfl,rfl,λb off hp=>?_,hn⟩,λp hp _=>hp⟩;rw [hx.below.frozen (hlt _ hp)];exact hz b off hp
theorem DF (hl:laidOutB P=true) {W W':Ω} (hx:aG W W') {sp:Nat->Bool}:∀ {ts:List TypeId} {vs:List O} {ds:List (DataW H)} {p:List MemPlace},(ts.all λt=>P.readableRec t&&decide (t < P.types.size))=true ->
  DataW.TrodAll enc P W 0 (λ_=>true) true ts vs ds p->(∀ x∈p,x.block < W.heap.size)->(∀ x∈p,sp x.block=true)->DataW.TrodAll enc P W' 0 sp true ts vs ds p
 | [],vs,ds,p,_,h,_,_=>by
  obtain ⟨rfl,rfl,rfl⟩:=trodAll_nil h;exact trodAll_mk0
 | t::ts,vs,ds,p,hr,h,hlt,hs=>by
  simp only [List.all_cons,Bool.and_eq_true,decide_eq_true_eq] at hr;obtain ⟨v,vs',d,ds',p1,p2,rfl,rfl,rfl,h1,h2⟩:=trodAll_cons h
  exact trodAll_cons_mk (WideElems.Trod_stays hl hr.1.1 hr.1.2 h1 (λx hx'=>hx.below.same (hlt x (by simp [hx']))) λx hx'=>hs x (by simp [hx']))
   (DF hl hx (by simpa using hr.2) h2 (λx hx'=>hlt x (by simp [hx'])) λx hx'=>hs x (by simp [hx']))
end Go.Vc
namespace Go.Vc
open Go.ChangeShapes
variable {P:Program} {W:Ω} {x:String} {ds:List (DataW Unit)} {i m:Nat} {k:IntKind} {laid:List (String × DataW Unit)}
theorem vY {P:Program} {W:Ω} {x:String} {ds:List (DataW Unit)} {g t e m:Nat} (hg:P.globalNamed x=some g) (ht:(P.globals[g]?).map (·.type)=some t) (hu:P.underlying t=some (.array m e)) {i:Nat} (hi:i < m) :
  ∀ {laid:List (String × DataW Unit)} {ps:List MemPlace},DataW.LaidVars P W laid ps->(x,.agg ds)∈laid->∃ (fuel:Nat) (q:List MemPlace) (cs:List O) (d:DataW Unit),ds[i]?=some d/\DataW.trod (λ_=>()) P W 0 (λ_=>true) false fuel e ((cs.drop (i*P.cellsOf e)).take (P.cellsOf e))=some (d,q)/\∀ j:Nat,W.cell? ⟨g,j,none⟩=cs[j]?
 | [],_,_,hm=>by cases hm
 | (n',d')::r,ps,h,hm=>by
  obtain ⟨g',t',cs,fuel,p,q,h1,h2,h3,h4,h5,_⟩:=h;rcases List.mem_cons.1 hm with e1|e1
  ·cases e1;obtain rfl:=Option.some.inj (hg.symm.trans h1);obtain rfl:=Option.some.inj (ht.symm.trans h2);obtain ⟨xs,m',_,ex,_,hxl,hel⟩:=DataW.trod_array hu h4;have hE:=hel i hi;rw [List.getElem?_eq_getElem (by omega)] at hE;refine ⟨m',(xs[i]'(by omega)).2,cs.toList,(xs[i]'(by omega)).1,?_,hE,λj=>by rw [World.var?_cell hg h3 j,<- Array.getElem?_toList]⟩;have:ds=xs.map (·.1):=by have:=congrArg Prod.fst ex;simpa using this
   rw [this,List.getElem?_map,List.getElem?_eq_getElem (by omega)];rfl
  ·exact vY hg ht hu hi h5 e1
theorem HK {g t e:Nat} {ps:List MemPlace} (hg:P.globalNamed x=some g) (ht:(P.globals[g]?).map (·.type)=some t) (hu:P.underlying t=some (.array m e)) (he:P.underlying e=some (.int k)) (c1:P.cellsOf e=1)
  (h:DataW.LaidVars P W laid ps) (hm:(x,.agg ds)∈laid) (hi:i < m):∃ z,ds[i]?=some (.lit (.int k z))/\W.cell? ⟨g,i,none⟩=some (.int k z):=by
 obtain ⟨fuel,q,cs,d,h1,h2,h3⟩:=vY hg ht hu hi h hm;rw [c1,Nat.mul_one] at h2;obtain ⟨z,e1,e2,_⟩:=DataW.trod_int he h2;cases e2;refine ⟨z,h1,?_⟩;rw [h3 i];have h0:((cs.drop i).take 1)[0]?=some (.int k z):=by rw [e1];rfl
 simpa using h0
theorem HL {g t e c f o u:Nat} {fs:Array Field} {ps:List MemPlace} (hg:P.globalNamed x=some g) (ht:(P.globals[g]?).map (·.type)=some t) (hu:P.underlying t=some (.array m e)) (he:P.underlying e=some (.struct fs)) (hc:P.cellsOf e=c)
  (hf:(fs[f]?).map (λy=>(y.type,y.offset))=some (u,o)) (hk:P.underlying u=some (.int k)) (c1:P.cellsOf u=1) (ho:o < c)
  (h:DataW.LaidVars P W laid ps) (hm:(x,.agg ds)∈laid) (hi:i < m):∃ l z,ds[i]?=some (.agg l)/\l[f]?=some (.lit (.int k z))/\W.cell? ⟨g,i*c+o,none⟩=some (.int k z):=by
 obtain ⟨fuel,q,cs,d,h1,h2,h3⟩:=vY hg ht hu hi h hm;rw [hc] at h2;obtain ⟨xs,n,_,ex,_,hxl,hel⟩:=DataW.trod_struct he h2;obtain ⟨fd,hfd,hfe⟩:=Option.map_eq_some_iff.1 hf;have h4:=hel f fd hfd;have hlt:f < fs.size:=(Array.getElem?_eq_some_iff.1 hfd).1;simp only [Prod.mk.injEq] at hfe;obtain ⟨rfl,rfl⟩:=hfe;rw [c1,List.getElem?_eq_getElem (by omega)] at h4;obtain ⟨z,e1,e2,_⟩:=DataW.trod_int hk h4;have e3:d=.agg (xs.map (·.1)):=congrArg Prod.fst ex
 refine ⟨_,z,by rw [h1,e3],by rw [List.getElem?_map,List.getElem?_eq_getElem (by omega)];simp [e2],?_⟩;rw [h3];have h0:((((cs.drop (i*c)).take c).drop fd.offset).take 1)[0]?=some (.int k z):=by rw [e1];rfl
 simpa [List.getElem?_take,List.getElem?_drop,ho] using h0
end Go.Vc
