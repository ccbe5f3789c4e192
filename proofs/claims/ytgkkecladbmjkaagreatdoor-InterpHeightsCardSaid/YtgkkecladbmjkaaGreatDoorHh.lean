/- A command begins in the document's room; few bytes; the rooms of the laws. -/
import Derived.Test.YtgkkecladbmjkaaGreatDoorHg
import Derived.Test.YtgkkecladbmjkaaGreatDoorHe
import Derived.Laws.StructEq
import Derived.Test.YtgkkecladbmjkaaGreatDoorHb
import Derived.WalkKit
import Derived.ProofKit
import Derived.OpenShut
import Derived.WideKeyArgs
import Derived.ChangeArms
import Derived.FnData
set_option maxHeartbeats 8000000
namespace Go.Proofs.YtgkkecladbmjkaaGreatDoor
open Tryz
open Go.Vc Go.Tc
section
variable {q:QP} {w w':Ω} {K:O->Ω->Prop}
structure FX (q q':QP) (w w':Ω):Prop where
 pe:q'.xb=q.xb/\q'.yb=q.yb/\q'.size=q.size/\q'.iv=q.iv/\q'.fv=q.fv
 mu:∀ i,CJ q' i->CJ q i\/w.heap.size<=i
 fr:Fr (SX q) w w'
theorem FX.trans {q1 q2:QP} {w1 w2:Ω} (h:FX q q1 w w1) (k:FX q1 q2 w1 w2):FX q q2 w w2:=by
 obtain ⟨⟨a1,a2,a3,a4,a5⟩,m1,f1⟩:=h;obtain ⟨⟨b1,b2,b3,b4,b5⟩,m2,f2⟩:=k;refine ⟨⟨b1.trans a1,b2.trans a2,b3.trans a3,b4.trans a4,b5.trans a5⟩,λi hi=>?_,f1.trans f2 λi hi hm=>?_⟩
 ·rcases m2 i hi with h|h
  ·exact m1 i h
  ·exact .inr (Nat.le_trans f1.size h)
 ·rcases hm with hm|hm
  ·exact .inl (hm.trans a1)
  ·exact .inr (hm.trans a2)
theorem pL.relist (h:pL q w) {w1 w2:Ω} {g54 c54:Nat} {dv:O} {d':List Int} {k:Nat} {x:bS} (_:q.ar[k]?=some x) (hx:aG w w1) (h54:w1.ownsRow w.heap.size 127 5 (.slice (some ⟨g54,0,none⟩) q.ar.length c54) q.ar.length (iD (q.ar.set k { x with dv:=dv,data:=d' }))) (hdv:w1.ownsRow w.heap.size 5 1 dv d'.length (d'.map u8)) (hd:d'.length<=64)
  (f2:Fr (λi=>i=q.yb) w1 w2) (hy:aY w2 q.yb [i64 q.size,.slice (some ⟨g54,0,none⟩) q.ar.length c54] 156) :
  pL { q with g:=g54,cap:=c54,ar:=q.ar.set k { x with dv:=dv,data:=d' } } w2/\FX q { q with g:=g54,cap:=c54,ar:=q.ar.set k { x with dv:=dv,data:=d' } } w w2:=by
 have hlen:(q.ar.set k { x with dv:=dv,data:=d' }).length=q.ar.length:=by simp
 have each:∀ a∈q.ar.set k { x with dv:=dv,data:=d' },a={ x with dv:=dv,data:=d' }\/a∈q.ar:=λa ha=>(List.mem_or_eq_of_mem_set ha).symm;have nD:∀ {i},CJ q i->i≠q.yb:=λhi e=>h.dj q.yb (.inr rfl) (e▸hi);have yl:q.yb < w.heap.size:=h.ybox.lt;have xl:q.xb < w.heap.size:=h.xbox.lt;refine ⟨⟨f2.seg (h.xbox.ext hx) h.xy,by rw [hlen];exact hy,?_,λa ha=>?_,λa ha=>?_,f2.own (hx.own h.qp) λi hi=>nD (.inr (.inr (.inl hi))),f2.own (hx.own h.qs) λi hi=>nD (.inr (.inr (.inr hi))),h.lp,h.ls,h.xy,λi hi hc=>?_,by rw [hlen];exact h.two,by rw [hlen];exact h.cnt,h.sz⟩,⟨rfl,rfl,rfl,rfl,rfl⟩,λi hi=>?_,?_⟩
 ·rw [hlen];exact aP (f2.own h54 λi hi e=>by have:=(h54.lt i hi).1;omega) (Nat.zero_le _)
 ·rcases each a ha with rfl|ha
  ·exact aP (f2.own hdv λi hi e=>by have:=(hdv.lt i hi).1;omega) (Nat.zero_le _)
  ·exact f2.own (hx.own (h.data a ha)) λi hi=>nD (.inr (.inl ⟨a,ha,hi⟩))
 ·rcases each a ha with rfl|ha
  ·exact hd
  ·exact h.len a ha
 ·have hl:i < w.heap.size:=h.hi i (.inl hi);rcases hc with hc|⟨a,ha,hc⟩|hc|hc
  ·have:=(h54.lt g54 rfl).1;have hc:i=g54:=hc;omega
  ·rcases each a ha with rfl|ha
   ·have:=(hdv.lt i hc).1;omega
   ·exact h.dj i hi (.inr (.inl ⟨a,ha,hc⟩))
  ·exact h.dj i hi (.inr (.inr (.inl hc)))
  ·exact h.dj i hi (.inr (.inr (.inr hc)))
 ·rcases hi with hc|⟨a,ha,hc⟩|hc|hc
  ·have hc:i=g54:=hc;exact .inr (by have:=(h54.lt g54 rfl).1;omega)
  ·rcases each a ha with rfl|ha
   ·exact .inr (hdv.lt i hc).1
   ·exact .inl (.inr (.inl ⟨a,ha,hc⟩))
  ·exact .inl (.inr (.inr (.inl hc)))
  ·exact .inl (.inr (.inr (.inr hc)))
 ·exact (Fr.of_ext (S:=SX q) hx).trans (f2.mono λi hi=>.inr hi) λ_ _ h=>h
theorem vX (h:pL q w) {k:Nat} (hk2:k < 2) {x:bS} (hk:q.ar[k]?=some x) {sv:O} {l:List Int} (hv:gY w sv l) (hl:l.length<=64) :
  aD prog 87 #[LY q,i64 ((k:Int)+1),sv] w λ_ w'=>∃ g' cap' dv,pL { q with g:=g',cap:=cap',ar:=q.ar.set k { x with dv:=dv,data:=l } } w'/\FX q { q with g:=g',cap:=cap',ar:=q.ar.set k { x with dv:=dv,data:=l } } w w':=by
 have hkl:k < q.ar.length:=(List.getElem?_eq_some_iff.1 hk).1;have hcnt:=h.cnt;apply aQk;unfold OU;obtain ⟨sa,sc,hsv⟩:=hv.shape;rw [hsv] at hv ⊢;refine aV.2 ?_;simp only [show ¬ ((k:Int)+1 < 1) by omega,cX,dZ,aH,reduceIte,Bool.false_eq_true,decide_false];simp only [show ¬ ((k:Int)+1 > 2) by omega,dZ,reduceIte,Bool.false_eq_true,decide_false];refine oA.2 (cX.2 ?_);simp only [show ¬ (((l.length:Nat):Int) > 64) by omega,aA,decide_false];refine FT λw4 h49 x4 l4=>?_;refine ⟨.inl ⟨_,rfl⟩,?_⟩;refine bB (h.ybox.ext x4).boxed bW cM rfl ?_;refine NZ h49 (x4.own h.list) (by omega) (by omega) (DZ λa ha=>bR (h.data a ha)) x4.size λg54 c54 w5 h54 hg54 hl54 l5=>?_;have X5:aG w w5:=x4.grown hg54 λi hi=>(h49.lt i hi).1;have s5:=X5.size;refine iJ.2 ?_;rw [show IntKind.i64.wrap ((k:Int)+1 - 1)=(k:Int) from by rw [aX (by omega)];omega];refine kC lD [] rfl rfl (by simp) rfl λv1 w6 ho1 x6=>?_;have X6:=X5.trans x6;have s6:=x6.size;refine aPq ho1 (hv.ext X6) (by omega) s6 λv2 w7 ho2 hg2 hl2=>?_;have f2:Fr (λi=>v1.ownBlock=some i) w6 w7:=Fr.of_grown hg2 λi hi=>hi;have X7:aG w w7:=X6.grown hg2 λi hi=>Nat.le_trans s5 (ho1.lt i hi).1
 have h54':=f2.own (x6.own h54) λi hi e=>by
  have:g54=i:=by simpa [Value.ownBlock] using hi
  have:=(ho1.lt i e).1;omega
 have ho2':=aP ho2 s5;refine V.ok (nG (by omega) (by omega)) ?_;have e:0+((k:Nat):Int).toNat*5=k*5:=by omega
 rw [e];refine V.ok iN ?_;have hcell:=h54'.cellAt (k*5+4) (by omega);rw [iS hk (by omega:4 < 5)] at hcell;refine U.ok (kG lJ (bR ho2) hcell (h54'.frozenAt _)) ?_;refine ⟨.inl ⟨_,rfl⟩,?_⟩;have f8:Fr (λi=>i=g54) w7 (w7.setCell ⟨g54,k*5+4,none⟩ v2):=Fr.of_set rfl;have row8:=(h54'.stored (k*5+4) v2).1;rw [<- wG hk v2 l] at row8
 have hne:∀ i,v2.ownBlock=some i->i≠g54:=λi hi e=>by
  have h6:=(ho2.lt i hi).1;have:=(h54.lt g54 rfl).2;omega
 have hdv8:=f8.own ho2' hne;have X8:aG w (w7.setCell ⟨g54,k*5+4,none⟩ v2):=f8.ext X7 λi hi=>by rw [hi];exact (h54.lt _ rfl).1
 generalize w7.setCell ⟨g54,k*5+4,none⟩ v2=w8 at row8 hdv8 X8 ⊢;refine V.ok pC ?_;have hy8:=h.ybox.ext X8;refine sT oI hy8 rfl (by simp) rfl ?_;obtain ⟨h9,f9⟩:=h.relist hk X8 row8 hdv8 hl (Fr.of_set rfl) (hy8.set 1 _);exact ⟨g54,c54,v2,h9,f9⟩
theorem pL.clear (h:pL q w):pL { q with pub:=.slice none 0 0,sec:=.slice none 0 0,tp:=[],ts:=[] } ((w.setCell ⟨q.xb,0+3,none⟩ (.slice none 0 0)).setCell ⟨q.xb,0+4,none⟩ (.slice none 0 0))/\Fr (λi=>i=q.xb) w ((w.setCell ⟨q.xb,0+3,none⟩ (.slice none 0 0)).setCell ⟨q.xb,0+4,none⟩ (.slice none 0 0)):=by
 have r1:=h.xbox.set (j:=3) (by simp) (.slice none 0 0);have r2:=r1.set (j:=4) (by simp) (.slice none 0 0);have f1:Fr (λi=>i=q.xb) w (w.setCell ⟨q.xb,0+3,none⟩ (.slice none 0 0)):=Fr.of_set rfl;have f:Fr (λi=>i=q.xb) w ((w.setCell ⟨q.xb,0+3,none⟩ (.slice none 0 0)).setCell ⟨q.xb,0+4,none⟩ (.slice none 0 0)):=f1.set rfl;have hM:SX q q.xb:=.inl rfl;refine ⟨⟨r2,f.blk h.ybox λe=>h.xy e.symm,f.own h.list λi hi e=>h.dj i (e▸hM) (.inl (by simpa [Value.ownBlock] using hi.symm)),λa ha=>f.own (h.data a ha) λi hi e=>h.dj i (e▸hM) (.inr (.inl ⟨a,ha,hi⟩)),h.len,⟨rfl,.inl ⟨rfl,rfl⟩⟩,⟨rfl,.inl ⟨rfl,rfl⟩⟩,by simp,by simp,h.xy,λi hi hr=>?_,h.two,h.cnt,h.sz⟩,f⟩;rcases hr with hr|hr|hr|hr
 ·exact h.dj i hi (.inl hr)
 ·exact h.dj i hi (.inr (.inl hr))
 iterate 2
  ·cases hr
theorem SM (h:pL q w) {pv qv:O} {a b:List Int} (ha:gY w pv a) (hb:∀ w',Fr (SX q) w w'->gY w' qv b) :
  aD prog 43 #[rG q,pv,qv] w λr w'=>∃ q',r=.bool (jO q.ps a b).1/\q'.ps=(jO q.ps a b).2/\pL q' w'/\FX q q' w w':=by
 apply aRc;unfold PI;obtain ⟨a1,c1,rfl⟩:=ha.shape;obtain ⟨b1,d1,rfl⟩:=(hb w (Fr.refl _ _)).shape;have same:FX q q w w:=⟨⟨rfl,rfl,rfl,rfl,rfl⟩,λi hi=>.inl hi,Fr.refl _ _⟩;refine oA.2 (cX.2 ?_);by_cases h1:((a.length:Nat):Int) > 64
 ·simp only [h1,jJ,aH,aE,reduceIte,decide_true];refine ⟨q,?_,?_,h,same⟩<;>unfold jO<;>rw [if_pos (.inl (by omega))]
 simp only [h1,dZ,aH,reduceIte,Bool.false_eq_true,decide_false];refine oA.2 (cX.2 ?_);by_cases h2:((b.length:Nat):Int) > 64
 ·simp only [h2,aE,decide_true];refine ⟨q,?_,?_,h,same⟩<;>unfold jO<;>rw [if_pos (.inr (by omega))]
 simp only [h2,aA,decide_false];have hno:¬ (a.length > 64\/b.length > 64):=by omega
 have htwo:=h.two;obtain ⟨x,hx⟩:=bQ (l:=q.ar) (j:=0) (by omega);obtain ⟨y,hy⟩:=bQ (l:=q.ar) (j:=1) (by omega);refine ⟨.inl ⟨_,rfl⟩,?_⟩;refine bB h.xbox.boxed bJ dF rfl ?_;refine (vX h (k:=0) (by omega) hx ha (by omega)).mono λ_ w1 ⟨g1,c1',v1,k1,s1⟩=>?_;refine ⟨.inl ⟨_,rfl⟩,?_⟩;refine bB k1.xbox.boxed bJ dF rfl ?_;have hy1:(q.ar.set 0 { x with dv:=v1,data:=a })[1]?=some y:=by rw [List.getElem?_set_ne (by decide)];exact hy
 refine (vX k1 (k:=1) (by omega) hy1 (hb w1 s1.fr) (by omega)).mono λ_ w2 ⟨g2,c2,v2,k2,s2⟩=>?_;have S2:=s1.trans s2;refine ⟨.inl ⟨_,rfl⟩,?_⟩;refine V.ok rX ?_;refine DR lJ k2.xbox rfl (by simp) rfl ?_;have r3:=k2.xbox.set (j:=3) (by simp) (.slice none 0 0);refine ⟨.inl ⟨_,rfl⟩,?_⟩;refine V.ok wN ?_;refine DR lJ r3 rfl (by simp) rfl ?_;obtain ⟨k4,f4⟩:=k2.clear;refine ⟨_,?_,?_,k4,S2.trans ⟨⟨rfl,rfl,rfl,rfl,rfl⟩,λi hi=>?_,f4.mono λi hi=>.inl hi⟩⟩
 ·unfold jO;rw [if_neg hno]
 ·unfold jO;rw [if_neg hno];show (⟨q.size,((q.ar.set 0 { x with dv:=v1,data:=a }).set 1 { y with dv:=v2,data:=b }).map pa,[],[],q.tr⟩:PS)=_;rw [uA (r:=2) hy1 (by omega),uA (r:=1) hx (by omega)];rfl
 ·rcases hi with hm|hm|hm|hm
  ·exact .inl (.inl hm)
  ·exact .inl (.inr (.inl hm))
  iterate 2
   ·cases hm
end
section
variable {l:List bF} {p:iG} {q:QP} {vs:List O} {fd:List (List Int)} {B:Nat} {w w':Ω}
theorem QH.fr {S:Nat->Prop} (h:QH l p fd B w) (f:Fr S w w') (hn:∀ a i,BR p a i->¬ S i):QH l p fd B w':=by
 obtain ⟨cs,h1,h2⟩:=h.iv;refine ⟨h.room.fr f λi hi=>hn .rm i hi,⟨cs,f.own h1 λi hi=>hn .mb i hi,λk i hk=>?_⟩,f.own h.fv λi hi=>hn .fo i hi,λk v d hk hd=>f.own (h.row k v d hk hd) λi hi=>hn .fd i ⟨v,List.mem_of_getElem? hk,hi⟩,h.dj,h.sep.step f.size .ex λa i ha=>.inl ha,h.ge,Nat.le_trans h.hB f.size⟩;obtain ⟨pk,h3,h4⟩:=h2 k i hk;exact ⟨pk,h3,h4.fr f λi hi=>hn .im i hi⟩
theorem RBd.fr {l:List (cN × bF)} {S:Nat->Prop} (h:RBd l q vs fd B w) (f:Fr S w w') (hn:∀ a i,BQ q vs a i->¬ S i):RBd l q vs fd B w':=by
 obtain ⟨cs,h1,h2⟩:=h.iv;exact ⟨h.ref.fr f λi hs=>⟨λhm=>hn .rm i (.inl hm) hs,λhm=>hn .rm i (.inr hm) hs⟩,⟨cs,f.own h1 λi hi=>hn .mb i hi,h2⟩,h.one,f.own h.fv λi hi=>hn .fo i hi,λk v d hk hd=>f.own (h.row k v d hk hd) λi hi=>hn .fd i ⟨v,List.mem_of_getElem? hk,hi⟩,h.djv,h.sep.step f.size .ex λa i ha=>.inl ha,h.ge,Nat.le_trans h.hB f.size⟩
end
structure Two (l:List (cN × bF)) (p:iG) (q:QP) (vs:List O) (fd:List (List Int)) (B:Nat) (w:Ω):Prop where
 bld:QH (l.map (·.2)) p fd B w
 rbd:RBd l q vs fd B w
 no:∀ a b i,BR p a i->¬ BQ q vs b i
 hp:p.rp.ps=⟨p.rp.size,oZ.map pa,[],[],p.rp.tr⟩
 hq:q.ps=⟨p.rp.size,oZ.map pa,[],[],q.tr⟩
 fz:fd=l.map λx=>List.replicate x.2.fields.length 0
 one:∀ i,p.rp.B<=i->B<=i
theorem ND {w:Ω} {B e sz n g cap:Nat} {xs:List O} (h:w.ownsRow B e sz (.slice (some ⟨g,0,none⟩) n cap) n xs):lM w g 0 xs:=by
 obtain ⟨hl,h⟩:=h;rcases h with ⟨h,_⟩|⟨g',cap',cur,e1,hB,hb,hc,hm,hs,ht⟩
 ·cases h
 ·cases e1;refine ⟨cur,e,_,hb,?_,.inl rfl,λj v hj=>?_⟩
  ·have:=Nat.mul_le_mul_right sz hc;rw [hl];omega
  ·rw [<- ht] at hj;rw [List.getElem?_take] at hj;split at hj
   ·rw [Nat.zero_add];simpa using hj
   ·cases hj
def zs (l:List (cN × bF)):List (List Int):=l.map λx=>List.replicate x.2.fields.length 0
def ps0 (size:Int):PS:=⟨size,oZ.map pa,[],[],[]⟩
def rm0 (l:List (cN × bF)) (size:Int) (a b:List Int):Rm:=⟨(jO (ps0 size) a b).2,zs l⟩
theorem LX (l:List (cN × bF)) (x:cN × bF):zs (l++[x])=zs l++[List.replicate x.2.fields.length 0]:=by simp [zs]
structure Rms (l:List (cN × bF)) (size:Int) (a b:List Int) (B:Nat) (p:iG) (q:QP) (vs:List O) (w:Ω):Prop where
 rms:XF (l.map (·.2)) (λ_=>False) p (rm0 l size a b) w
 rbd:RBd l q vs (zs l) B w
 no:∀ x y i,XB p (λ_=>False) x i->¬ BQ q vs y i
 ge:∀ x i,XB p (λ_=>False) x i->B<=i
 qs:q.ps=(jO (ps0 size) a b).2
theorem zH {α:Type} {l:List α} {k:Nat} {x:α} (h:l[k]?=some x):l.take (k+1)=l.take k++[x]:=by
 rw [List.take_add_one,h];rfl
structure aPs (l:List (cN × bF)) (size:Int) (B:Nat) (p:iG) (q:QP) (vs:List O) (w:Ω):Prop where
 bld:QH (l.map (·.2)) p (zs l) B w
 rbd:RBd l q vs (zs l) B w
 no:∀ a b i,BR p a i->¬ BQ q vs b i
 hp:p.rp.ps=ps0 size
 hq:q.ps=ps0 size
theorem aPc {w2:Ω} {rb hb B:Nat} {size:Int} (h1:B < hb) (h2:hb < rb) (hrb:aY w2 rb [pt hb,nl,nl,nl,nl] 134) (hh:eZ w2 hb B size B 2 oZ) (h6:B<=w2.heap.size) (z1:64<=size) (z2:size<=1000) :
  QH [] ⟨⟨rb,hb,B,B,2,0,size,oZ,nl,nl,nl,nl,nl,[],[],[]⟩,0,[],λ_=>False,0⟩ [] B w2/\∀ a i,BR ⟨⟨rb,hb,B,B,2,0,size,oZ,nl,nl,nl,nl,nl,[],[],[]⟩,0,[],λ_=>False,0⟩ a i->a=.rm/\(i=rb\/i=hb\/i=B):=by
 have nob:∀ i,nl.ownBlock≠some i:=λi h=>by cases h
 have l1:=hrb.lt;have l4:=hh.heap.lt
 have mp:∀ i,iX ⟨rb,hb,B,B,2,0,size,oZ,nl,nl,nl,nl,nl,[],[],[]⟩ i->i=rb\/i=hb\/i=B:=λi hi=>by
  rcases hi with hi|hi|hi|⟨a,ha,hi⟩|hi|hi
  ·exact .inl hi
  ·exact .inr (.inl hi)
  ·exact .inr (.inr hi)
  ·rw [mJ a ha] at hi;cases hi
  iterate 2
   ·cases hi
 have bp:∀ a i,BR ⟨⟨rb,hb,B,B,2,0,size,oZ,nl,nl,nl,nl,nl,[],[],[]⟩,0,[],λ_=>False,0⟩ a i->a=.rm/\(i=rb\/i=hb\/i=B):=λa i hi=>by
  cases a with
  | rm=>exact ⟨rfl,mp i hi⟩
  | fd=>obtain ⟨v,hv,_⟩:=hi;simp at hv
  | fo=>cases hi
  | mb=>cases hi
  | im=>exact hi.elim
  | fr=>exact hi.elim
  | ex=>exact hi.elim
 have d0:∀ a∈oZ,a.data=[]:=λa ha=>(qT a ha).2
 exact ⟨⟨⟨hrb.seg,hh,World.ownsRow_nil _ _ _ _,World.ownsRow_nil _ _ _ _,Nat.zero_le _,Nat.zero_le _,λx hx=>absurd hx (nob x),λa ha x hx=>(by rw [mJ a ha] at hx;cases hx),λa ha x hx=>(by rw [mJ a ha] at hx;cases hx),nob _,nob _,(by show rb≠hb;omega),λx hx=>⟨(by
   have hx:x=rb\/x=hb:=hx;show x≠B;omega),λa ha=>(by rw [mJ a ha];intro e;cases e),nob _,nob _⟩,(by show 2<=oZ.length;decide),⟨(by show 0<=size;omega),z2⟩,λa ha=>(by rw [d0 a ha];intro b hb;simp at hb)⟩,
   ⟨[],World.ownsRow_nil _ _ _ _,λk i hk=>(by simp at hk)⟩,World.ownsRow_nil _ _ _ _,λk v d hk=>(by simp at hk),λj k u v i hj=>(by simp at hj),⟨λa b i ha hb=>(bp a i ha).1.trans (bp b i hb).1.symm,λa i ha=>(by have:=(bp a i ha).2;omega)⟩,λa i ha=>(by have:=(bp a i ha).2;omega),h6⟩,bp⟩
theorem aVe {w2:Ω} {rb hb xb yb B g:Nat} {size:Int} (h1:B < hb) (h2:hb < rb) (hrb:aY w2 rb [pt hb,nl,nl,nl,nl] 134) (hh:eZ w2 hb B size B 2 oZ) (h3:g < yb) (h4:yb < xb) (hxb:aY w2 xb [pt yb,nl,nl,nl,nl] 139) (hyb:aY w2 yb [i64 size,.slice (some ⟨g,0,none⟩) 2 2] 156) (har:aY w2 g (iD oZ) 127) (h5:rb < g) (h6:B<=w2.heap.size) (z1:64<=size) (z2:size<=1000) :
  aPs [] size B ⟨⟨rb,hb,B,B,2,0,size,oZ,nl,nl,nl,nl,nl,[],[],[]⟩,0,[],λ_=>False,0⟩ ⟨xb,yb,0,g,2,size,oZ,nl,nl,nl,nl,nl,[],[],[]⟩ [] w2:=by
 have nob:∀ i,nl.ownBlock≠some i:=λi h=>by cases h
 have l1:=hrb.lt;have l2:=hxb.lt;have l3:=hyb.lt;have l4:=hh.heap.lt;have l5:=har.lt
 have mq:∀ i,SX ⟨xb,yb,0,g,2,size,oZ,nl,nl,nl,nl,nl,[],[],[]⟩ i\/CJ ⟨xb,yb,0,g,2,size,oZ,nl,nl,nl,nl,nl,[],[],[]⟩ i->i=xb\/i=yb\/i=g:=λi hi=>by
  rcases hi with (hi|hi)|hi|⟨a,ha,hi⟩|hi|hi
  ·exact .inl hi
  ·exact .inr (.inl hi)
  ·exact .inr (.inr hi)
  ·rw [mJ a ha] at hi;cases hi
  iterate 2
   ·cases hi
 have bp:=(aPc h1 h2 hrb hh h6 z1 z2).2
 have bq:∀ a i,BQ ⟨xb,yb,0,g,2,size,oZ,nl,nl,nl,nl,nl,[],[],[]⟩ [] a i->a=.rm/\(i=xb\/i=yb\/i=g):=λa i hi=>by
  cases a with
  | rm=>exact ⟨rfl,mq i hi⟩
  | fd=>obtain ⟨v,hv,_⟩:=hi;simp at hv
  | fo=>cases hi
  | mb=>cases hi
  | im=>exact hi.elim
  | fr=>exact hi.elim
  | ex=>exact hi.elim
 have d0:∀ a∈oZ,a.data=[]:=λa ha=>(qT a ha).2
 refine ⟨(aPc h1 h2 hrb hh h6 z1 z2).1,
  ⟨⟨hxb.seg,hyb,aP (dX har rfl (Nat.le_refl _) (by show oZ.length<=maxLen;unfold maxLen;decide)) (Nat.zero_le _),λa ha=>(by rw [(qT a ha).1,(qT a ha).2];exact World.ownsRow_nil _ _ _ _),λa ha=>(by rw [d0 a ha];exact Nat.zero_le _),World.ownsRow_nil _ _ _ _,World.ownsRow_nil _ _ _ _,Nat.zero_le _,Nat.zero_le _,(by show xb≠yb;omega),λi hi hc=>?_,(by show 2<=oZ.length;decide),(by show oZ.length<=1000;decide),⟨(by show 0<=size;omega),z2⟩⟩,⟨[],World.ownsRow_nil _ _ _ _,rfl,λk x hk=>(by simp at hk)⟩,rfl,World.ownsRow_nil _ _ _ _,λk v d hk=>(by simp at hk),λj k u v i hj=>(by simp at hj),⟨λa b i ha hb=>(bq a i ha).1.trans (bq b i hb).1.symm,λa i ha=>(by have:=(bq a i ha).2;omega)⟩,λa i ha=>(by have:=(bq a i ha).2;omega),h6⟩,λa b i ha hb=>?_,rfl,rfl⟩
 ·have e1:i=xb\/i=yb:=hi
  have e2:i=g:=by
   rcases hc with hi|⟨a,ha,hi⟩|hi|hi
   ·exact hi
   ·rw [mJ a ha] at hi;cases hi
   iterate 2
    ·cases hi
  omega
 ·have:=(bp a i ha).2;have:=(bq b i hb).2;omega
theorem TX {w:Ω} {lv av bv:O} {l:List (cN × bF)} {a b:List Int} {size:Int} (hl:mZ w lv l) (h3:l.length<=3) (h1:0 < l.length) (z1:64<=size) (z2:size<=1000) (ha:gY w av a) (hb:gY w bv b) (oka:pQ a) (okb:pQ b) (la:a.length<=64) (lb:b.length<=64) :
  aD prog 9 #[i64 size,lv,av,bv] w λrv w'=>∃ p q vs,rv=.tuple #[lC p.rp,rG q]/\Rms l size a b w.heap.size p q vs w'/\aG w w':=by
 apply aUc;suffices key:∀ R:O->Ω->Prop,(∀ p q vs w',Rms l size a b w.heap.size p q vs w'->aG w w'->R (.tuple #[lC p.rp,rG q]) w')->LS (i64 size) lv av bv w R from key _ λp q vs w' g1 g2=>⟨p,q,vs,rfl,g1,g2⟩;intro R hR;unfold LS;refine (uS z1 (by omega)).mono λrv w1 ⟨⟨rb,hb',hrv,hlo,hlt,hrb,hh⟩,x1⟩=>?_;subst hrv;refine cH.2 (cG.2 (aT.2 ?_));simp only [ne_eq,not_true_eq_false,dZ,aH,reduceIte,Bool.false_eq_true,decide_false];refine V.ok (iO underlying26) ?_;simp only [dZ,aH,reduceIte,Bool.false_eq_true]
 have hheap:∀ {K:O->Ω->Prop},K (pt hb') w1->aD prog 39 #[pt rb] w1 K:=λhk=>by
  apply aRh;unfold PL;exact ⟨.inl ⟨_,rfl⟩,kK bX dY hrb.seg rfl hk⟩
 refine hheap ?_;refine V.ok (iO underlying100) ?_;simp only [aA];refine KB.mono λrv w2 ⟨⟨xb,yb,hrv,hyw,hyx,hxb,hyb,har⟩,x2⟩=>?_;subst hrv;have x12:=x1.trans x2;have s1:=x1.size;have s2:=x2.size;have lrb:=hrb.lt;have lxb:=hxb.lt;have lyb:=hyb.lt;have hh2:=hh.ext x2
 have h0:aPs [] size w.heap.size ⟨⟨rb,hb',w.heap.size,w.heap.size,2,0,size,oZ,nl,nl,nl,nl,nl,[],[],[]⟩,0,[],λ_=>False,0⟩ ⟨xb,yb,0,w1.heap.size,2,size,oZ,nl,nl,nl,nl,nl,[],[],[]⟩ [] w2:=by
  refine aVe hlo hlt (hrb.ext x2) hh2 hyw hyx hxb hyb har (by omega) (by omega) z1 z2
 refine ⟨λt w'=>∃ (k:Nat) (p:iG) (q:QP) (vs:List O),t=i64 (k:Int)/\k<=l.length/\aPs (l.take k) size w.heap.size p q vs w'/\p.rp.rb=rb/\q.xb=xb/\aG w w',λt _=>l.length - (RowKit.intOf t).toNat,⟨0,_,_,_,rfl,Nat.zero_le _,h0,rfl,rfl,x12⟩,?_⟩;rintro _ w3 ⟨k,p,q,vs,rfl,hk,H,hprb,hqxb,x3⟩ _;have hl3:=hl.ext x3;refine wZ kM hl3 (aV.2 (aL (λhlt=>?_) λhge=>?_))
 ·obtain ⟨x,hx⟩:=bQ (l:=l) (j:=k) (by omega);obtain ⟨pv,im⟩:=x;refine ldS kM jQ hl3 hx LK λrow ⟨hrow,hA,ht⟩=>?_;have hrow:(Value.agg row.toArray)=pv.val im:=by rw [hrow];rfl
  rw [hrow];have ekl:(l.take k).length=k:=by simp;omega
  have er:(Value.pointer (some ⟨rb,0,none⟩))=lC p.rp:=by unfold lC;rw [hprb]
  have eq:(Value.pointer (some ⟨xb,0,none⟩))=rG q:=by unfold rG;rw [hqxb]
  show aD prog 35 #[pt rb,pv.val im] w3 _;rw [show pt rb=lC p.rp from er];refine (xW H.bld (by simp [];omega) (by simp [zs]) hA.at_ ht.1).mono λrv w4 ⟨p4,hrv,g4,e41,e42,F4,m4⟩=>?_;subst hrv;have X4:aG w w4:=F4.ext x3 λi ⟨a,hi⟩=>H.bld.ge a i hi;refine cH.2 (cG.2 (eJ.2 ?_));simp only [Bool.not_true,aA,Bool.not_true];refine ldS kM jQ (hl.ext X4) hx LK λrow ⟨hrow,hA4,_⟩=>?_;have hrow:(Value.agg row.toArray)=pv.val im:=by rw [hrow];rfl
  rw [hrow];show aD prog 41 #[pt xb,pv.val im] w4 _;rw [show pt xb=rG q from eq];have R4:=H.rbd.fr F4 λa i hi ⟨b,hb⟩=>H.no b a i hb hi;refine (SV R4 (by rw [ekl];omega) (by simp [zs]) hA4.at_ (by have h8:((im.fields.length:Nat):Int)<=8:=ht.1.1.2;show im.fields.length<=64;omega)).mono λrv w5 ⟨q5,vs5,g5,e5,F5,m5⟩=>?_;have X5:aG w w5:=F5.ext X4 λi hi=>by rw [hi];exact H.rbd.ge .rm _ (.inl (.inl rfl))
  have noX:∀ a i,BR p4 a i->i≠q.xb:=λa i hi he=>by
   rcases m4 a i hi with h|h
   ·exact H.no a .rm i h (.inl (.inl he))
   ·have:=H.rbd.ref.xbox.lt;omega
  have g45:=g4.fr F5 λa i hi he=>noX a i hi he;refine bT.2 ?_;rw [aX (by omega)];have s4:=F4.size;refine ⟨⟨k+1,p4,q5,vs5,by simp,by omega,⟨?_,?_,λa b i hi hj=>?_,by rw [e42];exact H.hp,?_⟩,by rw [e41];exact hprb,by rw [e5];exact hqxb,X5⟩,?_⟩
  ·rw [zH hx,List.map_append,LX];exact g45
  ·rw [zH hx,LX];exact g5
  ·rcases m5 b i hj with h|h
   ·rcases m4 a i hi with h'|h'
    ·exact H.no a b i h' h
    ·have:=H.rbd.sep.lt b i h;omega
   ·have:=g4.sep.lt a i hi;omega
  ·rw [e5];exact H.hq
  ·have e1:RowKit.intOf (i64 ((k:Int)+1))=(k:Int)+1:=rfl;have e2:RowKit.intOf (i64 (k:Int))=(k:Int):=rfl;simp only [e1,e2];omega
 ·have hkl:k=l.length:=by omega
  subst hkl;rw [List.take_length] at H;have er:(Value.pointer (some ⟨rb,0,none⟩))=lC p.rp:=by unfold lC;rw [hprb]
  have eq:(Value.pointer (some ⟨xb,0,none⟩))=rG q:=by unfold rG;rw [hqxb]
  have hbeg:(jO (ps0 size) a b).1=true:=by unfold jO;rw [if_neg (by omega)]
  show aD prog 42 #[pt rb,av,bv] w3 _;rw [show pt rb=lC p.rp from er];refine (SN H.bld.room (ha.ext x3) (λw' f=>hb.ext (f.ext x3 λi hi=>H.bld.ge .rm i hi)) oka okb).mono λrv w4 ⟨p4,hrv,e4,g4,s4⟩=>?_;subst hrv;rw [H.hp] at e4 ⊢;rw [hbeg];refine eJ.2 ?_;simp only [Bool.not_true,dZ,aH,reduceIte,Bool.false_eq_true,Bool.not_true];have X4:aG w w4:=s4.fr.ext x3 λi hi=>H.bld.ge .rm i hi;have R4:=H.rbd.fr s4.fr λa i hi hm=>H.no .rm a i hm hi;show aD prog 43 #[pt xb,av,bv] w4 _;rw [show pt xb=rG q from eq];refine (SM R4.ref (ha.ext X4) (λw' f=>hb.ext (f.ext X4 λi hi=>R4.ge .rm i (.inl hi)))).mono λrv w5 ⟨q5,hrv,e5,g5,s5⟩=>?_;subst hrv;rw [H.hq] at e5 ⊢;rw [hbeg];refine eJ.2 ?_;simp only [Bool.not_true,aA,Bool.not_true];have X5:aG w w5:=s5.fr.ext X4 λi hi=>R4.ge .rm i (.inl hi);obtain ⟨⟨eqx,eqy,eqs,eqi,eqf⟩,mq,fq⟩:=s5;have fp:=s4.fr;have n4:=fp.size;have n5:=fq.size;have hzl:(zs l).length=l.length:=by simp [zs]
  obtain ⟨fo,fcap,hfo⟩:=lS H.bld.fv (by omega);have F35:Fr (λi=>iX p.rp i\/SX q i) w3 w5:=fp.or fq
  have nM:∀ {a:Lb} {i:Nat},a≠.rm->BR p a i->¬ (iX p.rp i\/SX q i):=λ{a i} ha hi hm=>by
   rcases hm with hm|hm
   ·exact ha (H.bld.sep.dj a .rm i hi hm)
   ·exact H.no a .rm i hi (.inl hm)
  obtain ⟨cs,hiv,hrows⟩:=H.bld.iv
  have himg3:uO (λi=>p.IB i\/p.rp.iv.ownBlock=some i) w3 λw'=>jL w' p.rp.iv (l.map (·.2)):=λw' f=>⟨cs,aC.of_own (f.own hiv λi hi hn=>hn (.inr hi)),λk i hk=>by
   obtain ⟨pk,h1,h2⟩:=hrows k i hk;exact ⟨_,rfl,pk,h1,h2 w' (f.mono λj hj hn=>hj (.inl hn))⟩⟩
  have himg5:=himg3.fr F35 λi hi=>by
   rcases hi with hi|hi
   ·exact nM (a:=.im) (by intro e;cases e) hi
   ·exact nM (a:=.mb) (by intro e;cases e) hi
  have hrw5:∀ (k:Nat) v d,p.vs[k]?=some v->(zs l)[k]?=some d->w5.ownsRow 0 21 1 v d.length (d.map i32):=λk v d hk hd=>F35.own (H.bld.row k v d hk hd) λi hi=>nM (a:=.fd) (by intro e;cases e) ⟨v,List.mem_of_getElem? hk,hi⟩;have hfv5:=F35.own H.bld.fv λi hi=>nM (a:=.fo) (by intro e;cases e) hi;have hlv:p.vs.length=(zs l).length:=by have:=H.bld.fv.1;omega
  have cls:∀ {a:Lb} {i:Nat},XB { p with rp:=p4,fo:=fo,IB:=λi=>p.IB i\/p.rp.iv.ownBlock=some i } (λ_=>False) a i->(∃ c,BR p c i/\((a≠.im/\a=c)\/(a=.im/\(c=.im\/c=.mb))))\/(a=.rm/\w3.heap.size<=i/\i < w4.heap.size):=by
   intro a i hi;cases a with
   | rm=>
    rcases s4.mu i hi with h|h
    ·exact .inl ⟨.rm,h,.inl ⟨(by intro e;cases e),rfl⟩⟩
    ·exact .inr ⟨rfl,h,g4.hi i hi⟩
   | im=>
    rcases hi with h|h
    ·exact .inl ⟨.im,h,.inr ⟨rfl,.inl rfl⟩⟩
    ·exact .inl ⟨.mb,h,.inr ⟨rfl,.inr rfl⟩⟩
   | fo=>
    have hi:i=fo:=hi;exact .inl ⟨.fo,(by show p.rp.fv.ownBlock=some i;rw [hfo,hi];rfl),.inl ⟨(by intro e;cases e),rfl⟩⟩
   | fd=>exact .inl ⟨.fd,hi,.inl ⟨(by intro e;cases e),rfl⟩⟩
   | mb=>exact hi.elim
   | fr=>exact hi.elim
   | ex=>exact hi.elim
  have clq:∀ {a:Lb} {i:Nat},BQ q5 vs a i->(BQ q vs a i/\i < w4.heap.size)\/(a=.rm/\w4.heap.size<=i/\i < w5.heap.size):=by
   intro a i hi;have old:=λh=>R4.sep.lt a i h;cases a with
   | rm=>
    rcases hi with hi|hi
    ·have:SX q i:=hi.elim (λh=>.inl (h.trans eqx)) λh=>.inr (h.trans eqy);exact .inl ⟨.inl this,old (.inl this)⟩
    ·rcases mq i hi with h|h
     ·exact .inl ⟨.inr h,old (.inr h)⟩
     ·exact .inr ⟨rfl,h,g5.hi i (.inr hi)⟩
   | fo=>
    have hi:q5.fv.ownBlock=some i:=hi;rw [eqf] at hi;exact .inl ⟨hi,old hi⟩
   | mb=>
    have hi:q5.iv.ownBlock=some i:=hi;rw [eqi] at hi;exact .inl ⟨hi,old hi⟩
   | fd=>exact .inl ⟨hi,old hi⟩
   | im=>exact hi.elim
   | fr=>exact hi.elim
   | ex=>exact hi.elim
  have nQ:∀ {a:Lb} {i:Nat},a≠.rm->BQ q vs a i->¬ SX q i:=λ{a i} ha hi hm=>ha (R4.sep.dj a .rm i hi (.inl hm));have e4:p4.ps=(jO (ps0 size) a b).2:=e4;rw [show lC p.rp=lC p4 by unfold lC;rw [s4.rb],show rG q=rG q5 by unfold rG;rw [eqx]];refine hR { p with rp:=p4,fo:=fo,IB:=λi=>p.IB i\/p.rp.iv.ownBlock=some i } q5 vs w5 ⟨⟨g4.fr fq λi hm hr=>?_,⟨congrArg PS.size e4,congrArg PS.ar e4,congrArg PS.tp e4,congrArg PS.ts e4⟩,⟨⟨fcap,?_⟩,?_,hlv,hrw5,H.bld.dj,λv hv he=>?_⟩,?_,⟨λa b i ha hb=>?_,λa i ha=>?_⟩⟩,⟨g5,?_,R4.one,?_,?_,R4.djv,⟨λa b i ha hb=>?_,λa i ha=>?_⟩,λa i ha=>?_,by have:=R4.hB;omega⟩,λa b i ha hb=>?_,λa i ha=>?_,e5⟩ X5
  ·rcases s4.mu i hm with h|h
   ·exact H.no .rm .rm i h (.inl hr)
   ·have:=H.rbd.ref.hi i (.inl hr);omega
  ·show p4.fv=_;rw [s4.fv];exact hfo
  ·rw [hfo] at hfv5;exact ND hfv5
  ·have:=H.bld.sep.dj .fd .fo fo ⟨v,hv,he⟩ (by show p.rp.fv.ownBlock=some fo;rw [hfo];rfl);cases this
  ·show uO _ w5 λw'=>jL w' p4.iv _;rw [s4.iv];exact himg5
  ·rcases cls ha with ⟨c,hc,k1⟩|⟨k1,k2,k3⟩<;>rcases cls hb with ⟨d,hd,k4⟩|⟨k4,k5,k6⟩
   ·have hcd:=H.bld.sep.dj c d i hc hd;subst hcd;rcases k1 with ⟨k1,rfl⟩|⟨rfl,k1⟩<;>rcases k4 with ⟨k4,rfl⟩|⟨rfl,k4⟩
    ·rfl
    ·rcases k4 with rfl|rfl
     ·rfl
     ·exact ha.elim
    ·rcases k1 with rfl|rfl
     ·rfl
     ·exact hb.elim
    ·rfl
   ·have:=H.bld.sep.lt c i hc;omega
   ·have:=H.bld.sep.lt d i hd;omega
   ·rw [k1,k4]
  ·rcases cls ha with ⟨c,hc,_⟩|⟨_,_,_⟩
   ·have:=H.bld.sep.lt c i hc;omega
   ·omega
  ·obtain ⟨cs',r1,r2⟩:=R4.iv;rw [eqi];exact ⟨cs',fq.own r1 λi hi=>nQ (a:=.mb) (by intro e;cases e) hi,r2⟩
  ·rw [eqf];exact fq.own R4.fv λi hi=>nQ (a:=.fo) (by intro e;cases e) hi
  ·exact λk v d hk hd=>fq.own (R4.row k v d hk hd) λi hi=>nQ (a:=.fd) (by intro e;cases e) ⟨v,List.mem_of_getElem? hk,hi⟩
  ·rcases clq ha with ⟨ha,k1⟩|⟨k1,k2,k3⟩<;>rcases clq hb with ⟨hb,k4⟩|⟨k4,k5,k6⟩
   ·exact R4.sep.dj a b i ha hb
   iterate 2
    ·omega
   ·rw [k1,k4]
  ·rcases clq ha with ⟨ha,k1⟩|⟨k1,k2,k3⟩<;>omega
  ·rcases clq ha with ⟨ha,k1⟩|⟨k1,k2,k3⟩
   ·exact R4.ge a i ha
   ·have:=R4.hB;omega
  ·rcases clq hb with ⟨hb,k4⟩|⟨k4,k5,k6⟩<;>rcases cls ha with ⟨c,hc,k1⟩|⟨k1,k2,k3⟩
   ·exact H.no c b i hc hb
   ·have:=H.rbd.sep.lt b i hb;omega
   ·have:=H.bld.sep.lt c i hc;omega
   ·omega
  ·rcases cls ha with ⟨c,hc,k1⟩|⟨k1,k2,k3⟩
   ·exact H.bld.ge c i hc
   ·have:=H.bld.hB;omega
end Go.Proofs.YtgkkecladbmjkaaGreatDoor
namespace Go.Proofs.YtgkkecladbmjkaaGreatDoor
open Tryz
open Go.Vc Go.Tc
variable {w:Ω} {K:O->Ω->Prop}
structure Zm (w0:Ω) (lv:O) (code:List fO) (d:Nat) (w:Ω):Prop where
 ext:aG w0 w
 at_:∃ cv,aY w w0.heap.size [cv,bD,i64 0,lv,i64 (d:Int)] 252/\w.ownsRow (w0.heap.size+1) 70 3 cv code.length (hU code)
section
variable {w0 w':Ω} {lv:O} {code:List fO} {d:Nat} {loc:List Int}
theorem Zm.step (h:Zm w0 lv code d w) (hx:aG w w'):Zm w0 lv code d w':=by
 obtain ⟨x,cv,h1,h2⟩:=h;exact ⟨x.trans hx,cv,h1.ext hx,hx.own h2⟩
theorem VC (h:Zm w0 lv code d w) (hk:K (i64 0) w):aD prog 210 #[.pointer (some ⟨w0.heap.size,0,none⟩)] w K:=by
 obtain ⟨x,cv,h1,h2⟩:=h;apply PT;unfold yG;refine ⟨.inl ⟨_,rfl⟩,bB h1.boxed dQ aZ rfl (aFa.2 (aF.2 ?_))⟩;simp only [show (((0:Nat):Int)=0) by rfl,decide_true,aE];exact hk
theorem UU {m:Int} (hm:0 < m) (hk:K (i64 0) w):aD prog 11 #[i64 0,i64 m] w K:=by
 apply aBb;unfold DE;refine rm hm λc hc _ _=>?_;have hc:c=0:=by rw [hc];simp
 subst hc;refine aV.2 ?_;simp only [show ¬ ((0:Int) < 0) by decide,decide_false,aA];exact hk
theorem aNf {op a b:Int} (h:Zm w0 lv code d w) (hl:code.length<=1000) (hk:∀ w',Zm w0 lv (code++[⟨op,a,b⟩]) d w'->K (.tuple #[]) w'):aD prog 132 #[.pointer (some ⟨w0.heap.size,0,none⟩),i64 op,i64 a,i64 b] w K:=by
 obtain ⟨x,cv,a1,a2⟩:=h;have sx:=a1.lt;apply QC;unfold yP;refine ⟨.inl ⟨_,rfl⟩,bB (aY.boxed a1) bN gM rfl ?_⟩;refine bld rM [(0,i64 op),(1,i64 a),(2,i64 b)] rfl rfl ?_;refine xT underlying71 nL rfl (by decide) [.agg #[i64 op,i64 a,i64 b]] rfl rfl (by intro v hv;rw [List.mem_singleton] at hv;subst hv;rfl) (by decide) (by decide) λuv w5 ho5 x5=>?_;have s5:=x5.size;refine apG underlying71 nL rfl (by decide) (x5.own a2) (aC.of_own ho5) (by rfl) (by omega) (by unfold maxLen;omega) (by omega) λv6 w6 ho6 hg6 hl6=>?_;have a1':aY w6 w0.heap.size _ _:=(Fr.of_grown (S:=λk=>cv.ownBlock=some k) hg6 λk hk=>hk).blk (a1.ext x5) λhk=>by have:=(a2.lt _ hk).1;omega
 have x6:aG w0 w6:=(x.trans x5).grown hg6 λk hk=>by have:=(a2.lt k hk).1;omega
 have e6:hU code++[Value.agg #[i64 op,i64 a,i64 b]].flatMap (λv=>v.cells.toList)=hU (code++[⟨op,a,b⟩]):=by rw [AB];rfl
 rw [e6] at ho6;refine ⟨.inl ⟨_,rfl⟩,yV bN tI a1' (n:=5) rfl (by decide) (bU ho6) (hk _ ⟨x6.setCell (Nat.le_refl _) _,v6,a1'.set 0 _,?_⟩)⟩;rw [List.length_append];exact (Fr.of_set (S:=λi=>i=w0.heap.size) rfl).own ho6 λk hk he=>by have:=(ho6.lt k hk).1;omega
def idx (loc:List Int) (k:Int) (j:Nat):List Int:=((List.range j).filter λi=>decide (bM loc i=k)).map Int.ofNat
theorem FE (loc:List Int) (k:Int) (j:Nat):idx loc k (j+1)=idx loc k j++if bM loc j=k then [(j:Int)] else []:=by
 unfold idx;rw [List.range_succ,List.filter_append,List.map_append];by_cases h:bM loc j=k<;>simp [h]
theorem aDv (loc:List Int) (k:Int):∀ j,(idx loc k j).length<=j:=λj=>by
 unfold idx;rw [List.length_map];exact Nat.le_trans (List.length_filter_le _ _) (by simp)
theorem VN {k z:Int} (h:Zm w0 lv code d w) (hloc:aS w0 lv loc) (hll:loc.length<=100) (hz:(idx loc k loc.length)[0]?=some z) (hk:∀ w',Zm w0 lv code d w'->K (.tuple #[i64 z,.bool true]) w') :
  aD prog 211 #[.pointer (some ⟨w0.heap.size,0,none⟩),i64 k] w K:=by
 apply PR;unfold yF;refine ⟨λsv v w'=>∃ (j:Nat),v=i64 j/\j<=loc.length/\aG w w'/\w'.ownsRow w.heap.size 3 1 sv (idx loc k j).length ((idx loc k j).map i64),λ_ v _=>loc.length - (RowKit.intOf v).toNat,⟨0,rfl,Nat.zero_le _,aG.refl _,World.ownsRow_nil _ _ _ _⟩,?_⟩;rintro sv _ w1 ⟨j,rfl,hj,x1,ho⟩ _;have h1:=h.step x1;obtain ⟨x,cv,a1,a2⟩:=h1;have hloc:=hloc.ext x;have hjl:=aDv loc k j;refine ⟨.inl ⟨_,rfl⟩,bB (aY.boxed a1) dP aZ rfl (gD aK hloc (aV.2 (aL (λhlt=>?_) λhge=>?_)))⟩
 ·refine ⟨.inl ⟨_,rfl⟩,bB (aY.boxed a1) dP aZ rfl ?_⟩;refine mH aK aJ hloc (by omega) (by omega) (fB (pV (l:=loc) (j:=j) (by omega))) (aF.2 (aL (λhe=>?_) λhe=>?_))
  ·refine kC bE [i64 j] rfl rfl (by simp) rfl λv2 w2 ho2 x2=>?_;refine SQ bE (x2.own ho) (aC.of_own ho2) rfl (by omega) (by unfold maxLen;omega) (x1.trans x2).size λv3 w3 ho3 hg3=>?_;refine mR (by omega) ?_;refine ⟨⟨j+1,rfl,by omega,(x1.trans x2).grown hg3 λq hq=>((x2.own ho).lt q hq).1,?_⟩,by simp only [aU];omega⟩;rw [FE,if_pos he];simpa using ho3
  ·refine mR (by omega) ?_;refine ⟨⟨j+1,rfl,by omega,x1,?_⟩,by simp only [aU];omega⟩;rw [FE,if_neg he,List.append_nil];exact ho
 have hjj:j=loc.length:=by omega
 subst hjj;have hpos:0 < (idx loc k loc.length).length:=(List.getElem?_eq_some_iff.1 hz).1;refine gD aK (aC.of_own ho) (aF.2 ?_);simp only [show ¬ (((idx loc k loc.length).length:Int)=0) by omega,decide_false,aA];refine VC ⟨x,cv,a1,a2⟩ ?_;refine gD aK (aC.of_own ho) (UU (by omega) ?_);refine aNt aK aJ ho (by omega) (by omega) (u:=i64 z) (by show ((idx loc k loc.length).map i64)[0]?=_;rw [List.getElem?_map,hz];rfl) ?_;exact hk _ ⟨x,cv,a1,a2⟩
theorem aVy {k z:Int} (h:Zm w0 lv code d w) (hl:code.length<=1000) (hloc:aS w0 lv loc) (hll:loc.length<=100) (hz:(idx loc k loc.length)[0]?=some z) (hk:∀ w',Zm w0 lv (code++[⟨2,z,0⟩]) d w'->K (.tuple #[]) w') :
  aD prog 178 #[.pointer (some ⟨w0.heap.size,0,none⟩),i64 k] w K:=by
 apply PZ;unfold yM;refine VC h (UU (by decide) ?_);refine ⟨λt w'=>t=.bool true/\w'=w,?_,?_⟩
 ·refine aF.2 ?_;simp only [decide_true,aE];exact ⟨trivial,trivial⟩
 rintro _ w1 ⟨rfl,hw⟩ _;have hw:=hw.symm;subst hw;simp only [aE];refine VN h hloc hll hz λw2 h2=>?_;refine cH.2 (cG.2 ?_);simp only [aE];exact aNf h2 hl hk
theorem aSn {d':Nat} {K':Ω->Prop} (h:Zm w0 lv code d w) (hk:∀ w',Zm w0 lv code d' w'->K' w'):V prog (Instr.fieldAt 252 (.pointer (some ⟨w0.heap.size,0,none⟩)) 4) w λq w1=>U prog (Instr.storeAt 3 q (i64 (d':Nat))) w1 λ_ w2=>K' w2:=by
 obtain ⟨x,cv,a1,a2⟩:=h;refine yV fJ gP a1 (n:=5) rfl (by decide) rfl (hk _ ⟨x.setCell (Nat.le_refl _) _,cv,a1.set 4 _,?_⟩);exact (Fr.of_set (S:=λi=>i=w0.heap.size) rfl).own a2 λk hk he=>by have:=(a2.lt k hk).1;omega
theorem WD (h:Zm w0 lv code d w) (hk:K (i64 (d:Nat)) w):V prog (Instr.fieldAt 252 (.pointer (some ⟨w0.heap.size,0,none⟩)) 4) w λq w1=>V prog (Instr.loadAt 3 q) w1 K:=by
 obtain ⟨x,cv,a1,_⟩:=h;exact bB (aY.boxed a1) fJ aJ rfl hk
theorem aVg {z:Int} (h:Zm w0 lv code 0 w) (hl:code.length<=1000) (hloc:aS w0 lv loc) (hll:loc.length<=100) (hz:(idx loc 2 loc.length)[0]?=some z) (hk:∀ w',Zm w0 lv (code++[⟨2,z,0⟩]) 0 w'->K (.tuple #[]) w') :
  aD prog 181 #[.pointer (some ⟨w0.heap.size,0,none⟩)] w K:=by
 apply PX;unfold yL;refine ⟨.inl ⟨_,rfl⟩,WD h (bT.2 ?_)⟩;refine ⟨.inl ⟨_,rfl⟩,aSn (d':=1) h λw1 h1=>?_⟩;refine VC h1 (UU (by decide) ?_);refine ⟨λt w'=>t=i64 0/\w'=w1,⟨.inl ⟨_,rfl⟩,WD h1 (cX.2 ?_)⟩,?_⟩
 ·simp only [show ¬ (((1:Nat):Int) > 3) by decide,decide_false,aA];exact ⟨trivial,trivial⟩
 rintro _ w1' ⟨rfl,hw⟩ _;have hw:=hw.symm;subst hw;refine ⟨λw'=>Zm w0 lv (code++[⟨2,z,0⟩]) 1 w',aF.2 ?_,?_⟩
 ·simp only [decide_true,aE];refine VN h1 hloc hll hz λw2 h2=>cH.2 (cG.2 ?_);simp only [aE];exact aNf h2 hl λw3 h3=>h3
 intro w4 h4 _;refine ⟨.inl ⟨_,rfl⟩,WD h4 (iJ.2 ?_)⟩;exact ⟨.inl ⟨_,rfl⟩,aSn (d':=0) h4 λw5 h5=>hk w5 h5⟩
end
def bare (m:fV) (code:List fO):Prop:=(m.result=0/\code=[⟨39,0,0⟩])\/(∃ z,(m.result=2\/m.result=3)/\(idx (m.params++m.locals) m.result (m.params++m.locals).length)[0]?=some z/\code=[⟨2,z,0⟩,⟨39,0,0⟩])
theorem aTn {rv mv iv:O} {row:List O} {m:fV} {code:List fO} (hr:cY w rv []) (hrow:jK w row m) (pl:m.params.length<=50) (ll:m.locals.length<=50) (hb:bare m code)
  (hk:∀ v w',w'.ownsRow w.heap.size 70 3 v code.length (hU code)->aG w w'->K v w') :
  aD prog 84 #[rv,.agg row.toArray,mv,iv] w K:=by
 obtain ⟨pv,lv,cv,rfl,hp,hl,hc⟩:=hrow;apply XM;unfold CO;refine bx λb5 w1 hb5 x1=>?_;have hb5:fA w1 b5 [pv,i64 m.result,lv,cv]:=hb5;have D1:aG w1 w1.drew:=(aG.refl _).drew;have x2:=x1.trans D1;refine aI.mk' (λw'=>aG w1.drew w') (aG.refl _) ?_;refine dU (λw' hx=>hb5.ext (D1.trans hx)) fD aZ rfl ?_;refine dU (λw' hx=>hb5.ext (D1.trans hx)) nY aZ rfl ?_;have hb5:=hb5.ext D1;generalize w1.drew=w2 at x2 hb5;clear D1;refine kC bE [] rfl rfl (by simp) rfl λv3 w3 ho3 x3=>⟨x3,?_⟩;refine SQ bE ho3 (hp.ext (x2.trans x3)) (SU _) (by omega) (by unfold maxLen;omega) x3.size λv4 w4 ho4 hg4=>?_;have x4:aG w2 w4:=x3.grown hg4 λk hk=>(ho3.lt k hk).1;refine ⟨x4,SQ bE ho4 (hl.ext (x2.trans x4)) (SU _) (by omega) (by unfold maxLen;omega) x4.size λlv' w5 ho5 hg5=>?_⟩;have x5:aG w2 w5:=x4.grown hg5 λk hk=>(ho4.lt k hk).1;refine ⟨x5,pX WU [(3,lv')] rfl (by simp [bU ho5]) ?_⟩
 have hloc:aS w5 lv' (m.params++m.locals):=by
  have:=aC.of_own ho5;unfold aS;simpa using this
 clear ho3 ho4 ho5 hg4 hg5;refine sO λw6 hB6 x6=>⟨x5.trans x6,?_⟩;have hB6:aY w6 w5.heap.size [bD,bD,i64 ((0:Nat):Int),lv',i64 ((0:Nat):Int)] 252:=hB6;have x25:=x2.trans x5;have hr:=hr.ext x25;have hb5:=hb5.ext x5;have hw5:w.heap.size<=w5.heap.size:=x25.size;have h6:Zm w5 lv' [] 0 w6:=⟨x6,bD,hB6,World.ownsRow_nil _ _ _ _⟩;have hlocl:(m.params++m.locals).length<=100:=by simp;omega
 refine ⟨λv w'=>v=i64 0/\w'=w6,λ_ _=>0,⟨rfl,rfl⟩,?_⟩;rintro _ w7 ⟨rfl,hw⟩ _;have hw:=hw.symm;subst hw;refine lnR oN (hr.ext h6.ext) (aV.2 ?_);simp only [show ¬ ((0:Int) < ((List.length ([]:List Rw):Nat):Int)) by decide,aW,decide_false];refine ⟨λtv v w'=>tv=bD/\v=i64 0/\w'=w6,λ_ _ _=>0,⟨rfl,rfl,rfl⟩,?_⟩;rintro _ _ w7 ⟨rfl,rfl,hw⟩ _;have hw:=hw.symm;subst hw;refine lnR oN (hr.ext h6.ext) (aV.2 ?_);simp only [show ¬ ((0:Int) < ((List.length ([]:List Rw):Nat):Int)) by decide,aW,reduceIte,Bool.false_eq_true,decide_false];refine ⟨.inl ⟨_,rfl⟩,bB (aY.boxed hB6) bN gM rfl (aEz.2 ?_)⟩;refine kC bE [i64 ((0:Nat):Int)] rfl rfl (by simp) rfl λv7 w7 ho7 x7=>?_;refine SQ bE (B:=w7.heap.size) (World.ownsRow_nil _ _ _ _) (aC.of_own ho7) rfl (by omega) (by unfold maxLen;omega) (Nat.le_refl _) λv8 w8 ho8 hg8=>?_;have h8:Zm w5 lv' [] 0 w8:=(h6.step x7).step ((aG.refl _).grown hg8 λk hk=>by cases hk)
 have fin:∀ {w'},Zm w5 lv' code 0 w'->Go.Vc.aM (.pointer (some ⟨w5.heap.size,0,none⟩))/\V prog (Instr.fieldAt 252 (.pointer (some ⟨w5.heap.size,0,none⟩)) 0) w' λt w=>V prog (Instr.loadAt 71 t) w K:=by
  rintro w' ⟨x,cv,a1,a2⟩;exact ⟨.inl ⟨_,rfl⟩,bB (aY.boxed a1) bN gM rfl (hk _ w' (aP a2 (by omega)) (x25.trans x))⟩
 refine ⟨λv w'=>v=i64 0/\Zm w5 lv' [] 0 w',λ_ _=>0,⟨rfl,h8⟩,?_⟩;rintro _ w9 ⟨rfl,h9⟩ _;obtain ⟨x9,cv9,b9,o9⟩:=h9;have h9:Zm w5 lv' [] 0 w9:=⟨x9,cv9,b9,o9⟩;refine ⟨.inl ⟨_,rfl⟩,bB (aY.boxed b9) bN gM rfl (gD kD (aC.of_own o9) (aV.2 ?_))⟩;simp only [show ¬ ((0:Int) < ((List.length ([]:List fO):Nat):Int)) by decide,aW,decide_false];have hmt:∀ {w'},aG w5 w'->fA w' b5 [pv,i64 m.result,lv,_]:=λhx=>hb5.ext hx;refine ⟨λw'=>∃ c,Zm w5 lv' c 0 w'/\code=c++[⟨39,0,0⟩]/\c.length<=1,?_,?_⟩
 ·refine bB (hmt x9) iQ aJ rfl (aT.2 ?_);rcases hb with ⟨h1,h2⟩|⟨z,h1,h2,h3⟩
  ·simp only [h1,ne_eq,not_true_eq_false,decide_false,aA];exact ⟨[],h9,h2,by decide⟩
  ·simp only [show m.result≠0 by omega,ne_eq,not_false_eq_true,decide_true,aE];refine bB (hmt x9) iQ aJ rfl ?_;apply QD;unfold yQ;rcases h1 with h1|h1
   ·rw [h1] at h2;refine aF.2 ?_;simp only [h1,show ¬ ((2:Int)=1) by decide,decide_false,aA];refine aF.2 ?_;simp only [decide_true,aE];exact aVg h9 (by decide) hloc hlocl h2 λw' h'=>⟨_,h',by rw [h3];rfl,by simp⟩
   ·rw [h1] at h2;refine aF.2 ?_;simp only [h1,show ¬ ((3:Int)=1) by decide,decide_false,aA];refine aF.2 ?_;simp only [show ¬ ((3:Int)=2) by decide,decide_false,aA];exact aVy h9 (by decide) hloc hlocl h2 λw' h'=>⟨_,h',by rw [h3];rfl,by simp⟩
 rintro w10 ⟨c,h10,hcc,hcl⟩ _;refine aNf h10 (by omega) λw11 h11=>?_;rw [<- hcc] at h11;obtain ⟨x11,cv11,b11,o11⟩:=h11;have hlen:code.length<=2:=by rw [hcc];simp;omega
 refine ⟨.inl ⟨_,rfl⟩,bB (aY.boxed b11) bN gM rfl (gD kD (aC.of_own o11) (cX.2 ?_))⟩;simp only [show ¬ ((code.length:Int) > 120) by omega,decide_false,aA];exact fin ⟨x11,cv11,b11,o11⟩
def bc (k:Nat):List fO:=if k=0 then [⟨39,0,0⟩] else [⟨2,1,0⟩,⟨39,0,0⟩]
def WV (s n1 n2:ByteArray):bF:=⟨s,[1,2,3,4],sI n1 n2,kB bc,[1,2]⟩
theorem aEp {code:Nat->List fO} (h:∀ k,k < 3->code k=bc k):kB code=kB bc:=by
 unfold kB;rw [h 0 (by decide),h 1 (by decide),h 2 (by decide)]
theorem aEj {code:Nat->List fO} {j:Nat} {m:fV} (h:(kB code)[j]?=some m):bare m (bc j):=by
 match j,h with
 | 0,h=>cases h;exact .inl ⟨rfl,rfl⟩
 | 1,h=>cases h;exact .inr ⟨1,.inl rfl,by kernel_rfl,rfl⟩
 | 2,h=>cases h;exact .inr ⟨1,.inr rfl,by kernel_rfl,rfl⟩
 | k+3,h=>simp [kB] at h
theorem aEn {n:Int} {rv:O} {rl:List Rw} (hr:cY w rv rl) (_:lY w) (hT:mQ w) (rn:rl.length=0)
  (hk:∀ p i w',hJ w' p i->kI w' i->i.rg->i.methods.length=3->(∀ m∈i.methods,m.code.length<=700000)->(∀ w'',Fr (λk=>k < w.heap.size) w' w''->mQ w''->hJ w'' p i/\kI w'' i)->(∃ cs:List O,∀ w'',Fr (λk=>k < w.heap.size) w' w''->aC w'' p.mv 4 i.methods.length cs/\∀ (k:Nat) (x:fV),i.methods[k]?=some x->jK w'' ((cs.drop (k*4)).take 4) x)->aG w w'->(∃ s n1 n2,i=WV s n1 n2)->K (p.val i) w'):aD prog 38 #[i64 n,rv] w K:=by
 apply XR;unfold CY;refine LN iE λw1 hB4 x1=>?_;have hlt4:=hB4.lt;have hg4:w.heap.size<=w.heap.size:=Nat.le_refl _;generalize hgg4:w.heap.size=g4 at hB4 hg4 hlt4;refine kC bE [i64 1,i64 2,i64 3,i64 4] rfl rfl (by simp) rfl λlv w2 hol x2=>?_;refine uH λnm hnm=>?_;refine kC bE [i64 1,i64 2,i64 3,i64 4] rfl rfl (by simp) rfl λfv w3 hof x3=>?_;refine kC bE [i64 1,i64 2] rfl rfl (by simp) rfl λxv w4 hox x4=>?_;have o1:=bU hof;have o2:=bU hox;refine bld WT [(0,.string nm),(1,fv),(4,xv)] rfl (by simp [o1,o2,qG]) ?_;refine zB DY rfl (show ([.string nm,fv,bD,bD,xv]:List O).all cB=true by simp [o1,o2,qG,NG]) λw5 hBi x5=>?_;have hBi:aY w5 w4.heap.size [.string nm,fv,bD,bD,xv] 46:=hBi;have s1:=x1.size;have s2:=x2.size;have s3:=x3.size;have s4:=x4.size;have s5:=x5.size;have R0:∀ {v:O} {l:List Int} {wa wb:Ω},wb.ownsRow wa.heap.size 3 1 v l.length (l.map i64)->w1.heap.size<=wa.heap.size->wb.heap.size<=w4.heap.size->uZ g4 w4.heap.size wb v l:=λho h1 h2=>⟨aP ho (by omega),λk hk=>by have:=(ho.lt k hk).2;omega⟩;have rl5:uZ g4 w4.heap.size w5 lv [1,2,3,4]:=(R0 (l:=[1,2,3,4]) hol (by omega) (by omega)).ext ((x3.trans x4).trans x5);have rf5:uZ g4 w4.heap.size w5 fv [1,2,3,4]:=(R0 (l:=[1,2,3,4]) hof (by omega) (by omega)).ext (x4.trans x5);have rx5:uZ g4 w4.heap.size w5 xv [1,2]:=(R0 (l:=[1,2]) hox (by omega) (by omega)).ext x5
 clear R0 hol hof hox;have x15:=(((x2.trans x3).trans x4).trans x5);have hB4:=hB4.ext x15;have hgi4:g4≠w4.heap.size:=by omega
 have hiw:w4.heap.size < w5.heap.size:=hBi.lt;have hiw0:w.heap.size<=w4.heap.size:=by omega
 have x05:=x1.trans x15;have hr0:=hr;have hr:=hr.ext x05;generalize w4.heap.size=gi at *;have R1:∀ {v:O} {l:List Int} {wa wb:Ω},wb.ownsRow wa.heap.size 3 1 v l.length (l.map i64)->w5.heap.size<=wa.heap.size->uZ g4 gi wb v l:=λho h1=>⟨aP ho (by omega),λk hk=>by have:=(ho.lt k hk).1;omega⟩;refine bT.2 (uH λn1 hn1=>?_);refine kC bE [i64 1,i64 2] rfl rfl (by simp) rfl λq1 w6 hq1 x6=>?_;have s6:=x6.size;have rq1:uZ g4 gi w6 q1 [1,2]:=R1 (l:=[1,2]) hq1 (by omega);have oq1:=bU hq1;refine bld CE [(0,.string n1),(1,i64 0),(2,q1),(3,i64 2)] rfl (by simp [oq1,uT,qG]) ?_;refine bT.2 (lnR oN (hr.ext x6) ?_);refine dM (by decide) (by decide) λ_ _ _=>bT.2 (uH λn2 hn2=>?_);refine kC bE [i64 4,i64 3] rfl rfl (by simp) rfl λq2 w7 hq2 x7=>?_;have s7:=x7.size;have rq2:uZ g4 gi w7 q2 [4,3]:=R1 (l:=[4,3]) hq2 (by omega);have oq2:=bU hq2;refine bld CE [(0,.string n2),(1,i64 1),(2,q2),(3,i64 3)] rfl (by simp [oq2,uT,qG]) ?_;refine xT underlying43 mN rfl (by decide) [.agg #[.string n1,i64 0,q1,i64 2],.agg #[.string n2,i64 1,q2,i64 3]] rfl rfl (by intro v hv;simp only [List.mem_cons,List.not_mem_nil,or_false] at hv;rcases hv with rfl|rfl<;>rfl) (by decide) (by decide) λiv w8 hoi x8=>?_;have s8:=x8.size;have hoi:w8.ownsRow w7.heap.size 180 4 iv 2 [.string n1,i64 0,q1,i64 2,.string n2,i64 1,q2,i64 3]:=hoi
 have x58:=(x6.trans x7).trans x8;refine yV cO EZ (hBi.ext x58) (n:=5) rfl (by decide) (bU hoi) ?_;have hB9:aY (w8.setCell ⟨gi,2,none⟩ iv) gi [.string nm,fv,iv,bD,xv] 46:=(hBi.ext x58).set 2 iv;have f9:Fr (λk=>k=gi\/k<=g4\/w8.heap.size<=k) w8 (w8.setCell ⟨gi,2,none⟩ iv):=Fr.of_set (.inl rfl);have rl9:=(rl5.ext x58).fr f9 (Nat.le_refl _);have rf9:=(rf5.ext x58).fr f9 (Nat.le_refl _);have rx9:=(rx5.ext x58).fr f9 (Nat.le_refl _);have rq19:=(rq1.ext (x7.trans x8)).fr f9 (Nat.le_refl _);have rq29:=(rq2.ext x8).fr f9 (Nat.le_refl _);have hoi9:=f9.own hoi λk hk hS=>by have:=hoi.lt k hk;omega
 have hB49:aY (w8.setCell ⟨gi,2,none⟩ iv) g4 _ _:=(hB4.ext x58).other hgi4;have f59:aG w (w8.setCell ⟨gi,2,none⟩ iv):=(x05.trans x58).setCell hiw0 iv;have xr9:∀ {w'},Fr (λk=>k=gi\/k=g4\/w8.heap.size<=k) (w8.setCell ⟨gi,2,none⟩ iv) w'->aG w w':=λf=>f.ext f59 λk hk=>by omega
 have sz9:(w8.setCell ⟨gi,2,none⟩ iv).heap.size=w8.heap.size:=by simp
 generalize w8.setCell ⟨gi,2,none⟩ iv=w9 at *;have hoi0:=hoi;clear rl5 rf5 rx5 rq1 rq2 hoi hB4 hBi hq1 hq2 f9;have ol:=bU rl9.own;refine bld xU [(2,lv)] rfl (by simp [ol]) ?_;refine kC bE [i64 1,i64 2] rfl rfl (by simp) rfl λp1 w10 hp1 x10=>?_;have s10:=x10.size;have rp1:uZ g4 gi w10 p1 [1,2]:=R1 (l:=[1,2]) hp1 (by omega);have op1:=bU hp1;refine bld xU [(0,p1),(1,i64 2),(2,lv)] rfl (by simp [ol,op1,uT]) ?_;refine kC bE [i64 4,i64 3] rfl rfl (by simp) rfl λp2 w11 hp2 x11=>?_;have s11:=x11.size;have rp2:uZ g4 gi w11 p2 [4,3]:=R1 (l:=[4,3]) hp2 (by omega);have op2:=bU hp2;obtain ⟨lv3,urun,usl⟩:=uD underlying42 gP rl9.ints (lo:=none) (hi':=some (.int .i64 ((2:Nat):Int))) (a:=0) (b:=2) (.inl ⟨rfl,rfl⟩) (.inr rfl) (by decide) (by decide);refine V.ok (urun _) ?_;have ol3:cB lv3=true:=by obtain ⟨a,c,rfl⟩:=(usl _ rl9.ints).shape;rfl
 refine bld xU [(0,p2),(1,i64 3),(2,lv3)] rfl (by simp [ol3,op2,uT]) ?_;refine xT underlying44 lI rfl (by decide) [.agg #[bD,i64 0,lv,bD],.agg #[p1,i64 2,lv,bD],.agg #[p2,i64 3,lv3,bD]] rfl rfl (by intro v hv;simp only [List.mem_cons,List.not_mem_nil,or_false] at hv;rcases hv with rfl|rfl|rfl<;>rfl) (by decide) (by decide) λmv w12 hom x12=>?_;have s12:=x12.size;have hom:w12.ownsRow w11.heap.size 74 4 mv 3 (OI lv p1 p2 lv3 λ_=>bD):=hom
 obtain ⟨gm,cap,rfl⟩:∃ gm cap,mv=.slice (some ⟨gm,0,none⟩) 3 cap:=by
  rcases hom.2 with ⟨_,e⟩|⟨gm,cap,cur,rfl,_⟩
  ·cases e
  ·exact ⟨gm,cap,rfl⟩
 have hgm:=hom.lt gm rfl;have x9b:=x10.trans x11;have x9c:=x9b.trans x12;refine yV bK EY (hB9.ext x9c) (n:=5) rfl (by decide) rfl ?_;have hBC:aY (w12.setCell ⟨gi,3,none⟩ (.slice (some ⟨gm,0,none⟩) 3 cap)) gi [.string nm,fv,iv,.slice (some ⟨gm,0,none⟩) 3 cap,xv] 46:=(hB9.ext x9c).set 3 _;have fC:Fr (λk=>k=gi\/k=g4\/w11.heap.size<=k) w11 (w12.setCell ⟨gi,3,none⟩ (.slice (some ⟨gm,0,none⟩) 3 cap)):=(Fr.of_ext x12).set (.inl rfl);have homC:(w12.setCell ⟨gi,3,none⟩ (.slice (some ⟨gm,0,none⟩) 3 cap)).ownsRow w11.heap.size 74 4 (.slice (some ⟨gm,0,none⟩) 3 cap) 3 (OI lv p1 p2 lv3 λ_=>bD):=(Fr.of_set (S:=λk=>k=gi) rfl).own hom λk hk hS=>by have:=hom.lt k hk;omega
 have hB4C:aY (w12.setCell ⟨gi,3,none⟩ (.slice (some ⟨gm,0,none⟩) 3 cap)) g4 _ _:=(hB49.ext x9c).other hgi4;have szC:(w12.setCell ⟨gi,3,none⟩ (.slice (some ⟨gm,0,none⟩) 3 cap)).heap.size=w12.heap.size:=by simp
 generalize w12.setCell ⟨gi,3,none⟩ (.slice (some ⟨gm,0,none⟩) 3 cap)=wC at *;have hb11:aG w w11:=(aG.refl w).trans (f59.trans x9b);have hr0:∀ {w'},aG w w'->cY w' rv rl:=λhx=>(hr0:cY w rv rl).ext hx
 have hall:∀ {w'},Fr (λk=>k=gi\/k<=g4\/w11.heap.size<=k) w11 w'->aS w' fv [1,2,3,4]/\aS w' xv [1,2]/\aS w' lv [1,2,3,4]/\aS w' p1 [1,2]/\aS w' p2 [4,3]/\aS w' lv3 [1,2]/\mW w' iv (sI n1 n2):=by
  intro w' f;have hN:=Nat.le_refl w11.heap.size;have hl:=((rl9.ext x9b).fr f hN).ints;refine ⟨((rf9.ext x9b).fr f hN).ints,((rx9.ext x9b).fr f hN).ints,hl,((rp1.ext x11).fr f hN).ints,(rp2.fr f hN).ints,usl w' hl,WZ (aC.of_own (f.own (x9b.own hoi9) λk hk hS=>?_)) ((rq19.ext x9b).fr f hN).ints ((rq29.ext x9b).fr f hN).ints⟩;have:=(x9b.own hoi9).lt k hk;omega
 have hallX:∀ {w'},Fr (λk=>k=gi\/k=g4\/w11.heap.size<=k) w11 w'->aG w w':=λf=>f.ext hb11 λk hS=>by omega
 have hS:∀ {w'},Fr (λk=>k=gi\/k=g4\/w11.heap.size<=k) w11 w'->Fr (λk=>k=gi\/k<=g4\/w11.heap.size<=k) w11 w':=λf=>f.mono λk hk=>by omega
 clear rl9 rf9 rx9 rq19 rq29 hoi9 rp1 rp2 hB9 hB49 hom usl urun hp1 hp2;refine lnR oN (hr0 (hallX fC)) ?_;have hgmC:gm < wC.heap.size:=by omega
 refine ⟨λv w'=>∃ (j:Nat) (c:Nat->O) (code:Nat->List fO),v=i64 j/\j<=3/\Fr (λk=>k=gi\/k=g4\/w11.heap.size<=k) w11 w'/\wC.heap.size<=w'.heap.size/\aY w' gi [.string nm,fv,iv,.slice (some ⟨gm,0,none⟩) 3 cap,xv] 46/\aY w' g4 [.string ByteArray.empty,bD,bD,bD,bD] 46/\w'.ownsRow w11.heap.size 74 4 (.slice (some ⟨gm,0,none⟩) 3 cap) 3 (OI lv p1 p2 lv3 c)/\(∀ k,w'.ownsRow (gm+1) 70 3 (c k) (code k).length (hU (code k))/\(∀ x∈code k,x.rg)/\(code k).length<=700000)/\∀ k,k < j->code k=bc k,
  λv _=>3 - (RowKit.intOf v).toNat,⟨0,λ_=>bD,λ_=>[],rfl,Nat.zero_le _,fC,Nat.le_refl _,hBC,hB4C,homC,λk=>⟨World.ownsRow_nil _ _ _ _,λ_ h=>(by simp at h),Nat.zero_le _⟩,λk hk=>absurd hk (Nat.not_lt_zero k)⟩,?_⟩
 clear hBC hB4C homC fC;rintro _ wD ⟨j,c,code,rfl,hj,f,hsz,hBi,hB4,hom,hcs,hbc⟩ _;obtain ⟨rf,rx,rl',rp1,rp2,rl3,rim⟩:=hall (hS f);have xw:=hallX f;have hms:mV wD (.slice (some ⟨gm,0,none⟩) 3 cap) (kB code):=CH (aC.of_own hom) rl' rp1 rp2 rl3 λk _=>aC.of_own (hcs k).1;refine aV.2 (aL (λhlt=>?_) λhge=>?_)
 ·have hrD:=hr0 xw;have e1:∀ m:Nat,m<=3->V prog (binOp .mul 3 (i64 m) (i64 rl.length)) wD=V prog (binOp .mul 3 (i64 m) (i64 rl.length)) wD:=λ_ _=>rfl
  have e2:∀ m:Nat,m<=3->IntKind.i64.wrap ((m:Int)*(rl.length:Int))=((m*rl.length:Nat):Int):=λm hm=>by
   have:m*rl.length<=3*rl.length:=Nat.mul_le_mul_right _ hm;rw [<- Int.natCast_mul];exact aX (by omega)
  have e3:∀ (m d:Nat),m<=15000000000000->IntKind.i64.wrap (((m:Nat):Int).tdiv ((d:Nat):Int))=((m / d:Nat):Int):=λm d hm=>by
   have h1:((m:Nat):Int).tdiv ((d:Nat):Int)=((m / d:Nat):Int):=by
    rw [Int.tdiv_eq_ediv_of_nonneg (by omega)];rfl
   have h2:m / d<=m:=Nat.div_le_self _ _;rw [h1];clear h1;generalize m / d=q at *;exact aX (by omega)
  have e4:∀ a b:Nat,min ((a:Nat):Int) ((b:Nat):Int)=((min a b:Nat):Int):=λa b=>by omega
  have hj3:j*rl.length<=3*rl.length:=Nat.mul_le_mul_right _ hj;have hj4:(j+1)*rl.length<=3*rl.length:=Nat.mul_le_mul_right _ (by omega);refine OL.2 ?_;rw [e2 j hj];refine (AX (by decide)).2 ?_;rw [show (3:Int)=((3:Nat):Int) from rfl,e3 _ 3 (by omega)];refine V.ok wI (bT.2 ?_);rw [e4,iL (n:=(j:Int)+1) (by omega) (by omega),cS];refine OL.2 ?_;rw [e2 (j+1) (by omega)];refine (AX (by decide)).2 ?_;rw [e3 _ 3 (by omega)];refine V.ok wI ?_;rw [e4];have hd1:j*rl.length / 3<=(j+1)*rl.length / 3:=Nat.div_le_div_right (Nat.mul_le_mul_right _ (by omega));obtain ⟨v1,r1,hs1⟩:=cY.part underlying99 sC hrD (lo:=some (.int .i64 ((min rl.length (j*rl.length / 3):Nat):Int))) (hi':=some (.int .i64 ((min rl.length ((j+1)*rl.length / 3):Nat):Int))) (.inr rfl) (.inr rfl) (by omega) (by omega);refine V.ok (r1 _) ?_;refine ⟨λv w'=>∃ l,cY wD v l/\l.length=0/\w'=wD,aF.2 (aL (λhz=>?_) λhz=>⟨_,hs1,by simp;omega,rfl⟩),?_⟩
  ·refine (AX (by decide)).2 ?_;rw [show (2:Int)=((2:Nat):Int) from rfl,e3 _ 2 (by omega)];refine V.ok wI ?_;rw [e4];obtain ⟨v2,r2,hs2⟩:=cY.part underlying99 sC hrD (lo:=none) (hi':=some (.int .i64 ((min rl.length (rl.length / 2):Nat):Int))) (a:=0) (.inl ⟨rfl,rfl⟩) (.inr rfl) (by omega) (by omega);exact V.ok (r2 _) ⟨_,hs2,by simp;omega,rfl⟩
  rintro v3 wD' ⟨l,hl,hll,hwD⟩ _;have hwD:=hwD.symm;subst hwD;have D1:aG wD wD.drew:=(aG.refl _).drew;have hBid:=hBi.ext D1;obtain ⟨m,hm⟩:=bQ (l:=kB code) (j:=j) (by simp [kB];omega);refine aI.mk' (λw'=>aG wD.drew w') (aG.refl _) ?_;refine dU (λw' hx=>aY.boxed (hBid.ext hx)) bK fS rfl ?_;refine dU (λw' hx=>aY.boxed (hBid.ext hx)) bK fS rfl ?_;refine ySS iB nW (hms.ext D1) (λ_ h=>h) hm tD λrow hrow=>?_;refine dU (λw' hx=>aY.boxed (hBid.ext hx)) bK fS rfl ?_;refine dU (λw' hx=>aY.boxed (hBid.ext hx)) cO jY rfl ?_;have xwd:=xw.trans D1;have hmp:=AR hm;have hl0:l=[]:=List.eq_nil_of_length_eq_zero hll;subst hl0;refine aTn (hl.ext D1) hrow (by omega) (by omega) (aEj hm) λv4 wE ho4 xE=>⟨xE,?_⟩;have hrg4:∀ x∈bc j,x.rg:=by intro x hx;unfold bc at hx;split at hx<;>simp only [List.mem_cons,List.not_mem_nil,or_false] at hx<;>(try rcases hx with rfl|rfl)<;>(try subst hx)<;>exact ⟨by decide,by decide⟩
  have hlen4:(bc j).length<=700000:=by unfold bc;split<;>decide
  have x3E:=D1.trans xE;refine aB.ok (λw' _=>eQ underlying44 lI (by omega) (by omega)) ?_;refine aB.ok (λw' _=>FA.ex fZ w' _ _) ?_;rw [Int.toNat_natCast];refine QO underlying44 lI fZ tI (x3E.own hom) (by omega) (by decide) (bU ho4) λwF hwF hoF fF=>bT.2 ?_;rw [aX (by omega),cS];have sE:=x3E.size;have sD:=D1.size;have sF:=fF.size;rw [OH (by omega)] at hoF;refine ⟨⟨j+1,λk=>if k=j then v4 else c k,λk=>if k=j then bc j else code k,rfl,by omega,(f.trans (Fr.of_ext x3E) λ_ _ h=>h).trans fF λk _ hk=>by omega,by omega,fF.blk (hBi.ext x3E) (by omega),fF.blk (hB4.ext x3E) (by omega),hoF,λk=>?_,λk hk=>?_⟩,by simp only [aU];omega⟩
  rotate_left
  ·by_cases hkj:k=j
   ·simp only [hkj,if_true]
   ·simp only [hkj,if_false];exact hbc k (by omega)
  by_cases hkj:k=j
  ·simp only [hkj,if_true];exact ⟨aP (fF.own ho4 λq hq hS=>by have:=(ho4.lt q hq).1;omega) (by omega),hrg4,hlen4⟩
  ·simp only [hkj,if_false];obtain ⟨c1,c2,c3⟩:=hcs k;exact ⟨fF.own (x3E.own c1) λq hq hS=>by have:=(c1.lt q hq).1;omega,c2,c3⟩
 ·refine oY (aY.boxed hBi) jQ rfl ?_;refine DS iE hB4 (l:=[.string nm,fv,iv,.slice (some ⟨gm,0,none⟩) 3 cap,xv]) rfl rfl rfl (by simp [o1,o2,bU hoi0,qG,NG]) λwE hBE hc=>?_;refine ⟨_,rJ underlying46 rfl iE hBE rfl,⟨_,rfl⟩,?_⟩;have fE:Fr (λk=>k=gi\/k=g4\/w11.heap.size<=k) w11 wE:=f.trans ((mO hc).mono λk hk=>.inr (.inl hk)) λ_ _ h=>h;have xw:=hallX fE;have hg4m:g4 < gm:=by omega
  have homE:=(mO hc).own hom λk hk hS=>by have:=(hom.lt k hk).1;omega
  have hcsE:∀ k,wE.ownsRow (gm+1) 70 3 (c k) (code k).length (hU (code k)):=λk=>(mO hc).own (hcs k).1 λq hq hS=>by have:=((hcs k).1.lt q hq).1;omega
  have stay:∀ w'',Fr (λk=>k < g4) wE w''->mQ w''->hJ w'' ⟨fv,iv,.slice (some ⟨gm,0,none⟩) 3 cap,xv⟩ ⟨nm,[1,2,3,4],sI n1 n2,kB code,[1,2]⟩/\kI w'' ⟨nm,[1,2,3,4],sI n1 n2,kB code,[1,2]⟩:=by
   intro w'' f'' hT'';have f3:Fr (λk=>k=gi\/k<=g4\/w11.heap.size<=k) w11 w'':=(hS fE).trans f'' λk _ hk=>by omega
   obtain ⟨rf,rx,rl',rp1,rp2,rl3,rim⟩:=hall f3;refine ⟨⟨rf,rim,CH (aC.of_own (f''.own homE λk hk hS=>by have:=(homE.lt k hk).1;omega)) rl' rp1 rp2 rl3 λk _=>aC.of_own (f''.own (hcsE k) λq hq hS=>by have:=((hcsE k).lt q hq).1;omega),rx⟩,uG hnm hT'',λx hx=>?_⟩;simp only [sI,List.mem_cons,List.not_mem_nil,or_false] at hx;rcases hx with rfl|rfl
   ·exact uG hn1 hT''
   ·exact uG hn2 hT''
  have stayM:∃ cs:List O,∀ w'',Fr (λk=>k < g4) wE w''->aC w'' (.slice (some ⟨gm,0,none⟩) 3 cap) 4 3 cs/\∀ (k:Nat) (x:fV),(kB code)[k]?=some x->jK w'' ((cs.drop (k*4)).take 4) x:=by
   refine ⟨OI lv p1 p2 lv3 c,λw'' f''=>?_⟩;have f3:Fr (λk=>k=gi\/k<=g4\/w11.heap.size<=k) w11 w'':=(hS fE).trans f'' λk _ hk=>by omega
   obtain ⟨rf,rx,rl',rp1,rp2,rl3,rim⟩:=hall f3;exact OG (w:=w'') (aC.of_own (f''.own homE λk hk hS=>by have:=(homE.lt k hk).1;omega)) rl' rp1 rp2 rl3 λk _=>aC.of_own (f''.own (hcsE k) λq hq hS=>by have:=((hcsE k).lt q hq).1;omega)
  have hTE:=hT.ext xw;obtain ⟨hat,hnmE⟩:=stay wE (Fr.refl _ _) hTE;refine hk ⟨fv,iv,.slice (some ⟨gm,0,none⟩) 3 cap,xv⟩ ⟨nm,[1,2,3,4],sI n1 n2,kB code,[1,2]⟩ wE hat hnmE (λm hm x hx=>?_) rfl (λm hm=>?_) (by rw [hgg4];exact stay) (by rw [hgg4];exact stayM) xw ⟨nm,n1,n2,by unfold WV;rw [aEp λk hk=>hbc k (by omega)]⟩
  ·simp only [kB,List.mem_cons,List.not_mem_nil,or_false] at hm;rcases hm with rfl|rfl|rfl
   ·exact (hcs 0).2.1 x hx
   ·exact (hcs 1).2.1 x hx
   ·exact (hcs 2).2.1 x hx
  ·simp only [kB,List.mem_cons,List.not_mem_nil,or_false] at hm;rcases hm with rfl|rfl|rfl
   ·exact (hcs 0).2.2
   ·exact (hcs 1).2.2
   ·exact (hcs 2).2.2
theorem aVl {i:bF}:∃ s,pW i ⟨[],0,[1,2,3,4],[⟨39,0,0⟩]⟩ (some s):=
 ⟨⟨[[]],[true],[false]⟩,.inr ⟨λx hx=>(by
   rw [List.mem_singleton] at hx;subst hx;unfold gI;simp),.go (pc:=0) (s':=⟨[[]],[true],[false]⟩) (by kernel_rfl) (by kernel_rfl) (.done (by kernel_rfl))⟩⟩
theorem aVk {i:bF}:∃ s,pW i ⟨[1,2],2,[1,2,3,4],[⟨2,1,0⟩,⟨39,0,0⟩]⟩ (some s):=
 ⟨⟨[[],[2]],[true,true],[false,false]⟩,.inr ⟨λx hx=>(by
   simp only [List.mem_cons,List.not_mem_nil,or_false] at hx;rcases hx with rfl|rfl<;>unfold gI<;>simp [fV.locs]),.go (pc:=0) (s':=⟨[[],[2]],[true,true],[false,true]⟩) (by kernel_rfl) (by kernel_rfl) (.go (pc:=1) (s':=⟨[[],[2]],[true,true],[false,false]⟩) (by kernel_rfl) (by kernel_rfl) (.done (by kernel_rfl)))⟩⟩
theorem aVj {i:bF}:∃ s,pW i ⟨[4,3],3,[1,2],[⟨2,1,0⟩,⟨39,0,0⟩]⟩ (some s):=
 ⟨⟨[[],[3]],[true,true],[false,false]⟩,.inr ⟨λx hx=>(by
   simp only [List.mem_cons,List.not_mem_nil,or_false] at hx;rcases hx with rfl|rfl<;>unfold gI<;>simp [fV.locs]),.go (pc:=0) (s':=⟨[[],[3]],[true,true],[false,true]⟩) (by kernel_rfl) (by kernel_rfl) (.go (pc:=1) (s':=⟨[[],[3]],[true,true],[false,false]⟩) (by kernel_rfl) (by kernel_rfl) (.done (by kernel_rfl)))⟩⟩
theorem LH (s n1 n2:ByteArray):rP (WV s n1 n2):=by
 refine ⟨⟨⟨?_,by show (4:Int)<=8;decide⟩,⟨by show 2<=4;decide,λx hx=>?_⟩,⟨⟨by show 1<=3;decide,by show 3<=8;decide⟩,λm hm=>?_,rfl,rfl⟩,by show 2<=4;decide,λn hn=>?_⟩,λm hm=>?_⟩
 ·show lW [1,2,3,4];unfold lW;decide
 ·have hx:x∈[(⟨n1,0,[1,2],2⟩:yX),⟨n2,1,[4,3],3⟩]:=hx;simp only [List.mem_cons,List.not_mem_nil,or_false] at hx;rcases hx with rfl|rfl
  ·refine ⟨(by show (0:Int)<=0/\(0:Int) < 4;decide),⟨?_,(by show (2:Int)<=4;decide)⟩,(by show (0:Int)<=2/\(2:Int)<=4;decide)⟩;show lW [1,2];unfold lW;decide
  ·refine ⟨(by show (0:Int)<=1/\(1:Int) < 4;decide),⟨?_,(by show (2:Int)<=4;decide)⟩,(by show (0:Int)<=3/\(3:Int)<=4;decide)⟩;show lW [4,3];unfold lW;decide
 ·have hm:m∈[(⟨[],0,[1,2,3,4],[⟨39,0,0⟩]⟩:fV),⟨[1,2],2,[1,2,3,4],[⟨2,1,0⟩,⟨39,0,0⟩]⟩,⟨[4,3],3,[1,2],[⟨2,1,0⟩,⟨39,0,0⟩]⟩]:=hm;simp only [List.mem_cons,List.not_mem_nil,or_false] at hm;rcases hm with rfl|rfl|rfl<;>(unfold fV.right oG lW fO.right lim;decide)
 ·have hn:n∈[(1:Int),2]:=hn;show 0<=n/\n < (3:Int);simp only [List.mem_cons,List.not_mem_nil,or_false] at hn;omega
 ·have hm:m∈[(⟨[],0,[1,2,3,4],[⟨39,0,0⟩]⟩:fV),⟨[1,2],2,[1,2,3,4],[⟨2,1,0⟩,⟨39,0,0⟩]⟩,⟨[4,3],3,[1,2],[⟨2,1,0⟩,⟨39,0,0⟩]⟩]:=hm;simp only [List.mem_cons,List.not_mem_nil,or_false] at hm;rcases hm with rfl|rfl|rfl
  ·exact aVl
  ·exact aVk
  ·exact aVj
theorem aVz {n:Int} {rv:O} (hr:cY w rv []) (hb:lY w) (hT:mQ w) (hk:∀ p i w',sJ w.heap.size w' p i->rP i->aG w w'->K (p.val i) w'):aD prog 38 #[i64 n,rv] w K:=
 aEn hr hb hT rfl λp i w' _ _ h3 h4 h5 h7 h8 h6 h9=>hk p i w' ⟨λw'' f hT''=>⟨(h7 w'' f hT'').1,(h7 w'' f hT'').2,h3,h4,λm hm=>Nat.le_trans (h5 m hm) (by decide)⟩,h8⟩ (by obtain ⟨a,b,c,rfl⟩:=h9;exact LH a b c) h6
theorem FV {v:O} {ll:List (List Rw)} (h:rF w v ll) (hb:lY w) (hT:mQ w) (hk:∀ v' l w',mZ w' v' l->l.length=min ll.length 3->(∀ x∈l,∀ w'',Fr (λk=>k < w.heap.size) w' w''->mQ w''->Apl w'' x.1 x.2)->aG w w'->K v' w'):aD prog 8 #[v] w K:=by
 apply aLv;unfold LU;refine ⟨λt v w'=>∃ (j:Nat) (l:List (cN × bF)),v=i64 j/\j<=ll.length/\j<=3/\l.length=j/\aG w w'/\w'.ownsRow w.heap.size 46 5 t l.length (FD l)/\∀ x∈l,(∀ w'',Fr (λk=>t.ownBlock=some k\/k < w.heap.size) w' w''->mQ w''->Apl w'' x.1 x.2)/\rP x.2,λ_ v _=>3 - (RowKit.intOf v).toNat,⟨0,[],rfl,Nat.zero_le _,Nat.zero_le _,rfl,aG.refl _,World.ownsRow_nil _ _ _ _,λ_ h=>by simp at h⟩,?_⟩;rintro tv _ w1 ⟨j,l,rfl,hj,hj3,hlj,x1,ho,hl⟩ _;obtain ⟨vs,hvs,hvl⟩:=h.ext x1
 have hb1:∀ {w'},aG w w'->lY w':=λhx q hq=>by
  obtain ⟨z,hz⟩:=hb q hq;exact ⟨z,hx.cell hz⟩
 refine gD MA hvs (aV.2 ?_);by_cases c0:(j:Int) < (ll.length:Int)/\(j:Int) < 3
 case neg=>
  have fin:K tv w1:=hk tv l w1 ⟨FD l,aC.of_own ho,λk x hx=>⟨_,FC hx,rfl,(hl x (List.mem_of_getElem? hx)).1 _ (Fr.refl _ _) (hT.ext x1),(hl x (List.mem_of_getElem? hx)).2⟩⟩ (by omega) (λx hx w'' f hT''=>(hl x hx).1 w'' (f.mono λk hk=>.inr hk) hT'') x1;by_cases c1:(j:Int) < (ll.length:Int)
  ·have c2:¬ (j:Int) < 3:=λhc=>c0 ⟨c1,hc⟩;simp only [c1,c2,aW];exact fin
  ·simp only [c1,aW];exact fin
 obtain ⟨c1,c2⟩:=c0;simp only [c1,c2,aW];obtain ⟨rl,hrl⟩:=bQ (l:=ll) (j:=j) (by omega);obtain ⟨ru,hru,hrr,hrn⟩:=hvl j rl hrl;refine mH MA VQ hvs (by omega) (by omega) (by simpa using hru) ?_;refine aTp hrr (hb1 x1) (hT.ext x1) hrn λp2 i2 w2 ha2 hc2 x2=>?_;have hone:=(ha2.now (hT.ext (x1.trans x2))).one;refine zB DY rfl hone λw3 hB3 x3=>?_;have hB3:aY w3 w2.heap.size (p2.cells i2) 46:=hB3;have s2:=x2.size;have x13:=x2.trans x3;have hg:w1.heap.size<=w2.heap.size:=s2;have ha3:=ha2.ext x3;generalize w2.heap.size=g at *;clear ha2 x2 x3 s2 hone hc2;have hT1:∀ {w'},aG w1 w'->mQ w':=λhx=>hT.ext (x1.trans hx);refine ⟨λw'=>∃ p i,aY w' g (cN.cells p i) 46/\sJ w1.heap.size w' p i/\aG w1 w'/\rP i,?_,?_⟩
 ·refine oY (aY.boxed hB3) jQ rfl ?_;have hA3:=ha3.now (hT1 x13);refine vR (p:=p2) (i:=i2) hA3.at_ hA3.nm λa b e w4 he4 x4=>?_;refine cH.2 (cG.2 ?_);refine asB TT rfl rfl λb5 w5 _ x5=>?_;have x45:=x4.trans x5;have hB5:=hB3.ext x45;have ha5:=ha3.ext x45;have x15:=x13.trans x45;refine aT.2 (aL (λhne=>?_) λheq=>⟨p2,i2,hB5,ha5,x15,he4.1 (by omega)⟩);have D1:aG w5 w5.drew:=(aG.refl _).drew;have x1d:=x15.trans D1;have hrrd:=hrr.ext x1d;obtain ⟨u6,r6,hs6⟩:=cY.part underlying99 sC hrrd (lo:=none) (hi':=some (.int .i64 ((rl.length / 2:Nat):Int))) (a:=0) (b:=rl.length / 2) (.inl ⟨rfl,rfl⟩) (.inr rfl) (by omega) (by omega);refine aI.mk' (λw'=>aG w5.drew w') (aG.refl _) ?_;refine gR MA VQ (hvs.ext x1d) (λ_ h=>h) (by omega) (by omega) (by simpa using hru) ?_;refine gR MA VQ (hvs.ext x1d) (λ_ h=>h) (by omega) (by omega) (by simpa using hru) ?_;refine aSf oN hrrd ?_;refine aB.ok (λw' _=>EC (by decide)) ?_
  have e2:IntKind.i64.wrap (((rl.length:Nat):Int).tdiv 2)=((rl.length / 2:Nat):Int):=by
   rw [Int.tdiv_eq_ediv_of_nonneg (by omega),aX (by omega)];rfl
  rw [e2];refine aB.ok (λw' _=>r6 _) ?_;refine aTp hs6 (hb1 (x1.trans x1d)) (hT.ext (x1.trans x1d)) (by simp;omega) λp7 i7 w7 ha7 _ x7=>⟨x7,?_⟩;have x17:=x1d.trans x7;have hgd:g < w5.drew.heap.size:=(hB5.ext D1).lt;have s1d:=x1d.size;refine DS iE (hB5.ext (D1.trans x7)) (l:=p7.cells i7) rfl rfl rfl (ha7.now (hT1 x17)).one λw8 hB8 hc8=>?_;have x18:aG w1 w8:=hc8.ext _ x17 hg;have ha8:sJ w1.heap.size w8 p7 i7:=ha7.chg (mO hc8) hgd s1d;refine oY (aY.boxed hB8) jQ rfl ?_;have hA8:=ha8.now (hT1 x18);refine vR (p:=p7) (i:=i7) hA8.at_ hA8.nm λa b e w9 he9 x9=>?_;refine cH.2 (cG.2 ?_);refine asB TT rfl rfl λb10 w10 _ x10=>?_;have x910:=x9.trans x10;refine aT.2 (aL (λhne2=>?_) λheq=>⟨p7,i7,hB8.ext x910,ha8.ext x910,x18.trans x910,he9.1 (by omega)⟩);have x1A:=x18.trans x910;refine aVz ⟨⟨none,0,rfl⟩,λh=>by simp at h⟩ (hb1 (x1.trans x1A)) (hT.ext (x1.trans x1A)) λp11 i11 w11 ha11 ht11 x11=>?_;have hgA:g < w10.heap.size:=(hB8.ext x910).lt;have s1A:=x1A.size;refine DS iE (hB8.ext (x910.trans x11)) (l:=p11.cells i11) rfl rfl rfl (ha11.now (hT1 (x1A.trans x11))).one λw12 hB12 hc12=>?_;exact ⟨p11,i11,hB12,ha11.chg (mO hc12) hgA s1A,hc12.ext _ (x1A.trans x11) hg,ht11⟩
 rintro w4 ⟨p,i,hB,ha,x14,ht⟩ _;refine oY (aY.boxed hB) jQ rfl ?_;have hA:=ha.now (hT1 x14);refine vR (p:=p) (i:=i) hA.at_ hA.nm λa b e w5 he x5=>?_;refine cH.2 (cG.2 ?_);refine asB TT rfl rfl λb6 w6 _ x6=>?_;have x46:=x5.trans x6;have x16:=x14.trans x46;refine aF.2 (aL (λhz=>?_) λhz=>?_)
 ·refine oY (aY.boxed (hB.ext x46)) jQ rfl ?_;refine xT underlying24 iE rfl (by decide) [.agg (p.cells i).toArray] rfl rfl (by intro v hv;rw [List.mem_singleton] at hv;subst hv;rfl) (by decide) (by decide) λv7 w7 ho7 x7=>?_;have s7:=(x1.trans (x16.trans x7)).size;have hone7:([Value.agg (p.cells i).toArray].flatMap λv=>v.cells.toList).all cB=true:=by simpa [Value.cells] using hA.one
  refine apG underlying24 iE rfl (by decide) ((x16.trans x7).own ho) (aC.of_own ho7) hone7 (by omega) (by unfold maxLen;omega) s7 λv8 w8 ho8 hg8 hl8=>?_;have x18:aG w w8:=(x1.trans (x16.trans x7)).grown hg8 λk hk=>(ho.lt k hk).1;refine mR (by omega) ?_;refine ⟨⟨j+1,l++[(p,i)],rfl,by omega,by omega,by simp;omega,x18,?_,λx hx=>?_⟩,by simp only [aU];omega⟩
  ·have e1:FD (l++[(p,i)])=FD l++([Value.agg (p.cells i).toArray].flatMap λv=>v.cells.toList):=by simp [FD,Value.cells]
   rw [e1,List.length_append];exact ho8
  ·have f8:Fr (λk=>tv.ownBlock=some k) w7 w8:=Fr.of_grown hg8 λk hk=>hk;have x17:=x16.trans x7;have s17:=x17.size
   have f78:∀ {w''},Fr (λk=>v8.ownBlock=some k\/k < w.heap.size) w8 w''->Fr (λk=>tv.ownBlock=some k\/k < w.heap.size) w7 w'':=λf=>(f8.mono λk hk=>.inl hk).trans f λk hk hk'=>by
    rcases hk' with hk'|hk'
    ·rcases hl8 with h8|h8
     ·rw [h8] at hk';exact .inl hk'
     ·rw [h8] at hk';cases hk';omega
    ·exact .inr hk'
   rcases List.mem_append.1 hx with hx|hx
   ·exact ⟨λw'' f hT''=>(hl x hx).1 w'' ((Fr.of_ext x17).trans (f78 f) λ_ _ h=>h) hT'',(hl x hx).2⟩
   ·rw [List.mem_singleton] at hx;subst hx;refine ⟨λw'' f hT''=>ha.ap w'' ((Fr.of_ext (x46.trans x7)).trans ((f78 f).mono λk hk=>?_) λ_ _ h=>h) hT'',ht⟩;have:=x1.size;rcases hk with hk|hk
    ·exact (ho.lt k hk).2
    ·omega
 ·exact absurd (he.2 ht) hz
end Go.Proofs.YtgkkecladbmjkaaGreatDoor
namespace Go.Proofs.YtgkkecladbmjkaaGreatDoor
open Tryz
open Go.Vc Go.Tc
section
variable {l:List bF} {X0:Nat->Prop} {p:iG} {fg fcap:Nat} {qs:List FP} {q:FP} {m:PM} {w w':Ω} {S:Nat->Prop}
def MB (p:iG) (q:FP) (fg:Nat) (qs:List FP) (i:Nat):Prop:=(∃ a,a≠Lb.ex/\WR p q (λ_=>False) a i)\/i=fg\/∃ a∈qs,pS a i
theorem WRx {X Y:Nat->Prop} {a:Lb} {i:Nat} (ha:a≠.ex) (h:WR p q X a i):WR p q Y a i:=by
 cases a with
 | ex=>exact absurd rfl ha
 | _=>exact h
theorem cW.fr (h:cW l X0 p fg fcap qs q m w) (g:Fr S w w') (hn:∀ i,MB p q fg qs i->¬ S i):cW l X0 p fg fcap qs q m w':=
 ⟨h.wh.fr g λa i ha hi=>hn i (.inl ⟨a,ha,WRx ha hi⟩),g.own h.row λi hi=>hn i (.inr (.inl (by simpa [Value.ownBlock] using hi.symm))),h.bel.fr g λa ha i hi=>hn i (.inr (.inr ⟨a,ha,hi⟩)),h.bd,h.bf,h.x0⟩
def Els (p:iG) (q:FP) (fg:Nat) (qs:List FP) (n:Nat) (i:Nat):Prop:=i < n/\¬ MB p q fg qs i
theorem cW.all (h:cW l X0 p fg fcap qs q m w):cW l (Els p q fg qs w.heap.size) p fg fcap qs q m w:=by
 have H:=h.wh;refine ⟨⟨H.room,H.rps,H.fld,H.img,H.box,H.frm,⟨λa b i ha hb=>?_,λa i ha=>?_⟩⟩,h.row,h.bel,h.bd,h.bf,λi hi=>⟨λe=>hi.2 (.inr (.inl e)),λa ha e=>hi.2 (.inr (.inr ⟨a,ha,e⟩))⟩⟩
 ·have key:∀ {a:Lb},a≠.ex->WR p q (BX (Els p q fg qs w.heap.size) fg qs) a i->¬ BX (Els p q fg qs w.heap.size) fg qs i:=by
   intro a ha hi hx;rcases hx with hx|hx|hx
   ·exact hx.2 (.inl ⟨a,ha,WRx ha hi⟩)
   ·exact ha (H.sep.dj a .ex i (WRx ha hi) (.inr (.inl hx)))
   ·exact ha (H.sep.dj a .ex i (WRx ha hi) (.inr (.inr hx)))
  by_cases h1:a=.ex
  ·by_cases h2:b=.ex
   ·rw [h1,h2]
   ·subst h1;exact absurd ha (key h2 hb)
  ·by_cases h2:b=.ex
   ·subst h2;exact absurd hb (key h1 ha)
   ·exact H.sep.dj a b i (WRx h1 ha) (WRx h2 hb)
 ·by_cases h1:a=.ex
  ·subst h1;rcases ha with ha|ha|ha
   ·exact ha.1
   ·exact H.sep.lt .ex i (.inr (.inl ha))
   ·exact H.sep.lt .ex i (.inr (.inr ha))
  ·exact H.sep.lt a i (WRx h1 ha)
theorem aVt (g:Fr S w w'):Fr (λi=>S i/\i < w.heap.size) w w':=⟨g.os,g.tape,g.output,g.size,λi hi hn=>g.block i hi λhs=>hn ⟨hs,hi⟩⟩
end
section
variable {w:Ω} {K:O->Ω->Prop}
def OM (w:Ω) (v:O) (ll:List (List Rw)):Prop:=(∃ a c,v=.slice a ll.length c)/\(0 < ll.length->rF w v ll)
theorem WX {a:Option Addr} {c:Nat} (hk:K bD w):aD prog 8 #[.slice a 0 c] w K:=by
 apply aLv;unfold LU;refine ⟨λt v w'=>t=bD/\v=i64 0/\w'=w,λ_ _ _=>0,⟨rfl,rfl,rfl⟩,?_⟩;rintro _ _ w1 ⟨rfl,rfl,hw⟩ _;have hw:=hw.symm;subst hw;refine aFc.2 (aV.2 ?_);simp only [show ¬ ((0:Int) < ((0:Nat):Int)) by decide,aW];exact hk
theorem WY {v:O} {ll:List (List Rw)} (h:OM w v ll) (hb:lY w) (hT:mQ w) (hk:∀ v' l w',mZ w' v' l->l.length=min ll.length 3->aG w w'->K v' w'):aD prog 8 #[v] w K:=by
 by_cases h0:0 < ll.length
 ·exact FV (h.2 h0) hb hT λv' l w' h1 h2 _ h3=>hk v' l w' h1 h2 h3
 ·obtain ⟨⟨a,c,rfl⟩,_⟩:=h;have e0:ll.length=0:=by omega
  rw [e0];exact WX (hk bD [] w ⟨[],aC.nil _ _,λk x hk=>by simp at hk⟩ (by rw [e0];rfl) (aG.refl _))
theorem aPf {v:O} {ll:List (List Rw)} (h:OM w v ll) (hb:lY w) (hT:mQ w) (hk:∀ v' l w',mZ w' v' l->0 < l.length->l.length<=3->aG w w'->K v' w') :
  aD prog 8 #[v] w λt24 w1=>∃ J1:NP 1,
   (V prog (Builtin.len_ #[24] 3 #[t24]) w1 λt26 w2=>V prog (do eqGuard .eql 3 (.tmp 26) (.const (i64 0)) t26 (i64 0);binOp .eql 3 t26 (i64 0)) w2 λt27 w3=>
    aO t27 (V prog (Instr.buildSlice 22 1 #[(0,bD)]) w3 λt28 w4=>aD prog 8 #[t28] w4 λt29 w5=>J1 t29 w5) (J1 t24 w3)) /\
   ∀ (t11:O),∀ w6:Ω,J1 t11 w6->∀ _f:bP,K t11 w6:=by
 refine WY h hb hT λv1 l1 w1 h1 e1 x1=>?_;refine ⟨λv' w'=>∃ l,mZ w' v' l/\0 < l.length/\l.length<=3/\aG w w',?_,λv' w' ⟨l,g1,g2,g3,g4⟩ _=>hk v' l w' g1 g2 g3 g4⟩;refine wZ kM h1 (aF.2 (aL (λhz=>?_) λhz=>⟨l1,h1,by omega,by omega,x1⟩));refine kC aSh [bD] rfl rfl (by simp) rfl λv2 w2 ho2 x2=>?_;have x12:=x1.trans x2
 have h2:rF w2 v2 [[]]:=⟨[bD],aC.of_own ho2,λk l hk=>⟨bD,by
  match k,hk with
  | 0,_=>rfl
  | k+1,hk=>simp at hk,by
  match k,hk with
  | 0,hk=>cases hk;exact ⟨⟨none,0,rfl⟩,λh=>by simp at h⟩
  | k+1,hk=>simp at hk,by
  match k,hk with
  | 0,hk=>cases hk;simp
  | k+1,hk=>simp at hk⟩⟩
 refine FV h2 (λq hq=>?_) (hT.ext x12) λv3 l3 w3 h3 e3 _ x3=>⟨l3,h3,by rw [e3];decide,by rw [e3];decide,x12.trans x3⟩;obtain ⟨z,hz⟩:=hb q hq;exact ⟨z,x12.cell hz⟩
theorem FO {v:O} {l:List Int} (h:gY w v l) (hok:pQ l):aD prog 10 #[v,i64 64] w λr w'=>(w'.ownsRow w.heap.size 5 1 r (l.take 64).length ((l.take 64).map u8)/\gY w' r (l.take 64)/\(l.take 64).length<=64/\pQ (l.take 64))/\aG w w':=by
 refine (aOm h (k:=64) (by decide)).mono λr w' ⟨ho,x⟩=>⟨⟨ho,?_,by simp;omega,λb hb=>hok b (List.mem_of_mem_take hb)⟩,x⟩;rcases (aC.of_own ho).2 with ⟨e1,e2⟩|⟨b,off,cap,e1,_⟩
 ·exact .inl ⟨by first|exact e1|(rw [e1]),by first|exact List.eq_nil_of_length_eq_zero e2|omega⟩
 ·exact .inr ⟨_,_,e1,λ_=>aC.of_own ho⟩
theorem EG {n m:Int} (hm:0 < m) (hm2:m<=1000000) (hk:∀ k:Nat,(k:Int) < m->K (i64 (k:Int)) w):aD prog 11 #[i64 n,i64 m] w K:=
 dM hm (by omega) λk h0 h1=>by
  obtain ⟨z,rfl⟩:∃ z:Nat,k=z:=⟨k.toNat,by omega⟩;exact hk z h1
end
end Go.Proofs.YtgkkecladbmjkaaGreatDoor
namespace Go.Vc
end Go.Vc
namespace Go.Proofs.YtgkkecladbmjkaaGreatDoor
open Tryz
open Go.Vc Go.Tc
section
variable {l:List bF} {p p':iG} {q q':FP} {f f':iK} {r:Rm} {X X':Nat->Prop} {sl sl':O} {fu st fu' st':Int} {w w':Ω}
def aVu (fd:List (List Int)) (k j:Nat):O:=if k < fd.length/\j < (fd.getD k []).length then .tuple #[i32 ((fd.getD k []).getD j 0),.bool true] else .tuple #[i32 0,.bool false]
end
section
variable {l:List bF} {w0 w w':Ω}
end
theorem LJ {w:Ω} {v:O} {l:List (cN × bF)} (h:mZ w v l):pO (l.map (·.2)):=by
 obtain ⟨cs,_,h2⟩:=h;intro i hi;obtain ⟨x,hx,rfl⟩:=List.mem_map.1 hi;obtain ⟨k,hk⟩:=List.getElem?_of_mem hx;obtain ⟨_,_,hA⟩:=h2 k x hk;exact hA.2.2
theorem aSb (l:List (cN × bF)):LR (l.map (·.2)) (zs l):=by
 refine ⟨by simp [zs],λk hk=>?_⟩;obtain ⟨x,hx⟩:=bQ (l:=l) (j:=k) (by simpa using hk)
 have e1:(zs l).getD k []=List.replicate x.2.fields.length 0:=by
  rw [List.getD_eq_getElem?_getD,zs,List.getElem?_map,hx];rfl
 have e2:aR (l.map (·.2)) k=x.2:=AE (by rw [List.getElem?_map,hx];rfl)
 rw [e1,e2];refine ⟨by simp,λy hy=>?_⟩;rw [(List.mem_replicate.1 hy).2];decide
section
variable {w:Ω}
theorem aTe {l:List bF} {p:iG} {r:Rm} (hT:pO l) (h:XF l (λ_=>False) p r w) {who fuel:Nat} (hw:who < l.length) (hf:fuel<=16000) (hfd:LR l r.fd) :
  aD prog 13 #[lC p.rp,i64 (who:Int),i64 (fuel:Int)] w λrv w'=>∃ p' fg fcap q,rv=.tuple #[pm p',i64 0]/\cW l (λ_=>False) p' fg fcap [] q (tY l who fuel r) w'/\(tY l who fuel r).ok l/\Bnd (tY l who fuel r)/\lC p'.rp=lC p.rp/\aG w w'/\∀ i,MB p' q fg [] i->(∃ a,XB p (λ_=>False) a i)\/w.heap.size<=i:=by
 refine (aVo hT h hw (by omega)).mono λrv w' ⟨p',fg,fcap,q,hr,hM,hrb,x,hfg,hmb⟩=>⟨p',fg,fcap,q,hr,hM,QN hT hw hfd,?_,by unfold lC;rw [hrb],x,λi hi=>?_⟩
 ·show ([]:List vC).length+5*fuel<=80000;simp;omega
 ·rcases hi with ⟨a,ha,hi⟩|rfl|⟨a,ha,_⟩
  ·rcases hmb a i ha hi with ⟨b,_,hb⟩|hb
   ·exact .inl ⟨b,hb⟩
   ·exact .inr hb
  ·exact .inr hfg
  ·simp at ha
end
theorem UI {P:Program} {w:Ω} {s e:TypeId} (hs:P.underlying s=some (.pointer e)) {x y:Operand} {a:Addr} :
  (do eqGuard .neq s x y (.pointer (some a)) (.pointer none);binOp .neq s (.pointer (some a)) (.pointer none)).run P w=.ok (.bool true) w:=by
 simp [eqGuard,binOp,lU,UR hs]
theorem QH.rms {l:List bF} {p:iG} {fd:List (List Int)} {B:Nat} {w:Ω} (H:QH l p fd B w) (h0:0 < fd.length):∃ p',p'.rp=p.rp/\XF l (λ_=>False) p' ⟨p.rp.ps,fd⟩ w/\∀ a i,XB p' (λ_=>False) a i->B<=i:=by
 obtain ⟨fo,fcap,hfo⟩:=lS H.fv h0;obtain ⟨cs,hiv,hrows⟩:=H.iv;have hlv:p.vs.length=fd.length:=by have:=H.fv.1;omega
 have himg:uO (λi=>p.IB i\/p.rp.iv.ownBlock=some i) w λw'=>jL w' p.rp.iv l:=λw' f=>⟨cs,aC.of_own (f.own hiv λi hi hn=>hn (.inr hi)),λk i hk=>by
  obtain ⟨pk,h1,h2⟩:=hrows k i hk;exact ⟨_,rfl,pk,h1,h2 w' (f.mono λj hj hn=>hj (.inl hn))⟩⟩
 have cls:∀ {a:Lb} {i:Nat},XB { p with fo:=fo,IB:=λi=>p.IB i\/p.rp.iv.ownBlock=some i } (λ_=>False) a i->∃ c,BR p c i/\((a≠.im/\a=c)\/(a=.im/\(c=.im\/c=.mb))):=by
  intro a i hi;cases a with
  | rm=>exact ⟨.rm,hi,.inl ⟨(by intro e;cases e),rfl⟩⟩
  | im=>
   rcases hi with h|h
   ·exact ⟨.im,h,.inr ⟨rfl,.inl rfl⟩⟩
   ·exact ⟨.mb,h,.inr ⟨rfl,.inr rfl⟩⟩
  | fo=>
   have hi:i=fo:=hi;exact ⟨.fo,(by show p.rp.fv.ownBlock=some i;rw [hfo,hi];rfl),.inl ⟨(by intro e;cases e),rfl⟩⟩
  | fd=>exact ⟨.fd,hi,.inl ⟨(by intro e;cases e),rfl⟩⟩
  | mb=>exact hi.elim
  | fr=>exact hi.elim
  | ex=>exact hi.elim
 have hfv:=H.fv;rw [hfo] at hfv;refine ⟨{ p with fo:=fo,IB:=λi=>p.IB i\/p.rp.iv.ownBlock=some i },rfl,⟨H.room,⟨rfl,rfl,rfl,rfl⟩,⟨⟨fcap,hfo⟩,ND hfv,hlv,H.row,H.dj,λv hv he=>?_⟩,himg,⟨λa b i ha hb=>?_,λa i ha=>?_⟩⟩,λa i ha=>?_⟩
 ·have:=H.sep.dj .fd .fo fo ⟨v,hv,he⟩ (by show p.rp.fv.ownBlock=some fo;rw [hfo];rfl);cases this
 ·obtain ⟨c,hc,k1⟩:=cls ha;obtain ⟨d,hd,k4⟩:=cls hb;have hcd:=H.sep.dj c d i hc hd;subst hcd;rcases k1 with ⟨k1,rfl⟩|⟨rfl,k1⟩<;>rcases k4 with ⟨k4,rfl⟩|⟨rfl,k4⟩
  ·rfl
  ·rcases k4 with rfl|rfl
   ·rfl
   ·exact ha.elim
  ·rcases k1 with rfl|rfl
   ·rfl
   ·exact hb.elim
  ·rfl
 ·obtain ⟨c,hc,_⟩:=cls ha;exact H.sep.lt c i hc
 ·obtain ⟨c,hc,_⟩:=cls ha;exact H.ge c i hc
def knC:List fO:=[⟨1,1,0⟩,⟨1,0,0⟩,⟨17,0,0⟩,⟨4,0,0⟩,⟨39,0,0⟩]
def SZ:bF:=⟨{ data:=#[97] },[1],[],[⟨[],0,[1],knC⟩],[]⟩
theorem knT:rP SZ:=by
 refine ⟨by unfold bF.right oG lW fV.right yX.right fO.right lim oG lW;decide,λm hm=>?_⟩;have hm:m=⟨[],0,[1],knC⟩:=List.mem_singleton.1 hm;subst hm;refine ⟨⟨[[],[1],[1,1],[1],[]],[true,true,true,true,true],[false,false,false,false,false]⟩,.inr ⟨by unfold gI;decide,?_⟩⟩
 exact .go (pc:=0) (s':=⟨[[],[1],[],[],[]],[true,true,false,false,false],[false,true,false,false,false]⟩) (by kernel_rfl) (by kernel_rfl)
  (.go (pc:=1) (s':=⟨[[],[1],[1,1],[],[]],[true,true,true,false,false],[false,false,true,false,false]⟩) (by kernel_rfl) (by kernel_rfl)
  (.go (pc:=2) (s':=⟨[[],[1],[1,1],[1],[]],[true,true,true,true,false],[false,false,false,true,false]⟩) (by kernel_rfl) (by kernel_rfl)
  (.go (pc:=3) (s':=⟨[[],[1],[1,1],[1],[]],[true,true,true,true,true],[false,false,false,false,true]⟩) (by kernel_rfl) (by kernel_rfl)
  (.go (pc:=4) (s':=⟨[[],[1],[1,1],[1],[]],[true,true,true,true,true],[false,false,false,false,false]⟩) (by kernel_rfl) (by kernel_rfl) (.done (by kernel_rfl))))))
def knS:PM:=tY [SZ] 0 99 ⟨ps0 200,[[0]]⟩
def aOs:PM->Nat->Int × Nat
 | _,0=>(0,0)
 | m,k+1=>match kP [SZ] m with
  | .run m'=>aOs m' k
  | .fin s _ f _=>(s,f)
theorem NX {s:Int} {f:Nat}:∀ {k:Nat} {m:PM} {e:LW},aOs m k=(s,f)->s≠0->DF [SZ] m e->e.s=s/\e.fuel=f
 | 0,m,e,h,hs,_=>by cases h;exact absurd rfl hs
 | k+1,m,e,h,hs,he=>by
  unfold aOs at h;cases he with
  | fin h1=>rw [h1] at h;cases h;exact ⟨rfl,rfl⟩
  | go h1 h2=>rw [h1] at h;exact NX h hs h2
theorem knE {e:LW} (h:DF [SZ] knS e):e.s=28419/\e.fuel=96:=NX (k:=5) (by kernel_rfl) (by decide) h
theorem aTi {w:Ω} {v:O} (hv:nP w v knC):aD prog 44 #[i64 99,v] w λrv w'=>∃ p rmv X q f r sl,rv=.tuple #[pm p,rmv]/\Wh [SZ] p q f r X sl ((96:Nat):Int) 28419 w'/\aG w w':=by
 apply aRb;suffices key:∀ R:O->Ω->Prop,(∀ p rmv X q f r sl w',Wh [SZ] p q f r X sl ((96:Nat):Int) 28419 w'->aG w w'->R (.tuple #[pm p,rmv]) w')->CW (i64 99) v w R from key _ λp rmv X q f r sl w' h1 h2=>⟨p,rmv,X,q,f,r,sl,rfl,h1,h2⟩;intro R hR;unfold CW;refine (uS (by decide) (by decide)).mono λrv w1 ⟨⟨rb,hb',hrv,hlo,hlt,hrb,hh⟩,x1⟩=>?_;subst hrv;refine cH.2 (cG.2 (aT.2 ?_));simp only [ne_eq,not_true_eq_false,dZ,aH,reduceIte,Bool.false_eq_true,decide_false];refine V.ok (iO underlying26) ?_;simp only [aA];have s1:=x1.size;obtain ⟨B0,_⟩:=aPc hlo hlt hrb hh s1 (by decide) (by decide);refine kC bE [i64 1] rfl rfl (by simp) rfl λfv w2 ho2 x2=>?_;refine kC bE [i64 1] rfl rfl (by simp) rfl λlv w3 ho3 x3=>?_;have o2:=bU ho2;have o3:=bU ho3;have x13:=(x1.trans x2).trans x3;obtain ⟨va,vc,hvs⟩:=hv.shape;have ov:cB v=true:=by rw [hvs];rfl
 refine bld xU [(2,lv),(3,v)] rfl (by simp [o3,ov]) ?_;refine xT underlying44 lI rfl (by decide) [.agg #[bD,i64 0,lv,v]] rfl rfl (by intro x hx;rw [List.mem_singleton] at hx;subst hx;rfl) (by decide) (by decide) λmv w4 hom x4=>?_;have hom:w4.ownsRow w3.heap.size 74 4 mv 1 [bD,i64 0,lv,v]:=hom;have om:=bU hom;refine bld WT [(0,.string { data:=#[97] }),(1,fv),(3,mv)] rfl (by simp [o2,om,qG]) ?_;have x14:=x13.trans x4
 have hA:hJ w4 ⟨fv,bD,mv,bD⟩ SZ:=by
  refine ⟨aC.of_own ((x3.trans x4).own ho2),⟨[],aC.nil _ _,λk x hk=>by simp [SZ] at hk⟩,⟨_,aC.of_own hom,λk x hk=>?_⟩,aC.nil _ _⟩
  match k,hk with
  | 0,hk=>cases hk;exact ⟨_,rfl,bD,lv,v,rfl,aC.nil _ _,aC.of_own (x4.own ho3),hv.ext x14⟩
  | k+1,hk=>simp [SZ] at hk
 refine (xW (B0.ext ((x2.trans x3).trans x4)) (by decide) rfl hA knT.1).mono λrv w5 ⟨p5,hrv,B5,e51,e52,F5,_⟩=>?_;have X5:aG w w5:=F5.ext x14 λi ⟨a,hi⟩=>B0.ge a i hi;obtain ⟨p6,e61,R6,g6⟩:=B5.rms (by decide);have hps:p5.rp.ps=ps0 200:=e52;rw [hps] at R6;have hrm:pt rb=lC p6.rp:=by unfold lC;rw [e61,e51]
 rw [hrm];have hT1:pO [SZ]:=λi hi=>by rw [List.mem_singleton] at hi;subst hi;exact knT
 refine (aTe (l:=[SZ]) hT1 R6 (who:=0) (fuel:=99) (by decide) (by decide) ⟨rfl,λk hk=>?_⟩).mono λrv w7 ⟨m,fg,fc,q,hr,M,ok,bd,hrmm,x7,mb⟩=>?_
 ·have hk:k=0:=by simpa using hk
  subst hk;exact ⟨rfl,λy hy=>by rw [List.mem_singleton.1 (show y∈[(0:Int)] from hy)];decide⟩
 subst hr;refine cH.2 (cG.2 (aT.2 ?_));simp only [ne_eq,not_true_eq_false,dZ,aH,reduceIte,Bool.false_eq_true,decide_false];refine V.ok (iO underlying33) ?_;simp only [aA];have X7:=X5.trans x7;have s5:=X5.size;refine (aVh hT1 (by decide) M.all ok bd).mono λrv w8 ⟨e,n1,_,hr,p8,T,mb8,rb8,F8⟩=>?_;subst hr
 have in8:∀ i,(¬ Els m q fg [] w7.heap.size i/\i < w7.heap.size)->w.heap.size<=i:=λi ⟨hi,hl⟩=>by
  have hM:MB m q fg [] i:=Classical.byContradiction λhn=>hi ⟨hl,hn⟩;rcases mb i hM with ⟨a,ha⟩|h
  ·exact g6 a i ha
  ·omega
 have X8:aG w w8:=(aVt F8).ext X7 in8;obtain ⟨q8,f8,Z8,a8,c8,H8,_⟩:=T;obtain ⟨k1,k2⟩:=knE n1;rw [k1,k2] at H8;rw [show pm m=pm p8 by unfold pm;rw [mb8]];exact hR p8 _ Z8 q8 f8 e.r _ w8 H8 X8
theorem aNw (w:Ω):aD prog 12 #[] w λv w'=>v=.bool true/\aG w w':=by
 apply aRr;suffices key:∀ R:O->Ω->Prop,(∀ w',aG w w'->R (.bool true) w')->DD w R from key _ λw' h=>⟨rfl,h⟩;intro R hR;unfold DD;refine bld rM [(0,i64 1),(1,i64 1)] rfl rfl ?_;refine bld rM [(0,i64 1)] rfl rfl ?_;refine bld rM [(0,i64 17)] rfl rfl ?_;refine bld rM [(0,i64 4)] rfl rfl ?_;refine bld rM [(0,i64 39)] rfl rfl ?_;refine xT underlying71 nL rfl (by decide) [.agg #[i64 1,i64 1,i64 0],.agg #[i64 1,i64 0,i64 0],.agg #[i64 17,i64 0,i64 0],.agg #[i64 4,i64 0,i64 0],.agg #[i64 39,i64 0,i64 0]] rfl rfl (by intro v hv;simp only [List.mem_cons,List.not_mem_nil,or_false] at hv;rcases hv with rfl|rfl|rfl|rfl|rfl<;>rfl) (by decide) (by decide) λcv w1 ho x1=>?_;refine (aTi (aC.of_own ho)).mono λrv w2 ⟨p,rmv,X,q,f,r,sl,hr,H,x2⟩=>?_;subst hr;refine cH.2 (cG.2 ?_);refine V.ok (UI underlying33) ?_;simp only [FI,aH,reduceIte];refine (sS H).mono λrv w' ⟨hr,hw⟩=>?_;subst hr;have hw:=hw.symm;subst hw;refine aF.2 ?_;simp only [FI,aH,reduceIte,decide_true];refine (NU H).mono λrv w' ⟨hr,hw⟩=>?_;subst hr;have hw:=hw.symm;subst hw;refine aF.2 ?_;simp only [show (((96:Nat):Int)=96) from rfl,decide_true];exact hR _ (x1.trans x2)
theorem aDx {w:Ω} {p:cN} {i:bF} {mth pc:Nat} {K:List Int} (hA:hJ w p i) (hT:rP i) (hm:mth < i.methods.length) (hR:qU i (i.meth (mth:Int)) pc K) :
  aD prog 16 #[p.val i,i64 (mth:Int),i64 (pc:Int)] w λr w'=>r=i64 (K.length:Int)/\aG w w':=by
 obtain ⟨s,hw,hpc,hh,hs⟩:=hR;have hmm:=kU (i:=i) (a:=(mth:Int)) (by omega) (by omega);rw [Int.toNat_natCast] at hmm;have mr:(i.meth mth).right:=hT.1.2.2.1.2.1 _ (List.mem_of_getElem? hmm);obtain ⟨_,wf,_⟩:=hw.led hT.1 mr;have hl2:=wf.l2;have hl1:=wf.l1;have hcl:=mr.2.2.2.1.2;apply aRo;suffices key:∀ R:O->Ω->Prop,(∀ w',aG w w'->R (i64 (K.length:Int)) w')->DB (p.val i) (i64 (mth:Int)) (i64 (pc:Int)) w R from key _ λw' hx=>⟨rfl,hx⟩;intro R hR;unfold DB;refine sO λw1 hb1 x1=>?_;have hb1:aY w1 w.heap.size [.string i.name,p.fv,p.iv,p.mv,p.xv] 46:=hb1;have hA1:=hA.ext x1;refine aV.2 ?_;simp only [show ¬ ((mth:Int) < 0) by omega,aV,dZ,aH,reduceIte,Bool.false_eq_true,decide_false];refine bB hb1.boxed bK fS rfl (wZ iB hA1.mt (kF.2 ?_));simp only [show ¬ ((mth:Int)>=(i.methods.length:Int)) by omega,aA,decide_false];refine oY hb1.boxed jQ rfl ?_;apply aQw;unfold PD;refine sO λw2 hb2 x2=>?_;have hb2:aY w2 w1.heap.size [.string i.name,p.fv,p.iv,p.mv,p.xv] 46:=hb2;refine oY hb2.boxed jQ rfl ?_;refine TE (hA1.ext x2) hT.1 hm (λst sv hv w3 hw3 hS hB x3=>?_) λq e w3 hn _ _=>?_
 ·have he:=hw.det hw3;cases he;refine tR.2 (tQ.2 (tP.2 (tO.2 (cH.2 (cG.2 ?_)))));simp only [show ¬ ((pc:Int) < 0) by omega,dZ,reduceIte,Bool.false_eq_true,decide_false];have X:=(x1.trans x2).trans x3;obtain ⟨vs,hvs,hrow⟩:=hS;refine gD lN hB (kF.2 ?_);simp only [show ¬ ((pc:Int)>=(s.has.length:Int)) by omega,dZ,aH,reduceIte,Bool.false_eq_true,decide_false]
  have hbt:s.has[pc]?=some true:=by
   have:s.has.getD pc false=true:=hh;rw [List.getD_eq_getElem?_getD,List.getElem?_eq_getElem (by omega)] at this;rw [List.getElem?_eq_getElem (by omega)];exact congrArg some this
  refine mH lN mU hB (by omega) (by omega) (u:=.bool true) (by rw [Int.toNat_natCast,List.getElem?_map,hbt];rfl) (eJ.2 ?_);simp only [Bool.not_true,aA,Bool.not_true];obtain ⟨u,hu,hi⟩:=hrow pc (by omega);refine mH tW aZ hvs (by omega) (by omega) (u:=u) (by rw [Int.toNat_natCast];exact hu) ?_;refine gD aK hi ?_;have e:s.st.getD pc []=K:=hs;rw [e];exact hR _ X
 ·have:=hw.det hn;cases this
def At (l:List bF) (X0:Nat->Prop) (v:O) (n i:Nat) (w:Ω):Prop:=(∃ m' p' fg fc qs q,cW l X0 p' fg fc qs q m' w/\m'.ok l/\Bnd m'/\i+m'.fuel=n/\pm p'=v)\/∃ e p',aUe l X0 p' e w/\e.s≠0/\pm p'=v
theorem WA {w:Ω} {v0 v1 v2:O} {n3 n4:Int} {ll:List (List Rw)} {a b:List Int} (h:OM w v0 ll) (hbin:lY w) (hT:mQ w) (ha:gY w v1 a) (hb:gY w v2 b) (oka:pQ a) (okb:pQ b) (known:∀ w,aD prog 12 #[] w λv w'=>v=.bool true/\aG w w') :
  aD prog 3 #[v0,v1,v2,i64 n3,i64 n4] w λr w'=>r=.bool true/\aG w w':=by
 apply aUd;suffices key:∀ R:O->Ω->Prop,(∀ w',aG w w'->R (.bool true) w')->LV v0 v1 v2 (i64 n3) (i64 n4) w R from key _ λw' hx=>⟨rfl,hx⟩;intro R hR;unfold LV;refine aPf h hbin hT λlv l w1 hA h0 h3 x1=>?_;refine (FO (ha.ext x1) oka).mono λc1 w2 ⟨⟨_,a1,la,oka1⟩,x2⟩=>?_;refine (FO (hb.ext (x1.trans x2)) okb).mono λc2 w3 ⟨⟨_,b1,lb,okb1⟩,x3⟩=>?_;refine (TX (hA.ext (x2.trans x3)) h3 h0 (by decide) (by decide) (a1.ext x3) b1 oka1 okb1 la lb).mono λrv w4 ⟨p1,q1,vs1,hr,R1,x4⟩=>?_;subst hr;refine cH.2 (cG.2 ?_);have X4:=((x1.trans x2).trans x3).trans x4;refine EG (by decide) (by decide) λn hn=>?_;refine (known w4).mono λrv w5 ⟨hr,x5⟩=>?_;subst hr;refine eJ.2 ?_;simp only [Bool.not_true,dZ,aH,reduceIte,Bool.false_eq_true,Bool.not_true];refine V.ok (iO underlying26) ?_;simp only [dZ,aH,reduceIte,Bool.false_eq_true];refine V.ok (iO underlying27) ?_;simp only [aA];have x15:=((x2.trans x3).trans x4).trans x5;have hA5:=hA.ext x15;refine wZ kM hA5 ?_;refine EG (by omega) (by omega) λwho hwho=>?_;have hTT:=LJ hA;have hw0:who < (l.map (·.2)).length:=by simp;omega
 have hll:(l.map (·.2)).length<=1000:=by simp;omega
 have s1:=x1.size;have s2:=x2.size;have s3:=x3.size;have s4:=x4.size;have s5:=x5.size;refine (aTe hTT (R1.rms.ext x5) hw0 (by omega) (aSb l)).mono λrv w6 ⟨m1,fg1,fc1,k1,hr,M1,ok1,bd1,hrm1,x6,mb1⟩=>?_;subst hr;refine cH.2 (cG.2 (aT.2 ?_));simp only [ne_eq,not_true_eq_false,dZ,aH,reduceIte,Bool.false_eq_true,decide_false];refine V.ok (iO underlying33) ?_;simp only [aA];have X6:=(X4.trans x5).trans x6;have s6:=x6.size;have A6:=hA5.ext x6;have inX:∀ {wa wb:Ω},aG w6 wa->Fr (λi=>¬ Els m1 k1 fg1 [] w6.heap.size i) wa wb->True:=λ_ _=>trivial;clear inX
 have nw:∀ i,¬ Els m1 k1 fg1 [] w6.heap.size i->w3.heap.size<=i:=λi hi=>by
  by_cases hl:i < w6.heap.size
  ·have hM:MB m1 k1 fg1 [] i:=Classical.byContradiction λhn=>hi ⟨hl,hn⟩;rcases mb1 i hM with ⟨a,ha⟩|hge
   ·exact R1.ge a i ha
   ·omega
  ·omega
 have X3:=(x2.trans x3);refine ⟨λt w'=>∃ i:Nat,t=i64 (i:Int)/\i<=n+2/\aG w3 w'/\At (l.map (·.2)) (Els m1 k1 fg1 [] w6.heap.size) (pm m1) n i w',λt _=>n+2 - (RowKit.intOf t).toNat,⟨0,rfl,by omega,(x4.trans x5).trans x6,.inl ⟨_,m1,fg1,fc1,[],k1,M1.all,ok1,bd1,by show 0+n=n;omega,rfl⟩⟩,?_⟩
 rintro _ w7 ⟨i,rfl,hi,x7,hAt⟩ _;have A7:=hA.ext (X3.trans x7);refine bT.2 ?_;rw [aX (by omega)];refine FW.2 (aL (λhlt=>?_) λhge=>?_)
 ·have nxt:∀ {w8:Ω},aG w3 w8->At (l.map (·.2)) (Els m1 k1 fg1 [] w6.heap.size) (pm m1) n (i+1) w8->V prog (binOp .add 3 (i64 (i:Int)) (i64 1)) w8 λt72 w75=>(∃ i:Nat,t72=i64 (i:Int)/\i<=n+2/\aG w3 w75/\At (l.map (·.2)) (Els m1 k1 fg1 [] w6.heap.size) (pm m1) n i w75)/\n+2 - (RowKit.intOf t72).toNat < n+2 - (RowKit.intOf (i64 (i:Int))).toNat:=λ{w8} hx hA8=>by
   refine mR (by omega) ?_;exact ⟨⟨i+1,rfl,by omega,hx,hA8⟩,by simp only [aU];omega⟩
  rcases hAt with ⟨m,p,fg,fc,qs,q,M,ok,bd,hfu,hpm⟩|⟨e,p,T,hs,hpm⟩
  ·-- it runs
   rw [<- hpm] at nxt ⊢;obtain ⟨K,hR,hKl⟩:=ok.top.rch;have hwl:=ok.top.who;have hTi:=hTT _ (gQ hwl);have hmth:=ok.top.mth;have hmm:=kU (i:=m.f.img (l.map (·.2))) (a:=(m.f.mth:Int)) (by omega) (by omega)
   rw [Int.toNat_natCast] at hmm;have mr:((m.f.img (l.map (·.2))).meth m.f.mth).right:=hTi.1.2.2.1.2.1 _ (List.mem_of_getElem? hmm)
   have hK8:=(hR.go hTi.1 mr).2.2.2.1;refine (aCc M ok.dep (by omega)).mono λrv w8 ⟨sv,hr,ho8,x8⟩=>?_;subst hr;refine tR.2 (tQ.2 (tP.2 (tO.2 ?_)));have M8:=M.fr (Fr.of_ext (S:=λ_=>False) x8) λ_ _ h=>h;refine (sS M8.wh).mono λrv w' ⟨hr,hw⟩=>?_;subst hr;have hw:=hw.symm;subst hw;refine aF.2 ?_;obtain ⟨x,hx⟩:=bQ (l:=l) (j:=m.f.who) (by simpa using hwl);have hxi:aR (l.map (·.2)) m.f.who=x.2:=AE (by rw [List.getElem?_map,hx];rfl)
   have hwl':m.f.who < l.length:=by simpa using hwl
   have A8:=A7.ext x8;simp only [show ¬ ((m.f.who:Int) < 0) by omega,aV,FI,dZ,aH,reduceIte,Bool.false_eq_true,decide_true,decide_false];refine wZ kM A8 (kF.2 ?_);simp only [show ¬ ((m.f.who:Int)>=(l.length:Int)) by omega,dZ,aH,reduceIte,Bool.false_eq_true,decide_false];refine ldS kM jQ A8 hx LK λrow ⟨hrow,hAp,ht⟩=>?_;have hrow:(Value.agg row.toArray)=x.1.val x.2:=by rw [hrow];rfl
   rw [hrow];have hR':qU x.2 (x.2.meth (m.f.mth:Int)) m.f.pc K:=by rw [<- hxi];exact hR
   refine (aDx hAp.at_ ht (by rw [<- hxi];exact hmth) hR').mono λrv w9 ⟨hr,x9⟩=>?_;subst hr;refine gD fM (aC.of_own (x9.own ho8)) (aT.2 ?_);simp only [show ¬ ((K.length:Int)≠(m.f.st.length:Int)) by omega,dZ,aH,reduceIte,Bool.false_eq_true,decide_false];have M9:=M8.fr (Fr.of_ext (S:=λ_=>False) x9) λ_ _ h=>h;refine (aOv M9.wh).mono λrv w' ⟨hr,hw⟩=>?_;subst hr;have hw:=hw.symm;subst hw;have hql:=M9.len;have hdep:=ok.dep;refine cX.2 ?_;simp only [show ¬ (((qs.length+1:Nat):Int) > 8) by omega,aA,decide_false];refine (NU M9.wh).mono λrv w' ⟨hr,hw⟩=>?_;subst hr;have hw:=hw.symm;subst hw;refine (aKv hTT hll M9 ok (by unfold Bnd at bd;omega) (by unfold Bnd at bd;omega)).mono λrv w10 hstep=>?_;have x79:=(x7.trans x8).trans x9;rcases hstep with ⟨m2,hs,hr,p2,a2,b2,c2,q2,h2,mb2,rb2,F2⟩|⟨s,d,fu,r,hs,hs0,hr,p2,T2,mb2,rb2,F2⟩
   ·subst hr;have hf2:=(rS hs).1;have x10:aG w3 w10:=F2.ext x79 nw;refine aF.2 ?_;simp only [FI,aH,reduceIte,decide_true];have hfw:=NU h2.wh;rw [show pm p2=pm p by unfold pm;rw [mb2]] at hfw;refine hfw.mono λrv w' ⟨hr,hw⟩=>?_;subst hr;have hw:=hw.symm;subst hw;refine iJ.2 ?_;rw [aX (by omega)];refine aT.2 ?_;simp only [show ¬ ((m2.fuel:Int)≠(m.fuel:Int) - 1) by omega,aA,decide_false];exact nxt x10 (.inl ⟨m2,p2,a2,b2,c2,q2,h2,vV hTT ok hs,DQ hs bd,by omega,by unfold pm;rw [mb2]⟩)
   ·subst hr;have x10:aG w3 w10:=F2.ext x79 nw;refine aF.2 ?_;simp only [show ¬ s=0 from hs0,FJ,aH,aA,reduceIte,Bool.false_eq_true,decide_false];exact nxt x10 (.inr ⟨⟨s,d,fu,r⟩,p2,T2,hs0,by unfold pm;rw [mb2]⟩)
  ·-- it has ended
   rw [<- hpm] at nxt ⊢;obtain ⟨q,f,Z,aa,cc,H,hZ⟩:=T;refine (aMd H hs).mono λrv w' ⟨hr,hw⟩=>?_;subst hr;have hw:=hw.symm;subst hw;refine tR.2 (tQ.2 (tP.2 (tO.2 ?_)));refine (sS H).mono λrv w' ⟨hr,hw⟩=>?_;subst hr;have hw:=hw.symm;subst hw;refine aF.2 ?_;simp only [show ¬ e.s=0 from hs,FJ,FH,aH,aA,reduceIte,Bool.false_eq_true,decide_false];refine (NU H).mono λrv w' ⟨hr,hw⟩=>?_;subst hr;have hw:=hw.symm;subst hw;refine (aCg H hs).mono λrv w' ⟨hr,hw⟩=>?_;subst hr;have hw:=hw.symm;subst hw;refine aF.2 ?_;simp only [show ¬ e.s=0 from hs,FJ,aH,aA,reduceIte,Bool.false_eq_true,decide_false];exact nxt x7 (.inr ⟨e,p,⟨q,f,Z,aa,cc,H,hZ⟩,hs,rfl⟩)
 ·rcases hAt with ⟨m,p,fg,fc,qs,q,M,ok,bd,hfu,hpm⟩|⟨e,p,T,hs,hpm⟩
  ·omega
  rw [<- hpm];obtain ⟨q,f,Z,aa,cc,H,hZ⟩:=T;refine (sS H).mono λrv w' ⟨hr,hw⟩=>?_;subst hr;have hw:=hw.symm;subst hw;refine aT.2 ?_;simp only [show e.s≠0 from hs,ne_eq,not_false_eq_true,FI,aH,reduceIte,decide_true];refine (aMo H hs).mono λrv w' ⟨hr,hw⟩=>?_;subst hr;have hw:=hw.symm;subst hw;refine (sS H).mono λrv w' ⟨hr,hw⟩=>?_;subst hr;have hw:=hw.symm;subst hw;refine aF.2 ?_;simp only [decide_true];exact hR _ (((x1.trans x2).trans x3).trans x7)
end Go.Proofs.YtgkkecladbmjkaaGreatDoor
namespace Go.Vc
open Go.ChangeShapes Go.WideShapes Go.ChangeAt Go.RowKit
variable {H:Type} {enc:TypeId × O->H} {P:Program}
theorem EE {f:Func} {s:ChangeSpec} {apart fresh handsOn again:Bool} {W W':Ω} {args:Array O} {v:O} {ds gs:List (DataW H)} {pa pv:List MemPlace}
  (hW:DataW.Whole enc P f.params.toList s.vars apart W args.toList ds gs (pa++pv)) (hx:aG W W')
  (hr:∀ b sp hd,DataW.TrodAll enc P W' b sp hd f.resultTypes.toList (v.resultList f.resultTypes.size) (s.fn H (ds++gs)).results [])
  (ha:∀ sp:Nat->Bool,(∀ p∈pa++pv,sp p.block=true)->DataW.TrodAll enc P W' 0 sp true f.params.toList args.toList (s.fn H (ds++gs)).args pa)
  (hv:∀ sp:Nat->Bool,(∀ p∈pa++pv,sp p.block=true)->DataW.TrodVars enc P W' sp s.vars (s.fn H (ds++gs)).vars pv)
  (hok:∀ (j:Nat) (t:TypeId) (r:O),f.resultTypes[j]?=some t->(v.resultList f.resultTypes.size)[j]?=some r->Value.okWide P W' .any 0 t r) :
  s.post enc P f apart fresh handsOn again W args v W':=by
 have hlt:=hW.lt;have hall:∀ p∈pa++pv,(λb=>decide (b < W.heap.size)) p.block=true:=λp hp=>decide_eq_true (hlt p hp);have hk:=hx.below.frame (·∈pa++pv)
 refine ⟨ds,gs,pa++pv,[],pa,pv,hW,hr _ _ _,ha _ hall,hv _ hall,World.keptBut_mono (λp hp=>⟨hp,.inr (by simpa using hp)⟩) hk,λ_=>?_⟩;obtain ⟨_,_,_,_,_,hz,hn⟩:=hW;have h2:=trodAll_append (ha (λ_=>true) λ_ _=>rfl) (hr 0 (λ_=>true) true);refine ⟨hok,_,_,pa++pv,⟨pa,pv,(by simpa using h2),hv _ λ_ _=>rfl,rfl,λb off hp=>?_,hn⟩,λp hp _=>hp⟩;rw [hx.below.frozen (hlt _ hp)];exact hz b off hp
theorem AQ (hl:laidOutB P=true) {W W':Ω} (hx:aG W W') {sp:Nat->Bool}:∀ {ts:List TypeId} {vs:List O} {ds:List (DataW H)} {p:List MemPlace},(ts.all λt=>P.readableRec t&&decide (t < P.types.size))=true ->
  DataW.TrodAll enc P W 0 (λ_=>true) true ts vs ds p->(∀ x∈p,x.block < W.heap.size)->(∀ x∈p,sp x.block=true)->DataW.TrodAll enc P W' 0 sp true ts vs ds p
 | [],vs,ds,p,_,h,_,_=>by
  obtain ⟨rfl,rfl,rfl⟩:=trodAll_nil h;exact trodAll_mk0
 | t::ts,vs,ds,p,hr,h,hlt,hs=>by
  simp only [List.all_cons,Bool.and_eq_true,decide_eq_true_eq] at hr;obtain ⟨v,vs',d,ds',p1,p2,rfl,rfl,rfl,h1,h2⟩:=trodAll_cons h
  exact trodAll_cons_mk (WideElems.Trod_stays hl hr.1.1 hr.1.2 h1 (λx hx'=>hx.below.same (hlt x (by simp [hx']))) λx hx'=>hs x (by simp [hx']))
   (AQ hl hx (by simpa using hr.2) h2 (λx hx'=>hlt x (by simp [hx'])) λx hx'=>hs x (by simp [hx']))
end Go.Vc
namespace Go.Vc
open Go.ChangeShapes
variable {P:Program} {W:Ω} {x:String} {ds:List (DataW Unit)} {i m:Nat} {k:IntKind} {laid:List (String × DataW Unit)}
theorem uJ {P:Program} {W:Ω} {x:String} {ds:List (DataW Unit)} {g t e m:Nat} (hg:P.globalNamed x=some g) (ht:(P.globals[g]?).map (·.type)=some t) (hu:P.underlying t=some (.array m e)) {i:Nat} (hi:i < m) :
  ∀ {laid:List (String × DataW Unit)} {ps:List MemPlace},DataW.LaidVars P W laid ps->(x,.agg ds)∈laid->∃ (fuel:Nat) (q:List MemPlace) (cs:List O) (d:DataW Unit),ds[i]?=some d/\DataW.trod (λ_=>()) P W 0 (λ_=>true) false fuel e ((cs.drop (i*P.cellsOf e)).take (P.cellsOf e))=some (d,q)/\∀ j:Nat,W.cell? ⟨g,j,none⟩=cs[j]?
 | [],_,_,hm=>by cases hm
 | (n',d')::r,ps,h,hm=>by
  obtain ⟨g',t',cs,fuel,p,q,h1,h2,h3,h4,h5,_⟩:=h;rcases List.mem_cons.1 hm with e1|e1
  ·cases e1;obtain rfl:=Option.some.inj (hg.symm.trans h1);obtain rfl:=Option.some.inj (ht.symm.trans h2);obtain ⟨xs,m',_,ex,_,hxl,hel⟩:=DataW.trod_array hu h4;have hE:=hel i hi;rw [List.getElem?_eq_getElem (by omega)] at hE;refine ⟨m',(xs[i]'(by omega)).2,cs.toList,(xs[i]'(by omega)).1,?_,hE,λj=>by rw [World.var?_cell hg h3 j,<- Array.getElem?_toList]⟩;have:ds=xs.map (·.1):=by have:=congrArg Prod.fst ex;simpa using this
   rw [this,List.getElem?_map,List.getElem?_eq_getElem (by omega)];rfl
  ·exact uJ hg ht hu hi h5 e1
theorem EN {g t e:Nat} {ps:List MemPlace} (hg:P.globalNamed x=some g) (ht:(P.globals[g]?).map (·.type)=some t) (hu:P.underlying t=some (.array m e)) (he:P.underlying e=some (.int k)) (c1:P.cellsOf e=1)
  (h:DataW.LaidVars P W laid ps) (hm:(x,.agg ds)∈laid) (hi:i < m):∃ z,ds[i]?=some (.lit (.int k z))/\W.cell? ⟨g,i,none⟩=some (.int k z):=by
 obtain ⟨fuel,q,cs,d,h1,h2,h3⟩:=uJ hg ht hu hi h hm;rw [c1,Nat.mul_one] at h2;obtain ⟨z,e1,e2,_⟩:=DataW.trod_int he h2;cases e2;refine ⟨z,h1,?_⟩;rw [h3 i];have h0:((cs.drop i).take 1)[0]?=some (.int k z):=by rw [e1];rfl
 simpa using h0
theorem EO {g t e c f o u:Nat} {fs:Array Field} {ps:List MemPlace} (hg:P.globalNamed x=some g) (ht:(P.globals[g]?).map (·.type)=some t) (hu:P.underlying t=some (.array m e)) (he:P.underlying e=some (.struct fs)) (hc:P.cellsOf e=c)
  (hf:(fs[f]?).map (λy=>(y.type,y.offset))=some (u,o)) (hk:P.underlying u=some (.int k)) (c1:P.cellsOf u=1) (ho:o < c)
  (h:DataW.LaidVars P W laid ps) (hm:(x,.agg ds)∈laid) (hi:i < m):∃ l z,ds[i]?=some (.agg l)/\l[f]?=some (.lit (.int k z))/\W.cell? ⟨g,i*c+o,none⟩=some (.int k z):=by
 obtain ⟨fuel,q,cs,d,h1,h2,h3⟩:=uJ hg ht hu hi h hm;rw [hc] at h2;obtain ⟨xs,n,_,ex,_,hxl,hel⟩:=DataW.trod_struct he h2;obtain ⟨fd,hfd,hfe⟩:=Option.map_eq_some_iff.1 hf;have h4:=hel f fd hfd;have hlt:f < fs.size:=(Array.getElem?_eq_some_iff.1 hfd).1;simp only [Prod.mk.injEq] at hfe;obtain ⟨rfl,rfl⟩:=hfe;rw [c1,List.getElem?_eq_getElem (by omega)] at h4;obtain ⟨z,e1,e2,_⟩:=DataW.trod_int hk h4;have e3:d=.agg (xs.map (·.1)):=congrArg Prod.fst ex
 refine ⟨_,z,by rw [h1,e3],by rw [List.getElem?_map,List.getElem?_eq_getElem (by omega)];simp [e2],?_⟩;rw [h3];have h0:((((cs.drop (i*c)).take c).drop fd.offset).take 1)[0]?=some (.int k z):=by rw [e1];rfl
 simpa [List.getElem?_take,List.getElem?_drop,ho] using h0
end Go.Vc
