/- RoomServes: an array is made. -/
import Derived.Test.YtgkkecladbmjkaaGreatDoorYe
import Derived.Test.YtgkkecladbmjkaaGreatDoorYd
set_option maxHeartbeats 6400000
set_option linter.unusedSimpArgs false
namespace Go.Proofs.YtgkkecladbmjkaaGreatDoor
open Tryz
open Go.Vc
def GH (l:List PA) (i:Nat):Nat:=(((l.drop 2).take i).map λa=>8+a.data.length).sum
def lM (l:List PA):Nat:=GH l (l.length - 2)
theorem BB {ar:List dB} {i:Nat} {a:dB} (h:ar[i+2]?=some a):GH (ar.map pa) (i+1)=GH (ar.map pa) i+(8+a.data.length):=by
 unfold GH
 have hi:((ar.map pa).drop 2)[i]?=some (pa a):=by
  rw [List.getElem?_drop,List.getElem?_map,show 2+i=i+2 by omega,h];rfl
 have hl:=(List.getElem?_eq_some_iff.1 hi).1;rw [List.take_add_one,hi];simp [List.sum_append];rfl
theorem XQ {w:Ω} {hb B:Nat} {size:Int} {g cap:Nat} {ar:List dB} (h:gT w hb B size g cap ar) (h2:2<=ar.length) :
  aC prog 239 #[.pointer (some ⟨hb,0,none⟩)] w λq w'=>(q=i64 ((lM (ar.map pa):Nat):Int)/\8*(ar.length - 2)<=lM (ar.map pa)/\lM (ar.map pa)<=72*(ar.length - 2))/\aG w w':=by
 apply aGa;unfold IV;have hc:=h.cap;have hcnt:=h.cnt;refine ⟨.inl ⟨_,rfl⟩,?_⟩;refine bA h.heap.boxed dH dA rfl ?_;refine V.ok (YR (a:=2) underlying154 gK h2 hc.1) ?_;refine oD.2 ?_;refine ⟨λv v' w'=>∃ z i:Nat,v=i64 (z:Int)/\v'=i64 (i:Int)/\i<=ar.length - 2/\8*i<=z/\z<=72*i/\z=GH (ar.map pa) i/\aG w w',λ_ v _=>ar.length - (RowKit.intOf v).toNat,⟨0,0,rfl,rfl,Nat.zero_le _,Nat.le_refl _,Nat.le_refl _,rfl,aG.refl _⟩,?_⟩;rintro _ _ w1 ⟨z,i,rfl,rfl,hi,hz1,hz2,hz,x1⟩ _;refine aV.2 (aK (λhlt=>?_) λhge=>?_)
 ·have hne:¬ cap=2:=by omega
  rw [if_neg hne];obtain ⟨a,ha⟩:=bH (l:=ar) (j:=i+2) (by omega);have hal:=h.len a (List.mem_of_getElem? ha);have ho:=h.data a (List.mem_of_getElem? ha);refine V.ok (nV (by omega) (by omega)) ?_;have e:2*5+((i:Nat):Int).toNat*5=(i+2)*5:=by omega
  rw [e];refine V.ok (vC (cs:=a.cells) rfl λj hj=>(h.ext x1).get ha hj) ?_;refine xL pD rfl (gS (bM ho)) λw2 hc2 x2=>?_;refine bA hc2.boxed bL fS rfl (gG jQ (aB.of_own ((x1.trans x2).own ho)) ?_);refine bW.2 (bW.2 (bW.2 ?_));rw [jD (n:=8+((a.data.length:Nat):Int)) (by omega) (by omega),aX (by omega),aX (by omega)];exact ⟨⟨z+(8+a.data.length),i+1,by congr 1,by congr 1,by omega,by omega,by omega,by rw [BB ha,hz],x1.trans x2⟩,by simp only [RowKit.intOf];omega⟩
 ·have e:i=ar.length - 2:=by omega
  have e2:lM (ar.map pa)=z:=by unfold lM;rw [List.length_map,<- e,hz]
  rw [e2];exact ⟨⟨rfl,by omega,by omega⟩,x1⟩
theorem kdY {S:Ω->Prop} {kd:Int} (hkd:kd=3\/kd=4) {L:O->Prop} (h:L (.bool false)) :
  aD prog S (do eqGuard .neq 3 (.tmp 14) (.const (i64 3)) (i64 kd) (i64 3);binOp .neq 3 (i64 kd) (i64 3)) λt15=>pN t15 true (λK=>K (i64 kd)) λt17=>pN t15 true (λK=>aD prog S (do eqGuard .neq 3 (.tmp 17) (.const (i64 4)) t17 (i64 4);binOp .neq 3 t17 (i64 4)) K) λt18=>aN t15 t18 (.bool false) λt19=>L t19:=by
 rcases hkd with rfl|rfl
 ·refine aD.ok (λw' _=>lR) ?_;simp only [show decide ((3:Int)≠3)=false by decide,aAr,aJ,reduceIte,Bool.false_eq_true];exact h
 ·refine aD.ok (λw' _=>lR) ?_;simp only [show decide ((4:Int)≠3)=true by decide,aKg,aJ,reduceIte];refine aD.ok (λw' _=>lR) ?_;simp only [show decide ((4:Int)≠4)=false by decide];exact h
theorem WV {kd:Int} (hkd:kd=3\/kd=4) {w:Ω} {hb B:Nat} {size:Int} {g cap:Nat} {ar:List dB} (h:gT w hb B size g cap ar) (h2:2<=ar.length) (hs:0<=size/\size<=1000) {who life:Int} {n:Nat} {share:Bool} (hl:0<=life/\life<=3) (hn:n<=64) :
  aC prog 215 #[.pointer (some ⟨hb,0,none⟩),i64 who,i64 kd,i64 life,.bool share,i64 (n:Int)] w λq w'=>
   ((life > 2\/8+(n:Int) > size - lM (ar.map pa))/\q=.tuple #[i64 0,.bool false]/\aG w w')\/(¬ (life > 2\/8+(n:Int) > size - lM (ar.map pa))/\∃ g' cap' dv,q=.tuple #[i64 ((ar.length+1:Nat):Int),.bool true]/\gT w' hb B size g' cap' (ar++[⟨who,kd,life,share,dv,List.replicate n 0⟩])/\(∀ x,dv.ownBlock=some x->w.heap.size<=x)/\(g'=g\/w.heap.size<=g')/\Fr (λi=>i=hb\/i=g) w w'):=by
 apply aGk;unfold JF;have hc:=h.cap;have hcnt:=h.cnt;have hlt:=h.lt;have D0:aG w w.drew:=(aG.refl _).drew;refine aH.mk' (λw'=>aG w w') D0 ?_;refine kdY hkd ?_;simp only [kC,aJ,reduceIte,Bool.false_eq_true];refine aD.ok (λw' _=>pE) ?_;simp only [show ¬ life < 0 by omega,kC,aJ,reduceIte,Bool.false_eq_true,decide_false];refine aD.ok (λw' _=>vD) ?_;by_cases hlife:life > 2
 ·simp only [hlife,kB,zI,aJ,aE,reduceIte,decide_true];exact ⟨D0,.inl ⟨.inl (by first|exact hlife|trivial),by first|rfl|trivial,D0⟩⟩
 simp only [hlife,kC,aJ,reduceIte,Bool.false_eq_true,decide_false];refine aD.ok (λw' _=>pE) ?_;simp only [show ¬ ((n:Nat):Int) < 0 by omega,kC,aJ,reduceIte,Bool.false_eq_true,decide_false];refine aD.ok (λw' _=>vD) ?_;simp only [show ¬ ((n:Nat):Int) > 64 by omega,dJ,kC,aJ,reduceIte,Bool.false_eq_true,decide_false];refine aD.ok (λw' _=>nW) ?_;rw [aX (by omega)];refine ⟨.inl ⟨_,rfl⟩,?_⟩;refine dT (λw' hw=>(h.heap.ext hw).boxed) fU aL rfl ?_;refine (XQ (h.ext D0) h2).mono λq w1 ⟨⟨hq,hz1,hz2⟩,x1⟩=>?_;subst hq;have X1:=D0.trans x1;refine ⟨X1,?_⟩;refine aD.ok (λw' _=>mB) ?_;rw [aX (by omega)];refine aD.ok (λw' _=>vD) ?_;refine aK (λhfull=>.inl ⟨by first|exact .inr hfull|exact hfull|omega,by first|rfl|trivial,X1⟩) λhroom=>?_;have D1:aG w1 w1.drew:=(aG.refl _).drew;have h1:=h.ext X1;have hhg:¬ hb=g:=h.fresh.1;have hhl0:=h.heap.lt;refine aH.mk' (λw'=>Fr (λi=>i=g) w1 w') (Fr.of_ext D1) ⟨.inl ⟨_,rfl⟩,?_⟩;refine dT (λw' hw=>(hw.blk h1.heap hhg).boxed) dH dA rfl ?_;have s1:=X1.size;have d1:=D1.size;refine HI (n:=n) rfl underlying23 pW rfl (by omega) (by omega) λw2 hb2 x2 hs2=>?_;have hx12:=D1.trans x2;refine ⟨Fr.of_ext hx12,?_⟩;refine vS pY [(0,i64 who),(1,i64 kd),(2,i64 life),(3,.bool share),(4,.slice (some ⟨w1.drew.heap.size,0,none⟩) n n)] rfl rfl ?_
 refine V.ok (v:=.slice (some ⟨w2.heap.size,0,none⟩) 1 1) (w':=w2.alloc (.cells (⟨who,kd,life,share,.slice (some ⟨w1.drew.heap.size,0,none⟩) n n,List.replicate n 0⟩:dB).cells.toArray 127)) (by kernel_rfl) ?_;have hb3:bD (w2.alloc (.cells (⟨who,kd,life,share,.slice (some ⟨w1.drew.heap.size,0,none⟩) n n,List.replicate n 0⟩:dB).cells.toArray 127)) w2.heap.size (⟨who,kd,life,share,.slice (some ⟨w1.drew.heap.size,0,none⟩) n n,List.replicate n 0⟩:dB).cells 127:=by unfold bD;rw [heap_alloc_new]
 have x3:aG w2 (w2.alloc (.cells (⟨who,kd,life,share,.slice (some ⟨w1.drew.heap.size,0,none⟩) n n,List.replicate n 0⟩:dB).cells.toArray 127)):=(aG.refl _).alloc _;generalize w2.alloc (.cells (⟨who,kd,life,share,.slice (some ⟨w1.drew.heap.size,0,none⟩) n n,List.replicate n 0⟩:dB).cells.toArray 127)=w3 at hb3 x3 ⊢;have hx13:=hx12.trans x3;refine ⟨Fr.of_ext hx13,?_⟩;have s2:=x2.size;have s3:=x3.size;have ho3:w3.ownsRow 0 127 5 (.slice (some ⟨w2.heap.size,0,none⟩) 1 1) 1 _:=eC hb3 rfl (Nat.zero_le _) (by unfold maxLen;omega);refine apZ underlying154 gK rfl (by omega) (hx13.own h1.row) ho3 (by omega) rfl (by omega) (by unfold maxLen;omega) (by omega) λg' cap' w4 ho4 hg4 hlies=>?_;have f4:Fr (λi=>i=g) w3 w4:=Fr.of_grown hg4 λk hk=>by simpa [Value.ownBlock] using hk.symm
 have f14:Fr (λi=>i=g) w1 w4:=(Fr.of_ext (S:=λi=>i=g) hx13).trans f4 λ_ _ h=>h;refine ⟨f14,.inl ⟨_,rfl⟩,?_⟩;refine aD.ok (λw' _=>NB) ?_;have hheap4:=f14.blk h1.heap hhg;refine wX sI hheap4 rfl (by simp) rfl ?_;have f5:Fr (λi=>i=hb) w4 (w4.setCell ⟨hb,1,none⟩ (.slice (some ⟨g',0,none⟩) (ar.length+1) cap')):=Fr.of_set rfl;have hb5:=hheap4.set 1 (.slice (some ⟨g',0,none⟩) (ar.length+1) cap')
 have hg':g'=g\/w1.heap.size<=g'/\w1.drew.heap.size≠g':=by
  rcases hlies with hl|hl
  ·left;simpa [Value.ownBlock] using hl.symm
  ·right;omega
 have hhl:=h.heap.lt;have hg'b:¬ g'=hb:=by omega
 have ho5:=f5.own ho4 λk hk=>by
  have:g'=k:=by simpa [Value.ownBlock] using hk
  omega
 have hd4:w4.ownsRow w1.heap.size 5 1 (.slice (some ⟨w1.drew.heap.size,0,none⟩) n n) n (List.replicate n (u8 0)):=eC (f4.blk (hb2.ext x3) (by omega)) (by simp) (by omega) (by unfold maxLen;omega)
 have hd5:=f5.own hd4 λk hk=>by
  have:w1.drew.heap.size=k:=by simpa [Value.ownBlock] using hk
  omega
 generalize w4.setCell ⟨hb,1,none⟩ (.slice (some ⟨g',0,none⟩) (ar.length+1) cap')=w5 at f5 hb5 ho5 hd5 ⊢;have f15:=f14.or f5;have F15:Fr (λi=>i=hb\/i=g) w1 w5:=f15.mono λi hi=>hi.symm;refine ⟨.inl ⟨_,rfl⟩,?_⟩;refine bA hb5.boxed dH dA rfl (oD.2 ?_);refine .inr ⟨by first|exact hroom|omega|(intro hh;rcases hh with hh|hh<;>first|exact hh.elim|omega|exact absurd hh hroom),g',cap',.slice (some ⟨w1.drew.heap.size,0,none⟩) n n,rfl,?_,λx hx=>?_,by omega,(Fr.of_ext (S:=λi=>i=hb\/i=g) X1).trans F15 λ_ _ h=>h⟩
 ·refine h1.push _ (by simpa using hn) (by omega) hb5 ho5 ?_ ?_ (by omega) F15
  ·simpa using hd5
  ·intro he;have:w1.drew.heap.size=g':=by simpa [Value.ownBlock] using he
   rcases hg' with rfl|hg'
   ·have:=h1.cap;omega
   ·omega
 ·have:w1.drew.heap.size=x:=by simpa [Value.ownBlock] using hx
  omega
theorem bZ.push {p:RP} {w w':Ω} {g' cap':Nat} (h:bZ p w) {a:dB} (hh:gT w' p.hb p.B p.size g' cap' (p.ar++[a])) (hok:qD a.data) (hn:∀ x,a.dv.ownBlock=some x->w.heap.size<=x) (hg:g'=p.g\/w.heap.size<=g') (hf:Fr (λi=>i=p.hb\/i=p.g) w w') :
  bZ { p with g:=g',cap:=cap',ar:=p.ar++[a] } w'/\∀ i,kE { p with g:=g',cap:=cap',ar:=p.ar++[a] } i->kE p i\/w.heap.size<=i:=by
 have hlt:=h.lt;have hhl:=h.h.lt;have hc:=h.h.cap;have pb:∀ x,p.pub.ownBlock=some x->p.B<=x/\x < w.heap.size:=λx hx=>h.qp.lt x hx;have sb:∀ x,p.sec.ownBlock=some x->p.B<=x/\x < w.heap.size:=λx hx=>h.qs.lt x hx;have hrl:=h.room.lt;have hhl2:=h.h.heap.lt
 have mu:∀ i,kE { p with g:=g',cap:=cap',ar:=p.ar++[a] } i->kE p i\/w.heap.size<=i:=λi hi=>by
  rcases hi with hi|hi|hi|⟨b,hb',he⟩|hi
  ·exact .inl (.inl hi)
  ·exact .inl (.inr (.inl hi))
  ·have hi:i=g':=hi;rcases hg with hg|hg
   ·exact .inl (.inr (.inr (.inl (hi.trans hg))))
   ·exact .inr (hi▸hg)
  ·rcases List.mem_append.1 hb' with hb'|hb'
   ·exact .inl (.inr (.inr (.inr (.inl ⟨b,hb',he⟩))))
   ·obtain rfl:=List.mem_singleton.1 hb';exact .inr (hn i he)
  ·exact .inl (.inr (.inr (.inr (.inr hi))))
 have hM:∀ i,(i=p.hb\/i=p.g)->kE p i:=λi hi=>hi.elim (λh=>.inr (.inl h)) λh=>.inr (.inr (.inl h))
 refine ⟨⟨hf.seg h.room (λhe=>he.elim hlt (h.fresh p.rb (.inl rfl)).1),hh,hf.own h.qp λi hi he=>?_,hf.own h.qs λi hi he=>?_,h.lp,h.ls,h.ne,λb hb' x hx he=>?_,λb hb' x hx he=>?_,λhe=>?_,λhe=>?_,hlt,λy hy=>⟨?_,λb hb' he=>?_,(h.fresh y hy).2.2⟩,
  hf.blk h.tbox λhe=>h.tfr _ (.inl rfl) (hM _ he),hf.own h.trow λi hi he=>h.tfr i (.inr hi) (hM i he),h.tne,λi ht hm=>?_,by have:=h.two;simp;omega,h.sz,λb hb'=>?_⟩,mu⟩
 ·rcases he with rfl|rfl
  ·exact (h.fresh _ (.inr rfl)).2.2.1 hi
  ·exact h.gp hi
 ·rcases he with rfl|rfl
  ·exact (h.fresh _ (.inr rfl)).2.2.2 hi
  ·exact h.gs hi
 ·rcases List.mem_append.1 hb' with hb'|hb'
  ·exact h.np b hb' x hx he
  ·obtain rfl:=List.mem_singleton.1 hb';have:=hn x hx;have:=pb x he;omega
 ·rcases List.mem_append.1 hb' with hb'|hb'
  ·exact h.ns b hb' x hx he
  ·obtain rfl:=List.mem_singleton.1 hb';have:=hn x hx;have:=sb x he;omega
 ·rcases hg with rfl|hg
  ·exact h.gp he
  ·have:=pb g' he;omega
 ·rcases hg with rfl|hg
  ·exact h.gs he
  ·have:=sb g' he;omega
 ·have hne:=(h.fresh y hy).1
  have hyl:y < w.heap.size:=by
   rcases hy with e|e
   ·rw [show y=p.rb from e];exact hrl
   ·rw [show y=p.hb from e];exact hhl2
  show y≠g';omega
 ·rcases List.mem_append.1 hb' with hb'|hb'
  ·exact (h.fresh y hy).2.1 b hb' he
  ·obtain rfl:=List.mem_singleton.1 hb';have:=hn y he;rcases hy with e|e
   ·have:y=p.rb:=e;omega
   ·have:y=p.hb:=e;omega
 ·rcases mu i hm with hm|hm
  ·exact h.tfr i ht hm
  ·have:=h.hi i (.inr ht);omega
 ·rcases List.mem_append.1 hb' with hb'|hb'
  ·exact h.bytes b hb'
  ·obtain rfl:=List.mem_singleton.1 hb';exact hok
theorem VO (n:Nat):qD (List.replicate n 0):=λb hb=>by
 rw [(List.mem_replicate.1 hb).2];omega
def rF (sb:Int):Int:=IntKind.i64.wrap (BitVec.ofInt IntKind.i64.bits sb &&& BitVec.ofInt IntKind.i64.bits 3).toNat
def kN (s:PS) (who sa sb n:Int):DL:=if n < 0\/n > 64 then (0,28425,s.ev [⟨3,sa,sb,n⟩]) else if rF sb > 2\/8+n > s.size - lM s.ar then (0,28421,s.ev [⟨3,sa,sb,n⟩]) else (IntKind.i32.wrap ((s.ar.length+1:Nat):Int),36864,{ s.ev [⟨3,sa,sb,n⟩] with ar:=s.ar++[⟨who,sa,rF sb,decide (sb>=4),List.replicate n.toNat 0⟩] })
theorem HJ {kd:Int} (hkd:kd=3\/kd=4) {p:RP} {w:Ω} {av:O} (h:bZ p w) (hl:p.tr.length<=100000) {who sb n:Int} (hsb:0<=sb/\sb < 7) (hav:aB w av 1 1 [i64 n]) :
  aC prog 187 #[rJ p who kd sb av] w λq w'=>AY p w (kN p.ps who kd sb n) q w':=by
 apply aGy;unfold JQ;refine tH λw1 hb1 x1=>?_;refine bA hb1.boxed bR aZ rfl ?_;refine nO aM aL (hav.ext x1) (by omega) (by omega) rfl ?_;refine qO hb1.boxed iE rfl ?_;refine bA hb1.boxed iV aL rfl ?_;refine bA hb1.boxed jM aL rfl ?_;refine (BH (h.ext x1) hl (who:=who) (a:=kd) (b:=sb) (av:=av)).mono λ_ w2 ⟨tv',h2,s2,f2,_⟩=>?_;have hb2:=f2.blk hb1 h.nT;have S2:=(pO.of_ext (p:=p) x1).trans s2;refine aV.2 ?_;by_cases hn0:n < 0
 ·simp only [hn0,kB,aJ,aE,reduceIte,decide_true];refine pB h2 S2 (aG.refl _) (x:=kN p.ps who kd sb n) ?_ ?_<;>unfold kN<;>rw [if_pos (.inl hn0)]
  ·rfl
 simp only [hn0,dR,dJ,aJ,reduceIte,Bool.false_eq_true,decide_false];by_cases hn1:n > 64
 ·simp only [hn1,aE,decide_true];refine pB h2 S2 (aG.refl _) (x:=kN p.ps who kd sb n) ?_ ?_<;>unfold kN<;>rw [if_pos (.inr hn1)]
  ·rfl
 simp only [hn1,aA,decide_false];have hnn:¬ (n < 0\/n > 64):=by omega
 obtain ⟨n,rfl⟩:∃ m:Nat,n=m:=⟨n.toNat,by omega⟩;have D2:aG w2 w2.drew:=(aG.refl _).drew;have hlt:=h.lt;have hc:=h.h.cap;have hhl:=h.h.heap.lt;have hS:∀ w',Fr (λi=>i=p.hb\/i=p.g) w2 w'->bD w' w.heap.size (rJ p who kd sb av).cells.toList 283:=λw' hw=>hw.blk hb2 (by omega);have hR:∀ w',Fr (λi=>i=p.hb\/i=p.g) w2 w'->kV w' p.rb 0 [.pointer (some ⟨p.hb,0,none⟩),p.iv,p.fv,p.pub,p.sec]:=λw' hw=>hw.seg h2.room (λhe=>he.elim hlt (h.fresh p.rb (.inl rfl)).1);refine aH.mk' (λw'=>Fr (λi=>i=p.hb\/i=p.g) w2 w') (Fr.of_ext D2) ?_;refine dT (λw' hw=>(hS w' hw).boxed) dW gI rfl ⟨.inl ⟨_,rfl⟩,?_⟩;refine dT (λw' hw=>(hR w' hw).boxed) bY fA rfl ?_;refine dT (λw' hw=>(hS w' hw).boxed) jN aL rfl ?_;refine dT (λw' hw=>(hS w' hw).boxed) iV aL rfl ?_;refine dT (λw' hw=>(hS w' hw).boxed) jM aL rfl ?_;refine aD.ok (λw' _=>tO) ?_;refine dT (λw' hw=>(hS w' hw).boxed) jM aL rfl ?_;refine aD.ok (λw' _=>BV) ?_;have h3:=h2.ext D2
 have hlife:0<=rF sb/\rF sb<=3:=by
  have h7:sb=0\/sb=1\/sb=2\/sb=3\/sb=4\/sb=5\/sb=6:=by omega
  rcases h7 with rfl|rfl|rfl|rfl|rfl|rfl|rfl<;>decide
 refine (WV hkd h3.h h3.two h3.sz hlife (n:=n) (by omega)).mono λq w4 hq=>?_;rcases hq with ⟨hfull,rfl,x4⟩|⟨hroom,g',cap',dv,rfl,hh,hdv,hg,hf⟩
 ·refine ⟨Fr.of_ext (D2.trans x4),?_⟩;refine aD.ok (λw' _=>iQ) ?_;refine aD.ok (λw' _=>iP) ?_;refine fN.2 (aE.2 ?_);refine pB h2 S2 (D2.trans x4) (x:=kN p.ps who kd sb n) ?_ ?_<;>unfold kN<;>rw [if_neg hnn,if_pos (show rF sb > 2\/8+(n:Int) > p.ps.size - lM p.ps.ar from hfull)]
  ·rfl
 ·have f24:Fr (λi=>i=p.hb\/i=p.g) w2 w4:=(Fr.of_ext (S:=λi=>i=p.hb\/i=p.g) D2).trans hf λ_ _ h=>h;refine ⟨f24,?_⟩;refine aD.ok (λw' _=>iQ) ?_;refine aD.ok (λw' _=>iP) ?_;refine fN.2 (aA.2 ?_);refine V.ok (bE underlying3 underlying21) ?_;obtain ⟨h5,mu5⟩:=h3.push hh (VO n) hdv hg hf;have s24:=S2.fr.size;have d2:=D2.size;refine ⟨_,?_,?_,h5,S2.trans ⟨rfl,rfl,rfl,rfl,rfl,rfl,rfl,λi hi=>?_,f24.mono λi hi=>.inl (hi.elim (λh=>.inr (.inl h)) λh=>.inr (.inr (.inl h)))⟩⟩
  ·unfold kN;rw [if_neg hnn,if_neg (show ¬ (rF sb > 2\/8+(n:Int) > p.ps.size - lM p.ps.ar) from hroom)];show _=Value.tuple #[i32 (IntKind.i32.wrap (((p.ar.map pa).length+1:Nat):Int)),i64 36864];rw [List.length_map]
   first|done|rfl
  ·unfold kN;rw [if_neg hnn,if_neg (show ¬ (rF sb > 2\/8+(n:Int) > p.ps.size - lM p.ps.ar) from hroom)];show (⟨p.size,(p.ar++[_]).map pa,p.tp,p.ts,p.tr++[_]⟩:PS)=_;rw [List.map_append];simp only [Int.toNat_natCast];rfl
  ·rcases hi with hi|hi
   ·rcases mu5 i hi with hm|hm
    ·exact .inl hm
    ·exact .inr (.inr (Nat.le_trans d2 hm))
   ·exact .inr (.inl hi)
theorem PR {w:Ω}:aC prog 94 #[i64 17] w λr w'=>r=i64 (2)/\w'=w:=by
 apply qB;unfold lW;refine ⟨λv w'=>v=.bool false/\w'=w,?_,?_⟩
 ·simp only [aF,Int.reduceEq,decide_false,aA];exact ⟨trivial,trivial⟩
 rintro _ w' ⟨rfl,hw⟩ _;have hw:=hw.symm;subst hw;refine aA.2 ?_;refine ⟨λv w'=>v=.bool true/\w'=w,?_,?_⟩
 ·simp only [aF,Int.reduceEq,decide_false,decide_true,aA,aE];exact ⟨trivial,trivial⟩
 rintro _ w' ⟨rfl,hw⟩ _;have hw:=hw.symm;subst hw;refine aE.2 ?_;exact ⟨rfl,rfl⟩
theorem PQ {w:Ω}:aC prog 94 #[i64 18] w λr w'=>r=i64 (2)/\w'=w:=by
 apply qB;unfold lW;refine ⟨λv w'=>v=.bool false/\w'=w,?_,?_⟩
 ·simp only [aF,Int.reduceEq,decide_false,aA];exact ⟨trivial,trivial⟩
 rintro _ w' ⟨rfl,hw⟩ _;have hw:=hw.symm;subst hw;refine aA.2 ?_;refine ⟨λv w'=>v=.bool true/\w'=w,?_,?_⟩
 ·simp only [aF,Int.reduceEq,decide_false,decide_true,aA,aE];exact ⟨trivial,trivial⟩
 rintro _ w' ⟨rfl,hw⟩ _;have hw:=hw.symm;subst hw;refine aE.2 ?_;exact ⟨rfl,rfl⟩
theorem PP {w:Ω}:aC prog 94 #[i64 27] w λr w'=>r=i64 (1)/\w'=w:=by
 apply qB;unfold lW;refine ⟨λv w'=>v=.bool true/\w'=w,?_,?_⟩
 ·simp only [aF,Int.reduceEq,decide_false,decide_true,aE];exact ⟨trivial,trivial⟩
 rintro _ w' ⟨rfl,hw⟩ _;have hw:=hw.symm;subst hw;refine aE.2 ?_;exact ⟨rfl,rfl⟩
theorem PO {w:Ω}:aC prog 94 #[i64 28] w λr w'=>r=i64 (1)/\w'=w:=by
 apply qB;unfold lW;refine ⟨λv w'=>v=.bool true/\w'=w,?_,?_⟩
 ·simp only [aF,Int.reduceEq,decide_false,decide_true,aA];exact ⟨trivial,trivial⟩
 rintro _ w' ⟨rfl,hw⟩ _;have hw:=hw.symm;subst hw;refine aE.2 ?_;exact ⟨rfl,rfl⟩
theorem PN {w:Ω}:aC prog 94 #[i64 29] w λr w'=>r=i64 (2)/\w'=w:=by
 apply qB;unfold lW;refine ⟨λv w'=>v=.bool false/\w'=w,?_,?_⟩
 ·simp only [aF,Int.reduceEq,decide_false,aA];exact ⟨trivial,trivial⟩
 rintro _ w' ⟨rfl,hw⟩ _;have hw:=hw.symm;subst hw;refine aA.2 ?_;refine ⟨λv w'=>v=.bool true/\w'=w,?_,?_⟩
 ·simp only [aF,Int.reduceEq,decide_false,decide_true,aA];exact ⟨trivial,trivial⟩
 rintro _ w' ⟨rfl,hw⟩ _;have hw:=hw.symm;subst hw;refine aE.2 ?_;exact ⟨rfl,rfl⟩
theorem PL {w:Ω}:aC prog 94 #[i64 30] w λr w'=>r=i64 (3)/\w'=w:=by
 apply qB;unfold lW;refine ⟨λv w'=>v=.bool false/\w'=w,?_,?_⟩
 ·simp only [aF,Int.reduceEq,decide_false,aA];exact ⟨trivial,trivial⟩
 rintro _ w' ⟨rfl,hw⟩ _;have hw:=hw.symm;subst hw;refine aA.2 ?_;refine ⟨λv w'=>v=.bool false/\w'=w,?_,?_⟩
 ·simp only [aF,Int.reduceEq,decide_false,aA];exact ⟨trivial,trivial⟩
 rintro _ w' ⟨rfl,hw⟩ _;have hw:=hw.symm;subst hw;refine aA.2 ?_;refine ⟨λv w'=>v=.bool true/\w'=w,?_,?_⟩
 ·simp only [aF,Int.reduceEq,decide_false,decide_true,aE];exact ⟨trivial,trivial⟩
 rintro _ w' ⟨rfl,hw⟩ _;have hw:=hw.symm;subst hw;refine aE.2 ?_;exact ⟨rfl,rfl⟩
theorem PK {w:Ω}:aC prog 94 #[i64 31] w λr w'=>r=i64 (5)/\w'=w:=by
 apply qB;unfold lW;refine ⟨λv w'=>v=.bool false/\w'=w,?_,?_⟩
 ·simp only [aF,Int.reduceEq,decide_false,aA];exact ⟨trivial,trivial⟩
 rintro _ w' ⟨rfl,hw⟩ _;have hw:=hw.symm;subst hw;refine aA.2 ?_;refine ⟨λv w'=>v=.bool false/\w'=w,?_,?_⟩
 ·simp only [aF,Int.reduceEq,decide_false,aA];exact ⟨trivial,trivial⟩
 rintro _ w' ⟨rfl,hw⟩ _;have hw:=hw.symm;subst hw;refine aA.2 ?_;refine ⟨λv w'=>v=.bool false/\w'=w,?_,?_⟩
 ·simp only [aF,Int.reduceEq,decide_false,aA];exact ⟨trivial,trivial⟩
 rintro _ w' ⟨rfl,hw⟩ _;have hw:=hw.symm;subst hw;refine aA.2 ?_;simp only [aF,Int.reduceEq,decide_false,decide_true,aA,aE];exact ⟨trivial,trivial⟩
theorem PJ {w:Ω}:aC prog 94 #[i64 32] w λr w'=>r=i64 (5)/\w'=w:=by
 apply qB;unfold lW;refine ⟨λv w'=>v=.bool false/\w'=w,?_,?_⟩
 ·simp only [aF,Int.reduceEq,decide_false,aA];exact ⟨trivial,trivial⟩
 rintro _ w' ⟨rfl,hw⟩ _;have hw:=hw.symm;subst hw;refine aA.2 ?_;refine ⟨λv w'=>v=.bool false/\w'=w,?_,?_⟩
 ·simp only [aF,Int.reduceEq,decide_false,aA];exact ⟨trivial,trivial⟩
 rintro _ w' ⟨rfl,hw⟩ _;have hw:=hw.symm;subst hw;refine aA.2 ?_;refine ⟨λv w'=>v=.bool false/\w'=w,?_,?_⟩
 ·simp only [aF,Int.reduceEq,decide_false,aA];exact ⟨trivial,trivial⟩
 rintro _ w' ⟨rfl,hw⟩ _;have hw:=hw.symm;subst hw;refine aA.2 ?_;simp only [aF,Int.reduceEq,decide_false,decide_true,aA,aE];exact ⟨trivial,trivial⟩
theorem PI {w:Ω}:aC prog 94 #[i64 36] w λr w'=>r=i64 (3)/\w'=w:=by
 apply qB;unfold lW;refine ⟨λv w'=>v=.bool false/\w'=w,?_,?_⟩
 ·simp only [aF,Int.reduceEq,decide_false,aA];exact ⟨trivial,trivial⟩
 rintro _ w' ⟨rfl,hw⟩ _;have hw:=hw.symm;subst hw;refine aA.2 ?_;refine ⟨λv w'=>v=.bool false/\w'=w,?_,?_⟩
 ·simp only [aF,Int.reduceEq,decide_false,aA];exact ⟨trivial,trivial⟩
 rintro _ w' ⟨rfl,hw⟩ _;have hw:=hw.symm;subst hw;refine aA.2 ?_;refine ⟨λv w'=>v=.bool true/\w'=w,?_,?_⟩
 ·simp only [aF,Int.reduceEq,decide_false,decide_true,aA];exact ⟨trivial,trivial⟩
 rintro _ w' ⟨rfl,hw⟩ _;have hw:=hw.symm;subst hw;refine aE.2 ?_;exact ⟨rfl,rfl⟩
theorem QG {w:Ω}:aC prog 67 #[i64 17] w λr w'=>r=i64 (2)/\w'=w:=by
 apply qC;unfold lX;refine ⟨λv w'=>v=.bool false/\w'=w,?_,?_⟩
 ·simp only [aF,Int.reduceEq,decide_false,aA];exact ⟨trivial,trivial⟩
 rintro _ w' ⟨rfl,hw⟩ _;have hw:=hw.symm;subst hw;refine aA.2 ?_;refine ⟨λv w'=>v=.bool true/\w'=w,?_,?_⟩
 ·simp only [aF,Int.reduceEq,decide_false,decide_true,aA,aE];exact ⟨trivial,trivial⟩
 rintro _ w' ⟨rfl,hw⟩ _;have hw:=hw.symm;subst hw;refine aE.2 ?_;exact ⟨rfl,rfl⟩
theorem QF {w:Ω}:aC prog 67 #[i64 18] w λr w'=>r=i64 (2)/\w'=w:=by
 apply qC;unfold lX;refine ⟨λv w'=>v=.bool false/\w'=w,?_,?_⟩
 ·simp only [aF,Int.reduceEq,decide_false,aA];exact ⟨trivial,trivial⟩
 rintro _ w' ⟨rfl,hw⟩ _;have hw:=hw.symm;subst hw;refine aA.2 ?_;refine ⟨λv w'=>v=.bool true/\w'=w,?_,?_⟩
 ·simp only [aF,Int.reduceEq,decide_false,decide_true,aA,aE];exact ⟨trivial,trivial⟩
 rintro _ w' ⟨rfl,hw⟩ _;have hw:=hw.symm;subst hw;refine aE.2 ?_;exact ⟨rfl,rfl⟩
theorem QE {w:Ω}:aC prog 67 #[i64 27] w λr w'=>r=i64 (1)/\w'=w:=by
 apply qC;unfold lX;refine ⟨λv w'=>v=.bool true/\w'=w,?_,?_⟩
 ·simp only [aF,Int.reduceEq,decide_false,decide_true,aE];exact ⟨trivial,trivial⟩
 rintro _ w' ⟨rfl,hw⟩ _;have hw:=hw.symm;subst hw;refine aE.2 ?_;exact ⟨rfl,rfl⟩
theorem QD {w:Ω}:aC prog 67 #[i64 28] w λr w'=>r=i64 (1)/\w'=w:=by
 apply qC;unfold lX;refine ⟨λv w'=>v=.bool true/\w'=w,?_,?_⟩
 ·simp only [aF,Int.reduceEq,decide_false,decide_true,aA];exact ⟨trivial,trivial⟩
 rintro _ w' ⟨rfl,hw⟩ _;have hw:=hw.symm;subst hw;refine aE.2 ?_;exact ⟨rfl,rfl⟩
theorem QC {w:Ω}:aC prog 67 #[i64 29] w λr w'=>r=i64 (2)/\w'=w:=by
 apply qC;unfold lX;refine ⟨λv w'=>v=.bool false/\w'=w,?_,?_⟩
 ·simp only [aF,Int.reduceEq,decide_false,aA];exact ⟨trivial,trivial⟩
 rintro _ w' ⟨rfl,hw⟩ _;have hw:=hw.symm;subst hw;refine aA.2 ?_;refine ⟨λv w'=>v=.bool true/\w'=w,?_,?_⟩
 ·simp only [aF,Int.reduceEq,decide_false,decide_true,aA];exact ⟨trivial,trivial⟩
 rintro _ w' ⟨rfl,hw⟩ _;have hw:=hw.symm;subst hw;refine aE.2 ?_;exact ⟨rfl,rfl⟩
theorem QA {w:Ω}:aC prog 67 #[i64 30] w λr w'=>r=i64 (3)/\w'=w:=by
 apply qC;unfold lX;refine ⟨λv w'=>v=.bool false/\w'=w,?_,?_⟩
 ·simp only [aF,Int.reduceEq,decide_false,aA];exact ⟨trivial,trivial⟩
 rintro _ w' ⟨rfl,hw⟩ _;have hw:=hw.symm;subst hw;refine aA.2 ?_;refine ⟨λv w'=>v=.bool false/\w'=w,?_,?_⟩
 ·simp only [aF,Int.reduceEq,decide_false,aA];exact ⟨trivial,trivial⟩
 rintro _ w' ⟨rfl,hw⟩ _;have hw:=hw.symm;subst hw;refine aA.2 ?_;refine ⟨λv w'=>v=.bool true/\w'=w,?_,?_⟩
 ·simp only [aF,Int.reduceEq,decide_false,decide_true,aE];exact ⟨trivial,trivial⟩
 rintro _ w' ⟨rfl,hw⟩ _;have hw:=hw.symm;subst hw;refine aE.2 ?_;exact ⟨rfl,rfl⟩
theorem PZ {w:Ω}:aC prog 67 #[i64 31] w λr w'=>r=i64 (5)/\w'=w:=by
 apply qC;unfold lX;refine ⟨λv w'=>v=.bool false/\w'=w,?_,?_⟩
 ·simp only [aF,Int.reduceEq,decide_false,aA];exact ⟨trivial,trivial⟩
 rintro _ w' ⟨rfl,hw⟩ _;have hw:=hw.symm;subst hw;refine aA.2 ?_;refine ⟨λv w'=>v=.bool false/\w'=w,?_,?_⟩
 ·simp only [aF,Int.reduceEq,decide_false,aA];exact ⟨trivial,trivial⟩
 rintro _ w' ⟨rfl,hw⟩ _;have hw:=hw.symm;subst hw;refine aA.2 ?_;refine ⟨λv w'=>v=.bool false/\w'=w,?_,?_⟩
 ·simp only [aF,Int.reduceEq,decide_false,aA];exact ⟨trivial,trivial⟩
 rintro _ w' ⟨rfl,hw⟩ _;have hw:=hw.symm;subst hw;refine aA.2 ?_;simp only [aF,Int.reduceEq,decide_false,decide_true,aA,aE];exact ⟨trivial,trivial⟩
theorem PY {w:Ω}:aC prog 67 #[i64 32] w λr w'=>r=i64 (5)/\w'=w:=by
 apply qC;unfold lX;refine ⟨λv w'=>v=.bool false/\w'=w,?_,?_⟩
 ·simp only [aF,Int.reduceEq,decide_false,aA];exact ⟨trivial,trivial⟩
 rintro _ w' ⟨rfl,hw⟩ _;have hw:=hw.symm;subst hw;refine aA.2 ?_;refine ⟨λv w'=>v=.bool false/\w'=w,?_,?_⟩
 ·simp only [aF,Int.reduceEq,decide_false,aA];exact ⟨trivial,trivial⟩
 rintro _ w' ⟨rfl,hw⟩ _;have hw:=hw.symm;subst hw;refine aA.2 ?_;refine ⟨λv w'=>v=.bool false/\w'=w,?_,?_⟩
 ·simp only [aF,Int.reduceEq,decide_false,aA];exact ⟨trivial,trivial⟩
 rintro _ w' ⟨rfl,hw⟩ _;have hw:=hw.symm;subst hw;refine aA.2 ?_;simp only [aF,Int.reduceEq,decide_false,decide_true,aA,aE];exact ⟨trivial,trivial⟩
theorem PX {w:Ω}:aC prog 67 #[i64 36] w λr w'=>r=i64 (3)/\w'=w:=by
 apply qC;unfold lX;refine ⟨λv w'=>v=.bool false/\w'=w,?_,?_⟩
 ·simp only [aF,Int.reduceEq,decide_false,aA];exact ⟨trivial,trivial⟩
 rintro _ w' ⟨rfl,hw⟩ _;have hw:=hw.symm;subst hw;refine aA.2 ?_;refine ⟨λv w'=>v=.bool false/\w'=w,?_,?_⟩
 ·simp only [aF,Int.reduceEq,decide_false,aA];exact ⟨trivial,trivial⟩
 rintro _ w' ⟨rfl,hw⟩ _;have hw:=hw.symm;subst hw;refine aA.2 ?_;refine ⟨λv w'=>v=.bool true/\w'=w,?_,?_⟩
 ·simp only [aF,Int.reduceEq,decide_false,decide_true,aA];exact ⟨trivial,trivial⟩
 rintro _ w' ⟨rfl,hw⟩ _;have hw:=hw.symm;subst hw;refine aE.2 ?_;exact ⟨rfl,rfl⟩
def iB (l:List Int):Prop:=∀ z∈l,-2147483648<=z/\z<=2147483647
def rL (s:PS) (a b:Int):DL:=if b=0 then (0,28419,s) else (IntKind.i32.wrap (IntKind.i64.wrap (a.tdiv b)),36864,s)
def rK (s:PS) (a b:Int):DL:=if b=0 then (0,28419,s) else (IntKind.i32.wrap (a.tmod b),36864,s)
theorem DU {P:Program} {w:Ω} {t:TypeId} {k:IntKind} {a b:Int} (h:b≠0):(binOp .rem t (.int k a) (.int k b)).run P w=.ok (.int k (a.tmod b)) w:=by simp [binOp,Op.intDiv,h]
theorem rP {z:Int} (h:-2147483648<=z/\z<=2147483647):IntKind.i64.wrap z=z:=aX (by omega)
theorem aNs {w:Ω} {a b:Int} (ha:-2147483648<=a/\a<=2147483647) (hb:-2147483648<=b/\b<=2147483647):aC prog 185 #[i32 a,i32 b] w λr w'=>r=.tuple #[i32 (if b=0 then 0 else IntKind.i32.wrap (IntKind.i64.wrap (a.tdiv b))),.bool (decide (b≠0))]/\w'=w:=by
 apply aHa;unfold JS;refine aF.2 (aK (λh=>⟨by rw [if_pos h,decide_eq_false (λhn=>hn h)],rfl⟩) λh=>?_);refine V.ok (bE underlying21 underlying2) ?_;refine V.ok (bE underlying21 underlying2) ?_;rw [rP ha,rP hb];refine V.ok (GW h) (V.ok (bE underlying2 underlying21) ⟨by rw [if_neg h,decide_eq_true h],rfl⟩)
theorem aLu {w:Ω} {a b:Int} (ha:-2147483648<=a/\a<=2147483647) (hb:-2147483648<=b/\b<=2147483647):aC prog 186 #[i32 a,i32 b] w λr w'=>r=.tuple #[i32 (if b=0 then 0 else IntKind.i32.wrap (a.tmod b)),.bool (decide (b≠0))]/\w'=w:=by
 apply aGz;unfold JR;refine aF.2 (aK (λh=>⟨by rw [if_pos h,decide_eq_false (λhn=>hn h)],rfl⟩) λh=>?_);refine V.ok (bE underlying21 underlying2) ?_;refine V.ok (bE underlying21 underlying2) ?_;rw [rP ha,rP hb];refine V.ok (DU h) (V.ok (bE underlying2 underlying21) ⟨by rw [if_neg h,decide_eq_true h],rfl⟩)
theorem zN {w:Ω} {v:O} {ok:Bool}:aC prog 184 #[v,.bool ok] w λr w'=>r=(if ok then .tuple #[v,i64 36864] else .tuple #[i32 0,i64 28419])/\w'=w:=by
 apply aHb;unfold JT;cases ok
 ·exact fN.2 (aE.2 ⟨rfl,rfl⟩)
 ·exact fN.2 (aA.2 ⟨rfl,rfl⟩)
def kZ (p:RP):O:=.pointer (some ⟨p.rb,0,none⟩)
def rR (p:RP):O:=.pointer (some ⟨p.tb,0,none⟩)
theorem aLi {p:RP} {w:Ω} {who op sa sb k:Int} {av:O} {m:Nat} {cs:List O} (h:bZ p w) (hxs:aB w av 1 m cs) (hsv:∀ {w:Ω},aC prog 94 #[i64 op] w λr w'=>r=i64 k/\w'=w) (hk:(m:Int)≠k) :
  aC prog 136 #[kZ p,rR p,i64 who,i64 op,i64 sa,i64 sb,av] w λr w'=>AY p w (0,27013,p.ps) r w':=by
 apply xS;unfold oE;refine V.ok (gZ underlying26) ?_;simp only [dJ];refine gG bX hxs ?_;refine hsv.mono λr w' ⟨hr,hw⟩=>?_;subst hr;have hw:=hw.symm;subst hw;refine aS.2 ?_;simp only [show decide ((m:Int)≠k)=true by simpa using hk,aJ,Bool.false_eq_true,reduceIte];refine aE.2 ⟨p,rfl,rfl,h,pO.of_ext (aG.refl _)⟩
theorem mX {op:Int} {nn f:Nat} (hnn:nn<=5) (hsv:∀ {w:Ω},aC prog 94 #[i64 op] w λr w'=>r=i64 (nn:Int)/\w'=w) (hf:(op=27/\f=187)\/(op=28/\f=188)\/(op=29/\f=189)\/(op=30/\f=190)\/(op=31/\f=191)\/(op=32/\f=192)\/(op=36/\f=193)) {p:RP} {w:Ω} {who sa sb:Int} {av:O} {xs:List Int} (hxs:aB w av 1 nn (xs.map i32)) (hl:xs.length=nn) (hsm:iB xs) {Rr:O->Ω->Prop}
  (hk:∀ w1 av',aG w w1->w1.ownsRow w.heap.size 3 1 av' nn (xs.map i64)->aC prog f #[rJ p who sa sb av'] w1 (λr w'=>∃ p q,r=.tuple #[p,q]/\Rr (.tuple #[p,q]) w')) :
  aC prog 136 #[kZ p,rR p,i64 who,i64 op,i64 sa,i64 sb,av] w Rr:=by
 refine xS ?_
 have key:∀ {R:O->Ω->Prop},(∀ w1 av',aG w w1->w1.ownsRow w.heap.size 3 1 av' nn (xs.map i64)->aC prog f #[rJ p who sa sb av'] w1 (λr w'=>∃ p q,r=.tuple #[p,q]/\R (.tuple #[p,q]) w'))->oE (kZ p) (rR p) (i64 who) (i64 op) (i64 sa) (i64 sb) av w R:=by
  intro R hk;unfold oE;refine V.ok (gZ underlying26) ?_;simp only [dJ];refine gG bX hxs ?_;refine hsv.mono λr w' ⟨hr,hw⟩=>?_;subst hr;have hw:=hw.symm;subst hw;refine aS.2 ?_;simp only [show decide (((nn:Nat):Int)≠(nn:Int))=false by simp,aJ,Bool.false_eq_true,reduceIte];refine aA.2 ?_;refine bld ON [(0,kZ p),(1,rR p),(2,i64 who),(3,i64 sa),(4,i64 sb)] rfl rfl ?_;refine xL MU rfl rfl λw1 hb1 x1=>?_;refine gG bX (hxs.ext x1) ?_
  refine ⟨λv w'=>∃ (i:Nat) (ov:O),v=i64 i/\i<=nn/\aG w w'/\bD w' w.heap.size [kZ p,rR p,i64 who,i64 sa,i64 sb,ov] 283/\w'.ownsRow w.heap.size 3 1 ov i ((xs.take i).map i64)/\ov.ownBlock≠some w.heap.size,
   λv _=>nn - (RowKit.intOf v).toNat,⟨0,_,rfl,Nat.zero_le _,x1,hb1,by rw [List.take_zero];exact ⟨rfl,.inl ⟨rfl,rfl⟩⟩,λh=>by cases h⟩,?_⟩
  rintro _ w2 ⟨i,ov,rfl,hi,x2,hb2,ho2,hne2⟩ _;refine aV.2 (aK (λhlt=>?_) λhge=>?_)
  ·obtain ⟨z,hz⟩:=bH (l:=xs) (j:=i) (by omega);have hzb:-2147483648<=z/\z<=2147483647:=hsm z (List.mem_of_getElem? hz);refine nO bX cE (hxs.ext x2) (by omega) (by omega) (by simp [hz]:(xs.map i32)[((i:Nat):Int).toNat]?=some (i32 z)) ?_;refine bA hb2.boxed bR aZ rfl ?_;refine V.ok (bE underlying21 underlying3) ?_;rw [aX (by omega)];refine mF bU [i64 z] rfl rfl (by simp) rfl λv3 w3 ho3 x3=>?_;have X3:=x2.trans x3;have hb3:=hb2.ext x3;refine apL bU (x3.own ho2) ho3 (by simp) (by simp [cB]) (by omega) (by unfold maxLen;omega) X3.size λg cap w4 ho4 hg4 hlies=>?_;have f4:Fr (λj=>ov.ownBlock=some j) w3 w4:=Fr.of_grown hg4 λk hk=>hk;have hb4:=f4.blk hb3 hne2;have hbl:=hb3.lt
   have hgne:g≠w.heap.size:=by
    rcases hlies with h|h
    ·intro he;exact hne2 (he▸h)
    ·omega
   refine BG bR jU hb4 rfl (by simp) rfl (bW.2 ?_);rw [aX (by omega),dF];have f5:Fr (λj=>j=w.heap.size) w4 (w4.setCell ⟨w.heap.size,5,none⟩ (.slice (some ⟨g,0,none⟩) (i+1) cap)):=Fr.of_set rfl;refine ⟨⟨i+1,_,rfl,by omega,f5.ext (f4.ext X3 λj hj=>(ho2.lt j hj).1) (λj hj=>by omega),hb4.set 5 _,?_,λhe=>hgne (by cases he;rfl)⟩,by simp only [aT];omega⟩;have:=f5.own ho4 λj hj he=>hgne (by cases hj;exact he);rw [List.take_add_one,hz];simpa using this
  ·have hin:i=nn:=by omega
   subst hin;rw [List.take_of_length_le (by omega)] at ho2;have fin:=hk w2 ov x2 ho2;rcases hf with ⟨rfl,rfl⟩|⟨rfl,rfl⟩|⟨rfl,rfl⟩|⟨rfl,rfl⟩|⟨rfl,rfl⟩|⟨rfl,rfl⟩|⟨rfl,rfl⟩ <;>
   ·simp only [aF,Int.reduceEq,decide_false,decide_true,aA,aE];refine qO hb2.boxed iE rfl ?_;refine fin.mono λr w3 ⟨p,q,hr,hR⟩=>?_;subst hr;exact cL.2 (cK.2 hR)
 exact key hk
theorem MR {p:RP} {w:Ω} {who sa sb a b:Int} {av:O} (h:bZ p w) (hxs:aB w av 1 2 [i32 a,i32 b]) (hsm:iB [a,b]) :
  aC prog 136 #[kZ p,rR p,i64 who,i64 17,i64 sa,i64 sb,av] w λr w'=>AY p w (rL p.ps a b) r w':=by
 refine xS ?_;have ha:-2147483648<=a/\a<=2147483647:=hsm a (by simp);have hb:-2147483648<=b/\b<=2147483647:=hsm b (by simp)
 have key:∀ {R:O->Ω->Prop},(∀ w',aG w w'->R (.tuple #[i32 (rL p.ps a b).1,i64 (rL p.ps a b).2.1]) w')->oE (kZ p) (rR p) (i64 who) (i64 17) (i64 sa) (i64 sb) av w R:=by
  intro R hk;obtain ⟨xs,hxe⟩:∃ xs:List Int,xs=[a,b]:=⟨_,rfl⟩;have hxs:aB w av 1 2 (xs.map i32):=by rw [hxe];exact hxs
  have hl:xs.length=2:=by rw [hxe];rfl
  have hsm:iB xs:=by rw [hxe];exact hsm
  unfold oE;refine V.ok (gZ underlying26) ?_;simp only [dJ];refine gG bX hxs ?_;refine PR.mono λr w' ⟨hr,hw⟩=>?_;subst hr;have hw:=hw.symm;subst hw;refine aS.2 ?_;simp only [show decide (((2:Nat):Int)≠2)=false by decide,aJ,Bool.false_eq_true,reduceIte];refine aA.2 ?_;refine bld ON [(0,kZ p),(1,rR p),(2,i64 who),(3,i64 sa),(4,i64 sb)] rfl rfl ?_;refine xL MU rfl rfl λw1 hb1 x1=>?_;refine gG bX (hxs.ext x1) ?_
  refine ⟨λv w'=>∃ (i:Nat) (ov:O),v=i64 i/\i<=2/\aG w w'/\bD w' w.heap.size [kZ p,rR p,i64 who,i64 sa,i64 sb,ov] 283/\w'.ownsRow w.heap.size 3 1 ov i ((xs.take i).map i64)/\ov.ownBlock≠some w.heap.size,
   λv _=>2 - (RowKit.intOf v).toNat,⟨0,_,rfl,Nat.zero_le _,x1,hb1,by rw [List.take_zero];exact ⟨rfl,.inl ⟨rfl,rfl⟩⟩,λh=>by cases h⟩,?_⟩
  rintro _ w2 ⟨i,ov,rfl,hi,x2,hb2,ho2,hne2⟩ _;refine aV.2 (aK (λhlt=>?_) λhge=>?_)
  ·obtain ⟨z,hz⟩:=bH (l:=xs) (j:=i) (by omega);have hzb:-2147483648<=z/\z<=2147483647:=hsm z (List.mem_of_getElem? hz);refine nO bX cE (hxs.ext x2) (by omega) (by omega) (by simp [hz]:(xs.map i32)[((i:Nat):Int).toNat]?=some (i32 z)) ?_;refine bA hb2.boxed bR aZ rfl ?_;refine V.ok (bE underlying21 underlying3) ?_;rw [aX (by omega)];refine mF bU [i64 z] rfl rfl (by simp) rfl λv3 w3 ho3 x3=>?_;have X3:=x2.trans x3;have hb3:=hb2.ext x3;refine apL bU (x3.own ho2) ho3 (by simp) (by simp [cB]) (by omega) (by unfold maxLen;omega) X3.size λg cap w4 ho4 hg4 hlies=>?_;have f4:Fr (λj=>ov.ownBlock=some j) w3 w4:=Fr.of_grown hg4 λk hk=>hk;have hb4:=f4.blk hb3 hne2;have hbl:=hb3.lt
   have hgne:g≠w.heap.size:=by
    rcases hlies with h|h
    ·intro he;exact hne2 (he▸h)
    ·omega
   refine BG bR jU hb4 rfl (by simp) rfl (bW.2 ?_);rw [aX (by omega),dF];have f5:Fr (λj=>j=w.heap.size) w4 (w4.setCell ⟨w.heap.size,5,none⟩ (.slice (some ⟨g,0,none⟩) (i+1) cap)):=Fr.of_set rfl;refine ⟨⟨i+1,_,rfl,by omega,f5.ext (f4.ext X3 λj hj=>(ho2.lt j hj).1) (λj hj=>by omega),hb4.set 5 _,?_,λhe=>hgne (by cases he;rfl)⟩,by simp only [aT];omega⟩;have:=f5.own ho4 λj hj he=>hgne (by cases hj;exact he);rw [List.take_add_one,hz];simpa using this
  ·have hin:i=2:=by omega
   subst hin;simp only [aF,Int.reduceEq,decide_false,decide_true,aA,aE];have D2:aG w2 w2.drew:=(aG.refl _).drew;have hx2:=hxs.ext x2;have g0:(xs.map i32)[(0:Int).toNat]?=some (i32 a):=by rw [hxe];rfl
   have g1:(xs.map i32)[(1:Int).toNat]?=some (i32 b):=by rw [hxe];rfl
   refine aH.mk' (λw'=>aG w2 w') D2 ?_;refine gF bX cE hx2 (λw' hw=>hw) (by omega) (by omega) g0 ?_;refine gF bX cE hx2 (λw' hw=>hw) (by omega) (by omega) g1 ?_;refine (aNs ha hb).mono λr w3 ⟨hr,hw⟩=>?_;subst hr;have hw:=hw.symm;subst hw;refine ⟨D2,?_⟩;refine aD.ok (λw' _=>iQ) ?_;refine aD.ok (λw' _=>iP) ?_;refine zN.mono λr w3 ⟨hr,hw⟩=>?_;have hw:=hw.symm;subst hw;have hkk:=hk w2.drew (x2.trans D2);unfold rL at hkk;by_cases hb0:b=0
   ·rw [decide_eq_false (λhn=>hn hb0)] at hr;rw [if_pos hb0] at hkk;subst hr;refine ⟨D2,?_⟩;refine aD.ok (λw' _=>iQ) ?_;refine aD.ok (λw' _=>iP) ?_;exact hkk
   ·rw [decide_eq_true hb0,if_neg hb0] at hr;rw [if_neg hb0] at hkk;subst hr;refine ⟨D2,?_⟩;refine aD.ok (λw' _=>iQ) ?_;refine aD.ok (λw' _=>iP) ?_;exact hkk
 refine key λw' hx=>⟨p,rfl,?_,h.ext hx,pO.of_ext hx⟩;unfold rL;split<;>rfl
theorem MP {p:RP} {w:Ω} {who sa sb a b:Int} {av:O} (h:bZ p w) (hxs:aB w av 1 2 [i32 a,i32 b]) (hsm:iB [a,b]) :
  aC prog 136 #[kZ p,rR p,i64 who,i64 18,i64 sa,i64 sb,av] w λr w'=>AY p w (rK p.ps a b) r w':=by
 refine xS ?_;have ha:-2147483648<=a/\a<=2147483647:=hsm a (by simp);have hb:-2147483648<=b/\b<=2147483647:=hsm b (by simp)
 have key:∀ {R:O->Ω->Prop},(∀ w',aG w w'->R (.tuple #[i32 (rK p.ps a b).1,i64 (rK p.ps a b).2.1]) w')->oE (kZ p) (rR p) (i64 who) (i64 18) (i64 sa) (i64 sb) av w R:=by
  intro R hk;obtain ⟨xs,hxe⟩:∃ xs:List Int,xs=[a,b]:=⟨_,rfl⟩;have hxs:aB w av 1 2 (xs.map i32):=by rw [hxe];exact hxs
  have hl:xs.length=2:=by rw [hxe];rfl
  have hsm:iB xs:=by rw [hxe];exact hsm
  unfold oE;refine V.ok (gZ underlying26) ?_;simp only [dJ];refine gG bX hxs ?_;refine PQ.mono λr w' ⟨hr,hw⟩=>?_;subst hr;have hw:=hw.symm;subst hw;refine aS.2 ?_;simp only [show decide (((2:Nat):Int)≠2)=false by decide,aJ,Bool.false_eq_true,reduceIte];refine aA.2 ?_;refine bld ON [(0,kZ p),(1,rR p),(2,i64 who),(3,i64 sa),(4,i64 sb)] rfl rfl ?_;refine xL MU rfl rfl λw1 hb1 x1=>?_;refine gG bX (hxs.ext x1) ?_
  refine ⟨λv w'=>∃ (i:Nat) (ov:O),v=i64 i/\i<=2/\aG w w'/\bD w' w.heap.size [kZ p,rR p,i64 who,i64 sa,i64 sb,ov] 283/\w'.ownsRow w.heap.size 3 1 ov i ((xs.take i).map i64)/\ov.ownBlock≠some w.heap.size,
   λv _=>2 - (RowKit.intOf v).toNat,⟨0,_,rfl,Nat.zero_le _,x1,hb1,by rw [List.take_zero];exact ⟨rfl,.inl ⟨rfl,rfl⟩⟩,λh=>by cases h⟩,?_⟩
  rintro _ w2 ⟨i,ov,rfl,hi,x2,hb2,ho2,hne2⟩ _;refine aV.2 (aK (λhlt=>?_) λhge=>?_)
  ·obtain ⟨z,hz⟩:=bH (l:=xs) (j:=i) (by omega);have hzb:-2147483648<=z/\z<=2147483647:=hsm z (List.mem_of_getElem? hz);refine nO bX cE (hxs.ext x2) (by omega) (by omega) (by simp [hz]:(xs.map i32)[((i:Nat):Int).toNat]?=some (i32 z)) ?_;refine bA hb2.boxed bR aZ rfl ?_;refine V.ok (bE underlying21 underlying3) ?_;rw [aX (by omega)];refine mF bU [i64 z] rfl rfl (by simp) rfl λv3 w3 ho3 x3=>?_;have X3:=x2.trans x3;have hb3:=hb2.ext x3;refine apL bU (x3.own ho2) ho3 (by simp) (by simp [cB]) (by omega) (by unfold maxLen;omega) X3.size λg cap w4 ho4 hg4 hlies=>?_;have f4:Fr (λj=>ov.ownBlock=some j) w3 w4:=Fr.of_grown hg4 λk hk=>hk;have hb4:=f4.blk hb3 hne2;have hbl:=hb3.lt
   have hgne:g≠w.heap.size:=by
    rcases hlies with h|h
    ·intro he;exact hne2 (he▸h)
    ·omega
   refine BG bR jU hb4 rfl (by simp) rfl (bW.2 ?_);rw [aX (by omega),dF];have f5:Fr (λj=>j=w.heap.size) w4 (w4.setCell ⟨w.heap.size,5,none⟩ (.slice (some ⟨g,0,none⟩) (i+1) cap)):=Fr.of_set rfl;refine ⟨⟨i+1,_,rfl,by omega,f5.ext (f4.ext X3 λj hj=>(ho2.lt j hj).1) (λj hj=>by omega),hb4.set 5 _,?_,λhe=>hgne (by cases he;rfl)⟩,by simp only [aT];omega⟩;have:=f5.own ho4 λj hj he=>hgne (by cases hj;exact he);rw [List.take_add_one,hz];simpa using this
  ·have hin:i=2:=by omega
   subst hin;simp only [aF,Int.reduceEq,decide_false,decide_true,aA,aE];have D2:aG w2 w2.drew:=(aG.refl _).drew;have hx2:=hxs.ext x2;have g0:(xs.map i32)[(0:Int).toNat]?=some (i32 a):=by rw [hxe];rfl
   have g1:(xs.map i32)[(1:Int).toNat]?=some (i32 b):=by rw [hxe];rfl
   refine aH.mk' (λw'=>aG w2 w') D2 ?_;refine gF bX cE hx2 (λw' hw=>hw) (by omega) (by omega) g0 ?_;refine gF bX cE hx2 (λw' hw=>hw) (by omega) (by omega) g1 ?_;refine (aLu ha hb).mono λr w3 ⟨hr,hw⟩=>?_;subst hr;have hw:=hw.symm;subst hw;refine ⟨D2,?_⟩;refine aD.ok (λw' _=>iQ) ?_;refine aD.ok (λw' _=>iP) ?_;refine zN.mono λr w3 ⟨hr,hw⟩=>?_;have hw:=hw.symm;subst hw;have hkk:=hk w2.drew (x2.trans D2);unfold rK at hkk;by_cases hb0:b=0
   ·rw [decide_eq_false (λhn=>hn hb0)] at hr;rw [if_pos hb0] at hkk;subst hr;refine ⟨D2,?_⟩;refine aD.ok (λw' _=>iQ) ?_;refine aD.ok (λw' _=>iP) ?_;exact hkk
   ·rw [decide_eq_true hb0,if_neg hb0] at hr;rw [if_neg hb0] at hkk;subst hr;refine ⟨D2,?_⟩;refine aD.ok (λw' _=>iQ) ?_;refine aD.ok (λw' _=>iP) ?_;exact hkk
 refine key λw' hx=>⟨p,rfl,?_,h.ext hx,pO.of_ext hx⟩;unfold rK;split<;>rfl
section
variable {p:RP} {w w':Ω}
theorem yL {ar:List dB} {k:Nat} {x:dB} (hk:ar[k]?=some x) (v':O) (d':List Int):jW (ar.set k { x with dv:=v',data:=d' })=(jW ar).set (k*5+4) v':=by
 have hkl:k < ar.length:=(List.getElem?_eq_some_iff.1 hk).1;apply List.ext_getElem?;intro j;by_cases hj:j < ar.length*5
 ·obtain ⟨a,ha⟩:=bH (l:=ar) (j:=j / 5) (by omega);have e:j=j / 5*5+j % 5:=by omega
  have hm:j % 5 < 5:=Nat.mod_lt _ (by decide);by_cases hjk:k=j / 5
  ·have h1:(ar.set k { x with dv:=v',data:=d' })[j / 5]?=some { x with dv:=v',data:=d' }:=by rw [<- hjk,List.getElem?_set_self hkl]
   have hL:(jW (ar.set k { x with dv:=v',data:=d' }))[j]?=({ x with dv:=v',data:=d' }:dB).cells[j % 5]?:=by
    have:=kA h1 hm
    rwa [<- e] at this
   rw [hL];by_cases h4:k*5+4=j
   ·have:j % 5=4:=by omega
    rw [<- h4,List.getElem?_set_self (by rw [rV];omega),h4,this];rfl
   ·rw [List.getElem?_set_ne h4]
    have hR:(jW ar)[j]?=x.cells[j % 5]?:=by
     have:=kA (ar:=ar) (k:=j / 5) (a:=x) (j:=j % 5) (by rw [<- hjk];exact hk) hm
     rwa [<- e] at this
    rw [hR];have h5:j % 5=0\/j % 5=1\/j % 5=2\/j % 5=3:=by omega
    rcases h5 with h5|h5|h5|h5<;>rw [h5]<;>rfl
  ·have h1:(ar.set k { x with dv:=v',data:=d' })[j / 5]?=some a:=by rw [List.getElem?_set_ne hjk];exact ha
   have hL:=kA h1 hm;have hR:=kA ha hm;rw [<- e] at hL hR;rw [hL,List.getElem?_set_ne (by omega),hR]
 ·rw [List.getElem?_eq_none (by rw [rV];simp;omega),List.getElem?_eq_none (by simp [rV];omega)]
theorem wW {P:Program} {t e:TypeId} {z:O} {by_:Nat} (ht:P.underlying t=some (.slice e)) (hi:cV P e z 1 by_) {ty:TypeId} {a b:Option Addr} {n c d:Nat} (hn:n<=c) :
  (Builtin.append_ #[t,t] ty #[.slice a n c,.slice b 0 d]).run P w=.ok (.slice a n c) w:=by
 obtain ⟨i,hi',_,_,_⟩:=info_parts hi;have h0:(Builtin.firstCells i.size 0 (.slice b 0 d)).run P w=.ok #[] w:=by cases b<;>simp [Builtin.firstCells,loadCells,loadCellsFrom]
 cases a<;>simp [Builtin.append_,run_underlying ht,sizeOf,typeInfo,hi',Builtin.lenOf,hn,h0,storeCells]
theorem WH {v:O} {l:List Int} (h:iZ w v l) (hl:l.length<=4294967296):aC prog 58 #[v] w λr w'=>w'.ownsRow w.heap.size 5 1 r l.length (l.map u8)/\aG w w':=by
 rcases h with ⟨rfl,rfl⟩|⟨ad,c,rfl,hb⟩
 ·exact sQ (l:=[]) (aB.nil _ _) (by simp)
 ·by_cases h0:0 < l.length
  ·exact sQ (hb h0) hl
  ·have hl0:l=[]:=List.eq_nil_of_length_eq_zero (by omega);subst hl0;apply aCf;unfold FJ;refine V.ok (lF underlying23) (aA.2 ?_);refine mF mQ [] rfl rfl (by simp) rfl λv1 w1 ho x1=>?_;obtain ⟨a,c1,rfl⟩:=(aB.of_own ho).shape;refine V.ok (wW underlying23 pW (Nat.zero_le _)) ⟨ho,x1⟩
theorem iZ.shape {v:O} {l:List Int} (h:iZ w v l):∃ a c,v=.slice a l.length c:=by
 rcases h with ⟨rfl,rfl⟩|⟨ad,c,rfl,_⟩
 ·exact ⟨none,0,rfl⟩
 ·exact ⟨_,_,rfl⟩
def kY (s:PS) (a b:List Int):Bool × PS:=if a.length > 64\/b.length > 64 then (false,s) else (true,{ s with ar:=GP (GP s.ar 1 a) 2 b,tp:=[],ts:=[] })
theorem vU {ar:List dB} {r:Int} {k:Nat} {x:dB} (hk:ar[k]?=some x) (hr:r=(k:Int)+1) (v':O) (d:List Int):(ar.set k { x with dv:=v',data:=d }).map pa=GP (ar.map pa) r d:=by
 unfold GP;rw [List.getElem?_map,show r.toNat - 1=k by omega,hk,map_set];rfl
theorem XV (h:bZ p w):aC prog 24 #[kZ p] w λr w'=>(∃ v1 v2,r=.tuple #[v1,v2]/\cU w' v1 p.tp/\cU w' v2 p.ts)/\aG w w':=by
 apply aQx;unfold TS;have m1:=h.lp;have m2:=h.ls;have D:aG w w.drew:=(aG.refl _).drew;refine aH.mk' (λw'=>aG w w') D ⟨.inl ⟨_,rfl⟩,?_⟩;refine dT (λw' hw=>(h.room.ext hw).boxed) fZ fS rfl ⟨.inl ⟨_,rfl⟩,?_⟩;refine dT (λw' hw=>(h.room.ext hw).boxed) fY fS rfl ?_;refine (sQ (aB.of_own (D.own h.qp)) (by omega)).mono λv1 w1 ⟨ho1,x1⟩=>?_;have X1:=D.trans x1;refine ⟨X1,?_⟩;refine (sQ (aB.of_own (X1.own h.qs)) (by omega)).mono λv2 w2 ⟨ho2,x2⟩=>?_;exact ⟨X1.trans x2,⟨_,_,rfl,aB.of_own (x2.own ho1),aB.of_own ho2⟩,X1.trans x2⟩
theorem uK (h:bZ p w):aC prog 39 #[kZ p] w λr w'=>r=.pointer (some ⟨p.hb,0,none⟩)/\w'=w:=by
 apply aCj;unfold FT;exact ⟨.inl ⟨_,rfl⟩,bA h.room.boxed bY fA rfl ⟨rfl,rfl⟩⟩
theorem NW (h:bZ p w):aC prog 55 #[.pointer (some ⟨p.hb,0,none⟩)] w λr w'=>r=i64 ((p.ar.length:Nat):Int)/\w'=w:=by
 apply aQc;unfold TD;exact ⟨.inl ⟨_,rfl⟩,bA h.h.heap.boxed dH dA rfl (oD.2 ⟨rfl,rfl⟩)⟩
theorem XW (h:bZ p w):aC prog 29 #[rR p] w λr w'=>r=i64 ((p.tr.length:Nat):Int)/\w'=w:=by
 apply aQu;unfold TQ;refine V.ok (gZ underlying48) (aA.2 ⟨.inl ⟨_,rfl⟩,?_⟩);exact bA h.tbox.boxed dZ qF rfl (gG uR (aB.of_own h.trow) ⟨rfl,rfl⟩)
theorem aFg (h:bZ p w) (hl:p.tr.length<=100000):aC prog 22 #[rR p] w λr w'=>aB w' r 4 p.tr.length (oY p.tr)/\aG w w':=by
 apply aQy;unfold TT;refine V.ok (gZ underlying48) (aA.2 ⟨.inl ⟨_,rfl⟩,?_⟩);refine bA h.tbox.boxed dZ qF rfl ?_;have hs:=aB.of_own h.trow;refine aC.mono (R:=λr w'=>aB w' r 4 p.tr.length (oY p.tr)/\aG w w') ?_ λ_ _ h=>h;apply aQd;unfold TE;obtain ⟨a,c,hv⟩:=hs.shape;rw [hv] at hs ⊢;refine V.ok (lF underlying50) ?_;cases a with
 | none=>
  refine aE.2 ⟨?_,aG.refl _⟩;rcases hs.2 with ⟨he,h0⟩|⟨_,_,_,he,_⟩
  ·rw [he] at hs;exact hs
  ·simp at he
 | some a=>
  refine aA.2 ?_;refine V.ok (v:=.slice (some ⟨w.heap.size,0,none⟩) 0 0) (w':=w.alloc (.cells (([]:List O)).toArray 54)) (by kernel_rfl) ?_;have hb1:bD (w.alloc (.cells (([]:List O)).toArray 54)) w.heap.size [] 54:=by unfold bD;rw [heap_alloc_new]
  have x1:aG w (w.alloc (.cells (([]:List O)).toArray 54)):=(aG.refl _).alloc _;generalize w.alloc (.cells (([]:List O)).toArray 54)=w1 at hb1 x1 ⊢;have ho1:w1.ownsRow w.heap.size 54 4 (.slice (some ⟨w.heap.size,0,none⟩) 0 0) 0 []:=eC hb1 rfl (Nat.le_refl _) (by unfold maxLen;omega);have s1:=x1.size;refine apA underlying50 CR rfl (by omega) ho1 (hs.ext x1) (aDe _) (by omega) (by unfold maxLen;omega) (by omega) λv2 w2 ho2 hg=>?_;rw [Nat.zero_add,List.nil_append] at ho2;exact ⟨aB.of_own ho2,x1.grown hg λk hk=>(ho1.lt k hk).1⟩
end
structure QP where
 (xb yb ub g cap:Nat) (size:Int) (ar:List dB) (iv fv pub sec uv:O) (tp ts:List Int) (tr:List tL)
def QP.ps (q:QP):PS:=⟨q.size,q.ar.map pa,q.tp,q.ts,q.tr⟩
def nG (q:QP) (i:Nat):Prop:=i=q.xb\/i=q.yb\/i=q.ub\/q.uv.ownBlock=some i
def AR (q:QP) (i:Nat):Prop:=i=q.g\/(∃ a∈q.ar,a.dv.ownBlock=some i)\/q.pub.ownBlock=some i\/q.sec.ownBlock=some i
structure dL (q:QP) (w:Ω):Prop where
 xbox:kV w q.xb 0 [.pointer (some ⟨q.yb,0,none⟩),q.iv,q.fv,q.pub,q.sec]
 ybox:bD w q.yb [i64 q.size,.slice (some ⟨q.g,0,none⟩) q.ar.length q.cap] 156
 ubox:bD w q.ub [q.uv] 66
 list:w.ownsRow 0 127 5 (.slice (some ⟨q.g,0,none⟩) q.ar.length q.cap) q.ar.length (jW q.ar)
 data:∀ a∈q.ar,w.ownsRow 0 5 1 a.dv a.data.length (a.data.map u8)
 len:∀ a∈q.ar,a.data.length<=64
 qp:w.ownsRow 0 5 1 q.pub q.tp.length (q.tp.map u8)
 qs:w.ownsRow 0 5 1 q.sec q.ts.length (q.ts.map u8)
 lp:q.tp.length<=128
 ls:q.ts.length<=128
 trow:w.ownsRow 0 54 4 q.uv q.tr.length (oY q.tr)
 xy:q.xb≠q.yb
 xu:q.xb≠q.ub
 yu:q.yb≠q.ub
 une:∀ i,q.uv.ownBlock=some i->i≠q.xb/\i≠q.yb/\i≠q.ub
 dj:∀ i,nG q i->¬ AR q i
 two:2<=q.ar.length
 cnt:q.ar.length<=1000
 sz:0<=q.size/\q.size<=1000
variable {q:QP} {w w':Ω}
theorem dL.hi (h:dL q w):∀ i,nG q i\/AR q i->i < w.heap.size:=by
 intro i hm;rcases hm with (rfl|rfl|rfl|he)|rfl|⟨a,ha,he⟩|he|he
 ·exact h.xbox.lt
 ·exact h.ybox.lt
 ·exact h.ubox.lt
 ·exact (h.trow.lt _ he).2
 ·exact (h.list.lt _ rfl).2
 ·exact ((h.data a ha).lt _ he).2
 ·exact (h.qp.lt _ he).2
 ·exact (h.qs.lt _ he).2
theorem dL.fr {S:Nat->Prop} (h:dL q w) (f:Fr S w w') (hn:∀ i,S i->¬ nG q i/\¬ AR q i):dL q w':=
 ⟨f.seg h.xbox λhs=>(hn _ hs).1 (.inl rfl),f.blk h.ybox λhs=>(hn _ hs).1 (.inr (.inl rfl)),f.blk h.ubox λhs=>(hn _ hs).1 (.inr (.inr (.inl rfl))),
  f.own h.list λi hi hs=>(hn i hs).2 (.inl (by simpa [Value.ownBlock] using hi.symm)),λa ha=>f.own (h.data a ha) λi hi hs=>(hn i hs).2 (.inr (.inl ⟨a,ha,hi⟩)),h.len,
  f.own h.qp λi hi hs=>(hn i hs).2 (.inr (.inr (.inl hi))),f.own h.qs λi hi hs=>(hn i hs).2 (.inr (.inr (.inr hi))),h.lp,h.ls,f.own h.trow λi hi hs=>(hn i hs).1 (.inr (.inr (.inr hi))),h.xy,h.xu,h.yu,h.une,h.dj,h.two,h.cnt,h.sz⟩
theorem dL.ext (h:dL q w) (hx:aG w w'):dL q w':=h.fr (Fr.of_ext (S:=λ_=>False) hx) λ_ hf=>hf.elim
structure oU (q q':QP) (w w':Ω):Prop where
 xb:q'.xb=q.xb
 yb:q'.yb=q.yb
 ub:q'.ub=q.ub
 size:q'.size=q.size
 iv:q'.iv=q.iv
 fv:q'.fv=q.fv
 mu:∀ i,nG q' i\/AR q' i->nG q i\/AR q i\/w.heap.size<=i
 mm:∀ i,nG q' i->nG q i\/w.heap.size<=i
 fr:Fr (nG q) w w'
theorem oU.of_ext (hx:aG w w'):oU q q w w':=⟨rfl,rfl,rfl,rfl,rfl,rfl,λ_ hi=>hi.elim .inl λh=>.inr (.inl h),λ_ hi=>.inl hi,Fr.of_ext hx⟩
theorem oU.trans {q1 q2:QP} {w1 w2:Ω} (h:oU q q1 w w1) (k:oU q1 q2 w1 w2):oU q q2 w w2:=
 ⟨k.xb.trans h.xb,k.yb.trans h.yb,k.ub.trans h.ub,k.size.trans h.size,k.iv.trans h.iv,k.fv.trans h.fv,λi hi=>by
  rcases k.mu i hi with h1|h1|h1
  ·exact h.mu i (.inl h1)
  ·exact h.mu i (.inr h1)
  ·exact .inr (.inr (Nat.le_trans h.fr.size h1)),λi hi=>by
  rcases k.mm i hi with h1|h1
  ·exact h.mm i h1
  ·exact .inr (Nat.le_trans h.fr.size h1),h.fr.trans k.fr λi hi hs=>by
  rcases h.mm i hs with h1|h1
  ·exact h1
  ·omega⟩
def OZ (q:QP):O:=.pointer (some ⟨q.yb,0,none⟩)
def oZ (q:QP):O:=.pointer (some ⟨q.xb,0,none⟩)
def ubT (q:QP):O:=.pointer (some ⟨q.ub,0,none⟩)
theorem dL.get (h:dL q w) {k:Nat} {a:dB} (hk:q.ar[k]?=some a) {j:Nat} (hj:j < 5):w.cell? ⟨q.g,k*5+j,none⟩=a.cells[j]?:=by
 obtain ⟨u,hu⟩:=bH (l:=a.cells) (j:=j) (by simp [dB.cells];omega);have:=h.list.cells (g:=q.g) rfl (k*5+j) u (by rw [kA hk hj];exact hu);rw [gO] at this;rw [hu];simpa using this
theorem dL.one (h:dL q w) {k:Nat} {a:dB} (hk:q.ar[k]?=some a):cB a.dv=true:=bM (h.data a (List.mem_of_getElem? hk))
theorem EQ (h:dL q w) {k:Nat} {x:dB} (hk:q.ar[k]?=some x) {r:Int} (hr:r=(k:Int)+1) :
  aC prog 105 #[OZ q,i64 r] w λv w'=>v=.tuple #[.agg x.cells.toArray,.bool true]/\aG w w':=by
 have hkl:k < q.ar.length:=(List.getElem?_eq_some_iff.1 hk).1;have hc:=h.cnt;apply UI;unfold vQ;refine MA gK λw1 hz x1=>?_;refine aV.2 ?_;simp only [show ¬ r < 1 by omega,dJ,aJ,reduceIte,Bool.false_eq_true,decide_false];refine ⟨.inl ⟨_,rfl⟩,?_⟩;refine bA (h.ybox.ext x1).boxed bV dA rfl (oD.2 ?_);simp only [show ¬ r > ((q.ar.length:Nat):Int) by omega,dR,aA,decide_false];refine ⟨.inl ⟨_,rfl⟩,?_⟩;refine bA (h.ybox.ext x1).boxed bV dA rfl (jV.2 ?_);rw [show IntKind.i64.wrap (r - 1)=(k:Int) from by rw [aX (by omega)];omega];refine V.ok (nV (by omega) (by omega)) ?_;have e:0+((k:Nat):Int).toNat*5=k*5:=by omega
 rw [e];refine V.ok (vC (cs:=x.cells) rfl λj hj=>(h.ext x1).get hk hj) ?_;refine GF gK hz (l:=x.cells) rfl rfl rfl (gS (h.one hk)) λw6 h6 hch=>?_;exact ⟨_,vB underlying127 rfl gK h6 rfl,⟨_,rfl⟩,rfl,hch.ext w x1 (Nat.le_refl _)⟩
theorem aFa (h:dL q w) {r:Int} (hr:¬ (1<=r/\r<=q.ar.length)) :
  aC prog 105 #[OZ q,i64 r] w λv w'=>v=.tuple #[.agg aBp.cells.toArray,.bool false]/\aG w w':=by
 apply UI
 have key:∀ {R:O->Ω->Prop},(∀ w',aG w w'->R (.tuple #[.agg aBp.cells.toArray,.bool false]) w')->vQ (OZ q) (i64 r) w R:=by
  intro R hR;unfold vQ;refine MA gK λw1 hz x1=>?_
  have fin:V prog (Instr.build 127 #[]) w1 λt17 w11=>U prog (Instr.storeAt 127 (.pointer (some ⟨w.heap.size,0,none⟩)) t17) w11 λ_ w12=>
    ∃ r1,(loadVar 127 (match (Value.pointer (some ⟨w.heap.size,0,none⟩)) with|.pointer (some p)=>p|_=>⟨0,0,none⟩)).run prog w12=.ok r1 w12/\(∃ p,(Value.pointer (some ⟨w.heap.size,0,none⟩))=Value.pointer (some p))/\R (.tuple #[r1,(Value.bool false)]) w12:=by
   refine bld pY [] rfl rfl ?_;refine GF gK hz (l:=aBp.cells) rfl rfl rfl rfl λw6 h6 hch=>?_;exact ⟨_,vB underlying127 rfl gK h6 rfl,⟨_,rfl⟩,hR _ (hch.ext w x1 (Nat.le_refl _))⟩
  refine aV.2 ?_;by_cases h1:r < 1
  ·simp only [h1,kB,aJ,aE,reduceIte,decide_true];exact fin
  simp only [h1,dJ,aJ,reduceIte,Bool.false_eq_true,decide_false];refine ⟨.inl ⟨_,rfl⟩,?_⟩;refine bA (h.ybox.ext x1).boxed bV dA rfl (oD.2 ?_);simp only [show r > ((q.ar.length:Nat):Int) by omega,dR,aE,decide_true];exact fin
 exact key λw' hx=>⟨rfl,hx⟩
theorem aEb {a:dB} {who:Int}:aC prog 141 #[.agg a.cells.toArray,i64 who] w λr w'=>r=.bool (qW a who)/\aG w w':=by
 apply aIh;unfold KZ;refine bx λb w1 hb x1=>?_;refine bA hb dI aL rfl (aF.2 ?_);by_cases h1:a.owner=-1
 ·simp only [h1,kB,aJ,reduceIte,decide_true];exact ⟨by simp [qW,h1],x1⟩
 simp only [h1,dJ,aJ,reduceIte,Bool.false_eq_true,decide_false];refine bA hb dI aL rfl (aF.2 ?_);by_cases h2:a.owner=who
 ·simp only [h2,kB,aJ,reduceIte,decide_true];exact ⟨by simp [qW,h2],x1⟩
 simp only [h2,dJ,aJ,reduceIte,Bool.false_eq_true,decide_false];refine bA hb dY oH rfl ?_;exact ⟨by simp [qW,h1,h2],x1⟩
theorem CZ (h:dL q w) {r who:Int} :
  aC prog 104 #[OZ q,i64 r,i64 who] w λv w'=>v=i64 (GG q.ar r who)/\aG w w':=by
 apply aJg;unfold LX;by_cases h1:1<=r/\r<=q.ar.length
 ·obtain ⟨k,a,hk,hr⟩:=MX h1;refine (EQ h hk hr).mono λv w1 ⟨hv,x1⟩=>?_;subst hv;refine cL.2 (cK.2 ?_);refine xL pD rfl (gS (h.one hk)) λw2 hc x2=>?_;refine fN.2 (aA.2 ?_);refine qO hc.boxed EG rfl ?_;refine aEb.mono λv w3 ⟨hv,x3⟩=>?_;subst hv;have X:=(x1.trans x2).trans x3;rw [OJ hk hr];refine fN.2 (aO.mk (λhn=>⟨?_,X⟩) λhn=>⟨?_,X⟩)
  ·have:qW a who=false:=by simpa using hn
   rw [if_neg (by rw [this];simp)]
  ·have:qW a who=true:=by simpa using hn
   rw [if_pos this]
 ·refine (aFa h h1).mono λv w1 ⟨hv,x1⟩=>?_;subst hv;refine cL.2 (cK.2 ?_);refine xL pD rfl rfl λw2 hc x2=>?_;refine fN.2 (aE.2 ⟨?_,x1.trans x2⟩);unfold GG;rw [if_neg h1]
theorem mA (h:dL q w) {r a n who:Int} :
  aC prog 106 #[OZ q,i64 r,i64 a,i64 n,i64 who] w λv w'=>v=i64 (iS (q.ar.map pa) r a n who)/\aG w w':=by
 rw [<- kH];apply aJf;unfold LW;refine (CZ h).mono λv w1 ⟨hv,x1⟩=>?_;subst hv;refine aS.2 (aK (λhne=>?_) λhfine=>?_)
 ·refine ⟨?_,x1⟩;unfold DS;rw [if_neg hne]
 have hfine':GG q.ar r who=36864:=by omega
 obtain ⟨k,x,hk,hr,hm⟩:=sR hfine';have hxl:=h.len x (List.mem_of_getElem? hk)
 have er:DS q.ar r a n who=if a < 0\/n < 0\/a > x.data.length\/n > x.data.length - a then 28418 else 36864:=by
  unfold DS;rw [if_pos hfine',show r.toNat - 1=k by omega,hk]
 rw [er];refine (EQ (h.ext x1) hk hr).mono λv w2 ⟨hv,x2⟩=>?_;subst hv;refine cL.2 (cK.2 ?_);refine xL pD rfl (gS (h.one hk)) λw3 hc x3=>?_;have X:=(x1.trans x2).trans x3;have hs:=aB.of_own (X.own (h.data x (List.mem_of_getElem? hk)));refine aV.2 ?_;by_cases h1:a < 0
 ·simp only [h1,kB,aJ,aE,reduceIte,decide_true];exact ⟨by rw [if_pos (.inl trivial)],X⟩
 simp only [h1,aV,dJ,aJ,reduceIte,Bool.false_eq_true,decide_false];by_cases h2:n < 0
 ·simp only [h2,kB,aJ,aE,reduceIte,decide_true];exact ⟨by rw [if_pos (.inr (.inl trivial))],X⟩
 simp only [h2,dJ,reduceIte,Bool.false_eq_true,decide_false];refine bA hc.boxed bL fS rfl ?_;refine gG jQ hs (dR.2 ?_);by_cases h3:a > ((x.data.length:Nat):Int)
 ·simp only [h3,kB,aJ,aE,reduceIte,decide_true];exact ⟨by rw [if_pos (.inr (.inr (.inl trivial)))],X⟩
 simp only [h3,dJ,aJ,reduceIte,Bool.false_eq_true,decide_false];refine bA hc.boxed bL fS rfl (gG jQ hs (jV.2 ?_));rw [aX (by omega)];by_cases h4:n > ((x.data.length:Nat):Int) - a
 ·simp only [h4,dR,aE,decide_true];exact ⟨by simp,X⟩
 simp only [h4,dR,aA,decide_false];exact ⟨by simp,X⟩
theorem XR (h:dL q w):aC prog 140 #[OZ q] w λv w'=>(v=i64 ((lM (q.ar.map pa):Nat):Int)/\lM (q.ar.map pa)<=72*(q.ar.length - 2))/\w'=w:=by
 apply aIi;unfold LA;have hc:=h.cnt;have h2:=h.two;refine ⟨λv v' w'=>∃ z i:Nat,v=i64 (z:Int)/\v'=i64 ((i+2:Nat):Int)/\i<=q.ar.length - 2/\z<=72*i/\z=GH (q.ar.map pa) i/\w'=w,λ_ v _=>q.ar.length - (RowKit.intOf v).toNat,⟨0,0,rfl,rfl,Nat.zero_le _,Nat.le_refl _,rfl,rfl⟩,?_⟩;rintro _ _ w1 ⟨z,i,rfl,rfl,hi,hz2,hz,hw⟩ _;have hw:=hw.symm;subst hw;refine ⟨.inl ⟨_,rfl⟩,?_⟩;refine bA h.ybox.boxed bV dA rfl (oD.2 ?_);refine aV.2 (aK (λhlt=>?_) λhge=>?_)
 ·obtain ⟨a,ha⟩:=bH (l:=q.ar) (j:=i+2) (by omega);have hal:=h.len a (List.mem_of_getElem? ha);have ho:=h.data a (List.mem_of_getElem? ha);refine bW.2 ?_;rw [aX (by omega)];refine ⟨.inl ⟨_,rfl⟩,?_⟩;refine bA h.ybox.boxed bV dA rfl ?_;refine V.ok (nV (by omega) (by omega)) ?_;have e:0+((i+2:Nat):Int).toNat*5=(i+2)*5:=by omega
  rw [e];refine V.ok jY ?_;refine V.ok (kO (h.get ha (by omega:4 < 5))) ?_;refine gG jQ (aB.of_own ho) ?_;refine bW.2 ?_;rw [aX (by omega)];refine bW.2 ?_;rw [aX (by omega)];exact ⟨⟨z+(8+a.data.length),i+1,by congr 1;omega,by congr 1,by omega,by omega,by rw [BB ha,hz],rfl⟩,by simp only [RowKit.intOf];omega⟩
 ·have e:i=q.ar.length - 2:=by omega
  have e2:lM (q.ar.map pa)=z:=by unfold lM;rw [List.length_map,<- e,hz]
  rw [e2];exact ⟨⟨rfl,by omega⟩,rfl⟩
theorem GI (h:dL q w) (hl:q.tr.length<=100000) {e:tL}:aC prog 61 #[ubT q,.agg e.cells.toArray] w λ_ w'=>
  ∃ uv',dL { q with uv:=uv',tr:=q.tr++[e] } w'/\oU q { q with uv:=uv',tr:=q.tr++[e] } w w':=by
 apply aPy;unfold SY;refine tH λw0 hb0 x0=>?_;have h0:=h.ext x0;refine V.ok (BT underlying62) ?_;simp only [EL];refine ⟨.inl ⟨_,rfl⟩,?_⟩;refine bA h0.ubox.boxed lI qF rfl (gG uR (aB.of_own h0.trow) (aV.2 ?_));simp only [show ((q.tr.length:Nat):Int) < 200000 by omega,decide_true,aJ,reduceIte];refine aE.2 ?_;have D:aG w0 w0.drew:=(aG.refl _).drew;have s0:=x0.size;have hub:∀ i,q.uv.ownBlock=some i->i < w.heap.size:=λi hi=>h.hi i (.inl (.inr (.inr (.inr hi))));have hnb:¬ q.uv.ownBlock=some w.heap.size:=λhe=>by have:=hub _ he;omega
 have hnu:¬ q.uv.ownBlock=some q.ub:=λhe=>(h.une _ he).2.2 rfl;refine aH.mk' (λw'=>Fr (λi=>q.uv.ownBlock=some i) w0 w') (Fr.of_ext D) ⟨.inl ⟨_,rfl⟩,?_⟩;refine dT (λw' hw=>(hw.blk h0.ubox hnu).boxed) lI qF rfl ?_;refine yA (λw' hw=>(hw.blk hb0 hnb).boxed) RC rfl ?_;refine V.ok (v:=.slice (some ⟨w0.drew.heap.size,0,none⟩) 1 1) (w':=w0.drew.alloc (.cells e.cells.toArray 54)) (by kernel_rfl) ?_;have hb1:bD (w0.drew.alloc (.cells e.cells.toArray 54)) w0.drew.heap.size e.cells 54:=by unfold bD;rw [heap_alloc_new]
 have x1:aG w0.drew (w0.drew.alloc (.cells e.cells.toArray 54)):=(aG.refl _).alloc _;have d0:=D.size;have hdz:w0.drew.heap.size=w0.heap.size:=rfl;generalize w0.drew.alloc (.cells e.cells.toArray 54)=w1 at hb1 x1 ⊢;have X1:=D.trans x1;have s1:=X1.size;refine ⟨Fr.of_ext X1,?_⟩;have ho1:w1.ownsRow 0 54 4 (.slice (some ⟨w0.drew.heap.size,0,none⟩) 1 1) 1 e.cells:=eC hb1 rfl (Nat.zero_le _) (by unfold maxLen;omega);have h1:=h0.ext X1;refine apZ underlying50 CR rfl (by omega) h1.trow ho1 (by omega) (by rfl) (by omega) (by unfold maxLen;omega) (by omega) λg' cap' w2 ho2 hg2 hlies=>?_;have f2:Fr (λi=>q.uv.ownBlock=some i) w1 w2:=Fr.of_grown hg2 λk hk=>hk;have f02:Fr (λi=>q.uv.ownBlock=some i) w0 w2:=(Fr.of_ext (S:=λi=>q.uv.ownBlock=some i) X1).trans f2 λ_ _ h=>h;refine ⟨f02,.inl ⟨_,rfl⟩,?_⟩;refine aD.ok (λw' _=>UZ) ?_;have hb2:=f02.blk h0.ubox hnu;have hul:=h.ubox.lt;refine wX CS hb2 rfl (by simp) rfl ?_;have f3:Fr (λi=>i=q.ub) w2 (w2.setCell ⟨q.ub,0,none⟩ (.slice (some ⟨g',0,none⟩) (q.tr.length+1) cap')):=Fr.of_set rfl;have hb3:=hb2.set 0 (.slice (some ⟨g',0,none⟩) (q.tr.length+1) cap')
 have hlie:q.uv.ownBlock=some g'\/w.heap.size<=g':=by
  rcases hlies with hl|hl
  ·exact .inl hl
  ·exact .inr (by omega)
 have hgu:¬ g'=q.ub:=λhe=>by
  rcases hlie with hl|hl
  ·exact hnu (he▸hl)
  ·omega
 have ho3:=f3.own ho2 λk hk=>by
  have:g'=k:=by simpa [Value.ownBlock] using hk
  omega
 generalize w2.setCell ⟨q.ub,0,none⟩ (.slice (some ⟨g',0,none⟩) (q.tr.length+1) cap')=w3 at f3 hb3 ho3 ⊢;have F:Fr (λi=>i=q.ub\/q.uv.ownBlock=some i) w w3:=((Fr.of_ext (S:=λi=>q.uv.ownBlock=some i) x0).trans f02 λ_ _ h=>h).or f3 |>.mono λi hi=>hi.symm;have hM:∀ i,(i=q.ub\/q.uv.ownBlock=some i)->nG q i:=λi hi=>hi.elim (λh=>.inr (.inr (.inl h))) λh=>.inr (.inr (.inr h));have hC:∀ i,(i=q.ub\/q.uv.ownBlock=some i)->¬ AR q i:=λi hi=>h.dj i (hM i hi);have hx:¬ (q.xb=q.ub\/q.uv.ownBlock=some q.xb):=λhi=>hi.elim h.xu λe=>(h.une _ e).1 rfl;have hy:¬ (q.yb=q.ub\/q.uv.ownBlock=some q.yb):=λhi=>hi.elim h.yu λe=>(h.une _ e).2.1 rfl;have hxl:=h.xbox.lt;have hyl:=h.ybox.lt
 have mm:∀ i,nG { q with uv:=.slice (some ⟨g',0,none⟩) (q.tr.length+1) cap',tr:=q.tr++[e] } i->nG q i\/w.heap.size<=i:=λi hi=>by
  rcases hi with hi|hi|hi|hi
  ·exact .inl (.inl hi)
  ·exact .inl (.inr (.inl hi))
  ·exact .inl (.inr (.inr (.inl hi)))
  ·have:g'=i:=by simpa [Value.ownBlock] using hi
   subst this;exact hlie.imp (λh=>.inr (.inr (.inr h))) id
 refine ⟨.slice (some ⟨g',0,none⟩) (q.tr.length+1) cap',⟨F.seg h.xbox hx,F.blk h.ybox hy,hb3,F.own h.list λi hi hs=>hC i hs (.inl (by simpa [Value.ownBlock] using hi.symm)),λa ha=>F.own (h.data a ha) λi hi hs=>hC i hs (.inr (.inl ⟨a,ha,hi⟩)),h.len,F.own h.qp λi hi hs=>hC i hs (.inr (.inr (.inl hi))),F.own h.qs λi hi hs=>hC i hs (.inr (.inr (.inr hi))),h.lp,h.ls,?_,h.xy,h.xu,h.yu,λi hi=>?_,λi hi hc=>?_,h.two,h.cnt,h.sz⟩,⟨rfl,rfl,rfl,rfl,rfl,rfl,λi hi=>?_,mm,F.mono hM⟩⟩
 ·show w3.ownsRow 0 54 4 (.slice (some ⟨g',0,none⟩) (q.tr.length+1) cap') (q.tr++[e]).length (oY (q.tr++[e]));rw [PG,List.length_append];have:oY [e]=e.cells:=by simp [oY]
  rw [this];exact ho3
 ·have hgi:g'=i:=by simpa [Value.ownBlock] using hi
  subst hgi;rcases hlie with hl|hl
  ·exact h.une _ hl
  ·exact ⟨by show g'≠q.xb;omega,by show g'≠q.yb;omega,by show g'≠q.ub;omega⟩
 ·rcases mm i hi with hm|hm
  ·exact h.dj i hm hc
  ·have:=h.hi i (.inr hc);omega
 ·rcases hi with hi|hi
  ·exact (mm i hi).imp id .inr
  ·exact .inr (.inl hi)
section
variable {w w':Ω} {K:O->Ω->Prop}
theorem aBl (hk:∀ w',w'.ownsRow w.heap.size 127 5 (.slice (some ⟨w.heap.size,0,none⟩) 0 0) 0 []->aG w w'->w.heap.size < w'.heap.size->K (.slice (some ⟨w.heap.size,0,none⟩) 0 0) w'):V prog (Instr.buildSlice 154 0 #[]) w K:=by
 refine V.ok (v:=.slice (some ⟨w.heap.size,0,none⟩) 0 0) (w':=w.alloc (.cells (([]:List O)).toArray 127)) (by kernel_rfl) ?_;have hb1:bD (w.alloc (.cells (([]:List O)).toArray 127)) w.heap.size [] 127:=by unfold bD;rw [heap_alloc_new]
 exact hk _ (eC hb1 rfl (Nat.le_refl _) (by unfold maxLen;omega)) ((aG.refl _).alloc _) hb1.lt
theorem cpK {B g cap n:Nat} {v:O} {cs:List O} (ho:w.ownsRow B 127 5 v 0 []) (hs:w.ownsRow 0 127 5 (.slice (some ⟨g,0,none⟩) n cap) n cs) (hn:0 < n) (hn2:n<=1000) (h1:cs.all cB=true) (hB:B<=w.heap.size)
  (hk:∀ g' cap' w',w'.ownsRow B 127 5 (.slice (some ⟨g',0,none⟩) n cap') n cs->w.grownBy w' v.ownBlock->(v.ownBlock=some g'\/g'=w.heap.size)->g' < w'.heap.size->K (.slice (some ⟨g',0,none⟩) n cap') w') :
  V prog (Builtin.append_ #[154,154] 154 #[v,.slice (some ⟨g,0,none⟩) n cap]) w K:=by
 refine apZ underlying154 gK rfl (by omega) ho hs hn h1 (by omega) (by unfold maxLen;omega) hB λg' cap' w2 ho2 hg2 hlies=>?_;rw [Nat.zero_add,List.nil_append] at ho2;rw [Nat.zero_add];exact hk g' cap' w2 ho2 hg2 hlies (ho2.lt _ rfl).2
theorem GS {ar:List dB} (h:∀ a∈ar,cB a.dv=true):(jW ar).all cB=true:=by
 rw [List.all_eq_true];intro v hv;obtain ⟨a,ha,he⟩:=List.mem_flatMap.1 hv;exact List.all_eq_true.1 (gS (h a ha)) v he
end
section
variable {q:QP} {w w':Ω}
theorem dL.rowOne (h:dL q w):(jW q.ar).all cB=true:=GS λa ha=>bM (h.data a ha)
theorem dL.setL (h:dL q w) {g' cap':Nat} {ar':List dB} (hl:w.ownsRow 0 127 5 (.slice (some ⟨g',0,none⟩) ar'.length cap') ar'.length (jW ar')) (hd:∀ a∈ar',w.ownsRow 0 5 1 a.dv a.data.length (a.data.map u8)) (hlen:∀ a∈ar',a.data.length<=64) (h2:2<=ar'.length) (hc:ar'.length<=1000) (hg:¬ nG q g') (hn:∀ a∈ar',∀ i,a.dv.ownBlock=some i->¬ nG q i) :
  dL { q with g:=g',cap:=cap',ar:=ar' } (w.setCell ⟨q.yb,1,none⟩ (.slice (some ⟨g',0,none⟩) ar'.length cap'))/\Fr (λi=>i=q.yb) w (w.setCell ⟨q.yb,1,none⟩ (.slice (some ⟨g',0,none⟩) ar'.length cap')):=by
 have f:Fr (λi=>i=q.yb) w (w.setCell ⟨q.yb,1,none⟩ (.slice (some ⟨g',0,none⟩) ar'.length cap')):=Fr.of_set rfl;have hM:nG q q.yb:=.inr (.inl rfl)
 refine ⟨⟨f.seg h.xbox h.xy,h.ybox.set 1 _,f.blk h.ubox λe=>h.yu e.symm,f.own hl λi hi e=>hg (by have h1:g'=i:=(by simpa [Value.ownBlock] using hi);rw [h1,e];exact hM),λa ha=>f.own (hd a ha) λi hi e=>hn a ha i hi (e▸hM),hlen,
  f.own h.qp λi hi e=>h.dj i (e▸hM) (.inr (.inr (.inl hi))),f.own h.qs λi hi e=>h.dj i (e▸hM) (.inr (.inr (.inr hi))),h.lp,h.ls,f.own h.trow λi hi e=>(h.une i hi).2.1 e,h.xy,h.xu,h.yu,h.une,λi hi hr=>?_,h2,hc,h.sz⟩,f⟩
 rcases hr with hr|⟨a,ha,he⟩|hr|hr
 ·have hr:i=g':=hr;exact hg (hr▸hi)
 ·exact hn a ha i he hi
 ·exact h.dj i hi (.inr (.inr (.inl hr)))
 ·exact h.dj i hi (.inr (.inr (.inr hr)))
theorem dL.stpL (_:dL q w) {w1:Ω} {g' cap':Nat} {ar':List dB} (hf:Fr (nG q) w w1) (hg:g'=q.g\/w.heap.size<=g') (hn:∀ a∈ar',∀ i,a.dv.ownBlock=some i->(∃ b∈q.ar,b.dv.ownBlock=some i)\/w.heap.size<=i):oU q { q with g:=g',cap:=cap',ar:=ar' } w w1:=by
 refine ⟨rfl,rfl,rfl,rfl,rfl,rfl,λi hi=>?_,λi hi=>.inl hi,hf⟩;rcases hi with hi|hi|⟨a,ha,he⟩|hi
 ·exact .inl hi
 ·have hi:i=g':=hi;rcases hg with hg|hg
  ·exact .inr (.inl (.inl (hi.trans hg)))
  ·exact .inr (.inr (hi▸hg))
 ·rcases hn a ha i he with ⟨b,hb,e⟩|hs
  ·exact .inr (.inl (.inr (.inl ⟨b,hb,e⟩)))
  ·exact .inr (.inr hs)
 ·exact .inr (.inl (.inr (.inr hi)))
theorem PE:∀ (l:List PA) (i:Nat),i<=l.length - 2->8*i<=GH l i
 | l,0,_=>Nat.zero_le _
 | l,i+1,hi=>by
  have ih:=PE l i (by omega);obtain ⟨a,ha⟩:=bH (l:=l) (j:=i+2) (by omega);have hd:(l.drop 2)[i]?=some a:=by rw [List.getElem?_drop,show 2+i=i+2 by omega];exact ha
  unfold GH at ih ⊢;rw [List.take_add_one,hd];simp [List.sum_append] at ih ⊢;omega
theorem XS (ar:List dB) (_:2<=ar.length):8*(ar.length - 2)<=lM (ar.map pa):=by
 have:=PE (ar.map pa) (ar.length - 2) (by simp);unfold lM;simpa using this
theorem OR {kd:Int} (hkd:kd=3\/kd=4) (h:dL q w) {who life:Int} {n:Nat} {share:Bool} (hl:0<=life/\life<=3) (hn:n<=64) :
  aC prog 103 #[OZ q,i64 who,i64 kd,i64 life,.bool share,i64 (n:Int)] w λv w'=>
   ((life > 2\/8+(n:Int) > q.size - lM (q.ar.map pa))/\v=.tuple #[i64 0,.bool false]/\aG w w')\/(¬ (life > 2\/8+(n:Int) > q.size - lM (q.ar.map pa))/\v=.tuple #[i64 ((q.ar.length+1:Nat):Int),.bool true]/\∃ g' cap' dv,dL { q with g:=g',cap:=cap',ar:=q.ar++[⟨who,kd,life,share,dv,List.replicate n 0⟩] } w'/\oU q { q with g:=g',cap:=cap',ar:=q.ar++[⟨who,kd,life,share,dv,List.replicate n 0⟩] } w w'/\Fr (λi=>i=q.yb) w w'):=by
 apply aJh;unfold LY;have hcnt:=h.cnt;have htwo:=h.two;have hszq:=h.sz;have D0:aG w w.drew:=(aG.refl _).drew;refine aH.mk' (λw'=>aG w w') D0 ?_;refine kdY hkd ?_;simp only [kC,aJ,reduceIte,Bool.false_eq_true];refine aD.ok (λw' _=>pE) ?_;simp only [show ¬ life < 0 by omega,kC,aJ,reduceIte,Bool.false_eq_true,decide_false];refine aD.ok (λw' _=>vD) ?_;by_cases hlife:life > 2
 ·simp only [hlife,kB,zI,aJ,aE,reduceIte,decide_true];exact ⟨D0,.inl ⟨.inl (by first|exact hlife|trivial),by first|rfl|trivial,D0⟩⟩
 simp only [hlife,kC,aJ,reduceIte,Bool.false_eq_true,decide_false];refine aD.ok (λw' _=>pE) ?_;simp only [show ¬ ((n:Nat):Int) < 0 by omega,kC,aJ,reduceIte,Bool.false_eq_true,decide_false];refine aD.ok (λw' _=>vD) ?_;simp only [show ¬ ((n:Nat):Int) > 64 by omega,dJ,kC,aJ,reduceIte,Bool.false_eq_true,decide_false];refine aD.ok (λw' _=>nW) ?_;rw [aX (by omega)];refine ⟨.inl ⟨_,rfl⟩,?_⟩;refine dT (λw' hw=>(h.ybox.ext hw).boxed) fV aL rfl ?_;refine (XR (h.ext D0)).mono λv w' ⟨⟨hv,hz2⟩,hw⟩=>?_;subst hv;have hw:=hw.symm;subst hw;refine ⟨D0,?_⟩;refine aD.ok (λw' _=>mB) ?_;rw [aX (by omega)];refine aD.ok (λw' _=>vD) ?_;refine aK (λhfull=>.inl ⟨by first|exact .inr hfull|exact hfull|omega,by first|rfl|trivial,D0⟩) λhroom=>?_;have X3:aG w w.drew.drew:=D0.drew;have hz3:=X3.size;refine ⟨λw'=>∃ g' cap' dv,dL { q with g:=g',cap:=cap',ar:=q.ar++[⟨who,kd,life,share,dv,List.replicate n 0⟩] } w'/\oU q { q with g:=g',cap:=cap',ar:=q.ar++[⟨who,kd,life,share,dv,List.replicate n 0⟩] } w w'/\Fr (λi=>i=q.yb) w w',?_,?_⟩
 ·refine aH.mk' (λw'=>aG w w') X3 ⟨.inl ⟨_,rfl⟩,?_⟩;refine dT (λw' hw=>(h.ybox.ext hw).boxed) bV dA rfl ?_
  have fin:∀ {w7:Ω} {b60 g54 c54 b62:Nat},bD w7 b60 (List.replicate n (u8 0)) 5->w7.ownsRow w.heap.size 127 5 (.slice (some ⟨g54,0,none⟩) q.ar.length c54) q.ar.length (jW q.ar)->bD w7 b62 (⟨who,kd,life,share,.slice (some ⟨b60,0,none⟩) n n,List.replicate n 0⟩:dB).cells 127->aG w w7->w.heap.size<=b60->b60≠g54->b60≠b62->g54≠b62 ->
    V prog (Builtin.append_ #[154,154] 154 #[.slice (some ⟨g54,0,none⟩) q.ar.length c54,.slice (some ⟨b62,0,none⟩) 1 1]) w7 λt63 w8=>aG w w8/\Go.Vc.aI (OZ q)/\aD prog (λw'=>aG w w') (Instr.fieldAt 156 (OZ q) 1) λt65=>U prog (Instr.storeAt 154 t65 t63) w8 λ_ w9=>
     ∃ g' cap' dv,dL { q with g:=g',cap:=cap',ar:=q.ar++[⟨who,kd,life,share,dv,List.replicate n 0⟩] } w9/\oU q { q with g:=g',cap:=cap',ar:=q.ar++[⟨who,kd,life,share,dv,List.replicate n 0⟩] } w w9/\Fr (λi=>i=q.yb) w w9:=by
   intro w7 b60 g54 c54 b62 hdv h54 h62 X7 hb60 hne1 hne2 hne3;have s7:=X7.size;have ho62:w7.ownsRow 0 127 5 (.slice (some ⟨b62,0,none⟩) 1 1) 1 _:=eC h62 rfl (Nat.zero_le _) (by unfold maxLen;omega);refine apZ underlying154 gK rfl (by omega) h54 ho62 (by omega) rfl (by omega) (by unfold maxLen;omega) s7 λg' cap' w8 ho8 hg8 hlies=>?_;have f8:Fr (λi=>i=g54) w7 w8:=Fr.of_grown hg8 λi hi=>by simpa [Value.ownBlock] using hi.symm
   have X8:aG w w8:=X7.grown hg8 λi hi=>(h54.lt i hi).1;have hlies:g'=g54\/g'=w7.heap.size:=hlies.imp (λh=>by simpa [Value.ownBlock] using h.symm) id;have hg54:w.heap.size<=g54:=(h54.lt _ rfl).1;have h8:=h.ext X8;have hdl:=hdv.lt;have hg'w:w.heap.size<=g':=by omega
   have hdv8:w8.ownsRow 0 5 1 (.slice (some ⟨b60,0,none⟩) n n) (List.replicate n (0:Int)).length ((List.replicate n (0:Int)).map u8):=by
    have:=eC (B:=0) (size:=1) (n:=n) (f8.blk hdv hne1) (by simp) (Nat.zero_le _) (by unfold maxLen;omega);simpa using this
   have hnM:∀ i,w.heap.size<=i->¬ nG q i:=λi hi hm=>by have:=h.hi i (.inl hm);omega
   refine ⟨X8,.inl ⟨_,rfl⟩,?_⟩;refine aD.ok (λw' _=>uD) ?_;refine wX sI h8.ybox rfl (by simp) rfl ?_
   have hlist:w8.ownsRow 0 127 5 (.slice (some ⟨g',0,none⟩) (q.ar++[(⟨who,kd,life,share,.slice (some ⟨b60,0,none⟩) n n,List.replicate n 0⟩:dB)]).length cap') (q.ar++[(⟨who,kd,life,share,.slice (some ⟨b60,0,none⟩) n n,List.replicate n 0⟩:dB)]).length (jW (q.ar++[⟨who,kd,life,share,.slice (some ⟨b60,0,none⟩) n n,List.replicate n 0⟩])):=by
    rw [BN,List.length_append];exact aR ho8 (Nat.zero_le _)
   have used:8*(q.ar.length - 2)<=lM (q.ar.map pa):=XS q.ar htwo
   obtain ⟨h9,f9⟩:=h8.setL hlist (λa ha=>by
    rcases List.mem_append.1 ha with ha|ha
    ·exact h8.data a ha
    ·obtain rfl:=List.mem_singleton.1 ha;exact hdv8) (λa ha=>by
    rcases List.mem_append.1 ha with ha|ha
    ·exact h.len a ha
    ·obtain rfl:=List.mem_singleton.1 ha;simpa using hn) (by simp;omega) (by simp;omega) (hnM _ hg'w) (λa ha i hi=>by
    rcases List.mem_append.1 ha with ha|ha
    ·exact λhm=>h.dj i hm (.inr (.inl ⟨a,ha,hi⟩))
    ·obtain rfl:=List.mem_singleton.1 ha;have:b60=i:=by simpa [Value.ownBlock] using hi
     exact hnM i (by omega))
   rw [List.length_append] at h9 f9;refine ⟨g',cap',_,h9,h.stpL ((Fr.of_ext (S:=nG q) X8).trans (f9.mono λi hi=>.inr (.inl hi)) λ_ _ h=>h) (.inr hg'w) λa ha i hi=>?_,(Fr.of_ext (S:=λi=>i=q.yb) X8).trans f9 λ_ _ h=>h⟩;rcases List.mem_append.1 ha with ha|ha
   ·exact .inl ⟨a,ha,hi⟩
   ·obtain rfl:=List.mem_singleton.1 ha;have:b60=i:=by simpa [Value.ownBlock] using hi
    exact .inr (by omega)
  generalize w.drew.drew=w3 at X3 hz3 ⊢;refine ⟨?_,?_⟩
  ·refine aBl λw4 h49 x4 l4=>?_;have X4:=X3.trans x4;have h49:=aR h49 X3.size;have s4:=x4.size;have t4:=X4.size;refine ⟨X4,?_⟩;refine ⟨?_,?_⟩
   ·refine cpK h49 (X4.own h.list) (by omega) (by omega) h.rowOne X4.size λg54 c54 w5 h54 hg54 hl54 l5=>?_;have X5:aG w w5:=X4.grown hg54 λi hi=>(h49.lt i hi).1;have f54:Fr (λi=>i=w3.heap.size) w4 w5:=Fr.of_grown hg54 λi hi=>by simpa [Value.ownBlock] using hi.symm
    have s5:=f54.size;have hl54:g54=w3.heap.size\/g54=w4.heap.size:=hl54.imp (λh=>by simpa [Value.ownBlock] using h.symm) id;have t5:=X5.size;refine ⟨X5,?_⟩;refine HI (n:=n) rfl underlying23 pW rfl (by omega) (by omega) λw6 hdv x6 l6=>?_;have X6:=X5.trans x6;have s6:=x6.size;have h54:=x6.own h54;have t6:=X6.size;refine ⟨X6,?_⟩;refine vS pY [(0,i64 who),(1,i64 kd),(2,i64 life),(3,.bool share),(4,.slice (some ⟨w5.heap.size,0,none⟩) n n)] rfl rfl ?_;refine V.ok (v:=.slice (some ⟨w6.heap.size,0,none⟩) 1 1) (w':=w6.alloc (.cells (⟨who,kd,life,share,.slice (some ⟨w5.heap.size,0,none⟩) n n,List.replicate n 0⟩:dB).cells.toArray 127)) (by kernel_rfl) ?_;have h62:bD (w6.alloc (.cells (⟨who,kd,life,share,.slice (some ⟨w5.heap.size,0,none⟩) n n,List.replicate n 0⟩:dB).cells.toArray 127)) w6.heap.size (⟨who,kd,life,share,.slice (some ⟨w5.heap.size,0,none⟩) n n,List.replicate n 0⟩:dB).cells 127:=by unfold bD;rw [heap_alloc_new]
    have x7:aG w6 (w6.alloc (.cells (⟨who,kd,life,share,.slice (some ⟨w5.heap.size,0,none⟩) n n,List.replicate n 0⟩:dB).cells.toArray 127)):=(aG.refl _).alloc _;have l7:=h62.lt;generalize w6.alloc (.cells (⟨who,kd,life,share,.slice (some ⟨w5.heap.size,0,none⟩) n n,List.replicate n 0⟩:dB).cells.toArray 127)=w7 at h62 x7 l7 ⊢;have X7:=X6.trans x7;have s7:=x7.size;have h54:=x7.own h54;have hdv:=hdv.ext x7;have t7:=X7.size;refine ⟨X7,?_⟩;exact fin hdv h54 h62 X7 (by omega) (by omega) (by omega) (by omega)
   ·refine HI (n:=n) rfl underlying23 pW rfl (by omega) (by omega) λw5 hdv x5 l5=>?_;have X5:=X4.trans x5;have s5:=x5.size;have h49:=x5.own h49;have t5:=X5.size;refine ⟨X5,?_⟩;refine vS pY [(0,i64 who),(1,i64 kd),(2,i64 life),(3,.bool share),(4,.slice (some ⟨w4.heap.size,0,none⟩) n n)] rfl rfl ?_;refine ⟨?_,?_⟩
    ·refine cpK h49 (X5.own h.list) (by omega) (by omega) h.rowOne X5.size λg54 c54 w6 h54 hg54 hl54 l6=>?_;have X6:aG w w6:=X5.grown hg54 λi hi=>(h49.lt i hi).1;have f54:Fr (λi=>i=w3.heap.size) w5 w6:=Fr.of_grown hg54 λi hi=>by simpa [Value.ownBlock] using hi.symm
     have s6:=f54.size;have hl54:g54=w3.heap.size\/g54=w5.heap.size:=hl54.imp (λh=>by simpa [Value.ownBlock] using h.symm) id;have hdv:=f54.blk hdv (by omega);have t6:=X6.size;refine ⟨X6,?_⟩;refine V.ok (v:=.slice (some ⟨w6.heap.size,0,none⟩) 1 1) (w':=w6.alloc (.cells (⟨who,kd,life,share,.slice (some ⟨w4.heap.size,0,none⟩) n n,List.replicate n 0⟩:dB).cells.toArray 127)) (by kernel_rfl) ?_;have h62:bD (w6.alloc (.cells (⟨who,kd,life,share,.slice (some ⟨w4.heap.size,0,none⟩) n n,List.replicate n 0⟩:dB).cells.toArray 127)) w6.heap.size (⟨who,kd,life,share,.slice (some ⟨w4.heap.size,0,none⟩) n n,List.replicate n 0⟩:dB).cells 127:=by unfold bD;rw [heap_alloc_new]
     have x7:aG w6 (w6.alloc (.cells (⟨who,kd,life,share,.slice (some ⟨w4.heap.size,0,none⟩) n n,List.replicate n 0⟩:dB).cells.toArray 127)):=(aG.refl _).alloc _;have l7:=h62.lt;generalize w6.alloc (.cells (⟨who,kd,life,share,.slice (some ⟨w4.heap.size,0,none⟩) n n,List.replicate n 0⟩:dB).cells.toArray 127)=w7 at h62 x7 l7 ⊢;have X7:=X6.trans x7;have s7:=x7.size;have hdv:=hdv.ext x7;have h54:=x7.own h54;have t7:=X7.size;refine ⟨X7,?_⟩;exact fin hdv h54 h62 X7 (by omega) (by omega) (by omega) (by omega)
    ·refine V.ok (v:=.slice (some ⟨w5.heap.size,0,none⟩) 1 1) (w':=w5.alloc (.cells (⟨who,kd,life,share,.slice (some ⟨w4.heap.size,0,none⟩) n n,List.replicate n 0⟩:dB).cells.toArray 127)) (by kernel_rfl) ?_;have h62:bD (w5.alloc (.cells (⟨who,kd,life,share,.slice (some ⟨w4.heap.size,0,none⟩) n n,List.replicate n 0⟩:dB).cells.toArray 127)) w5.heap.size (⟨who,kd,life,share,.slice (some ⟨w4.heap.size,0,none⟩) n n,List.replicate n 0⟩:dB).cells 127:=by unfold bD;rw [heap_alloc_new]
     have x6:aG w5 (w5.alloc (.cells (⟨who,kd,life,share,.slice (some ⟨w4.heap.size,0,none⟩) n n,List.replicate n 0⟩:dB).cells.toArray 127)):=(aG.refl _).alloc _;have l6:=h62.lt;generalize w5.alloc (.cells (⟨who,kd,life,share,.slice (some ⟨w4.heap.size,0,none⟩) n n,List.replicate n 0⟩:dB).cells.toArray 127)=w6 at h62 x6 l6 ⊢;have X6:=X5.trans x6;have s6:=x6.size;have h49:=x6.own h49;have hdv:=hdv.ext x6;have t6:=X6.size;refine ⟨X6,?_⟩;refine cpK h49 (X6.own h.list) (by omega) (by omega) h.rowOne X6.size λg54 c54 w7 h54 hg54 hl54 l7=>?_;have X7:aG w w7:=X6.grown hg54 λi hi=>(h49.lt i hi).1;have f54:Fr (λi=>i=w3.heap.size) w6 w7:=Fr.of_grown hg54 λi hi=>by simpa [Value.ownBlock] using hi.symm
     have s7:=f54.size;have hl54:g54=w3.heap.size\/g54=w6.heap.size:=hl54.imp (λh=>by simpa [Value.ownBlock] using h.symm) id;have hdv:=f54.blk hdv (by omega);have h62:=f54.blk h62 (by omega);have t7:=X7.size;refine ⟨X7,?_⟩;exact fin hdv h54 h62 X7 (by omega) (by omega) (by omega) (by omega)
  ·refine HI (n:=n) rfl underlying23 pW rfl (by omega) (by omega) λw4 hdv x4 l4=>?_;have X4:=X3.trans x4;have s4:=x4.size;have t4:=X4.size;refine ⟨X4,?_⟩;refine vS pY [(0,i64 who),(1,i64 kd),(2,i64 life),(3,.bool share),(4,.slice (some ⟨w3.heap.size,0,none⟩) n n)] rfl rfl ?_;refine ⟨?_,?_⟩
   ·refine aBl λw5 h49 x5 l5=>?_;have X5:=X4.trans x5;have h49:=aR h49 X4.size;have s5:=x5.size;have hdv:=hdv.ext x5;have t5:=X5.size;refine ⟨X5,?_⟩;refine ⟨?_,?_⟩
    ·refine cpK h49 (X5.own h.list) (by omega) (by omega) h.rowOne X5.size λg54 c54 w6 h54 hg54 hl54 l6=>?_;have X6:aG w w6:=X5.grown hg54 λi hi=>(h49.lt i hi).1;have f54:Fr (λi=>i=w4.heap.size) w5 w6:=Fr.of_grown hg54 λi hi=>by simpa [Value.ownBlock] using hi.symm
     have s6:=f54.size;have hl54:g54=w4.heap.size\/g54=w5.heap.size:=hl54.imp (λh=>by simpa [Value.ownBlock] using h.symm) id;have hdv:=f54.blk hdv (by omega);have t6:=X6.size;refine ⟨X6,?_⟩;refine V.ok (v:=.slice (some ⟨w6.heap.size,0,none⟩) 1 1) (w':=w6.alloc (.cells (⟨who,kd,life,share,.slice (some ⟨w3.heap.size,0,none⟩) n n,List.replicate n 0⟩:dB).cells.toArray 127)) (by kernel_rfl) ?_;have h62:bD (w6.alloc (.cells (⟨who,kd,life,share,.slice (some ⟨w3.heap.size,0,none⟩) n n,List.replicate n 0⟩:dB).cells.toArray 127)) w6.heap.size (⟨who,kd,life,share,.slice (some ⟨w3.heap.size,0,none⟩) n n,List.replicate n 0⟩:dB).cells 127:=by unfold bD;rw [heap_alloc_new]
     have x7:aG w6 (w6.alloc (.cells (⟨who,kd,life,share,.slice (some ⟨w3.heap.size,0,none⟩) n n,List.replicate n 0⟩:dB).cells.toArray 127)):=(aG.refl _).alloc _;have l7:=h62.lt;generalize w6.alloc (.cells (⟨who,kd,life,share,.slice (some ⟨w3.heap.size,0,none⟩) n n,List.replicate n 0⟩:dB).cells.toArray 127)=w7 at h62 x7 l7 ⊢;have X7:=X6.trans x7;have s7:=x7.size;have hdv:=hdv.ext x7;have h54:=x7.own h54;have t7:=X7.size;refine ⟨X7,?_⟩;exact fin hdv h54 h62 X7 (by omega) (by omega) (by omega) (by omega)
    ·refine V.ok (v:=.slice (some ⟨w5.heap.size,0,none⟩) 1 1) (w':=w5.alloc (.cells (⟨who,kd,life,share,.slice (some ⟨w3.heap.size,0,none⟩) n n,List.replicate n 0⟩:dB).cells.toArray 127)) (by kernel_rfl) ?_;have h62:bD (w5.alloc (.cells (⟨who,kd,life,share,.slice (some ⟨w3.heap.size,0,none⟩) n n,List.replicate n 0⟩:dB).cells.toArray 127)) w5.heap.size (⟨who,kd,life,share,.slice (some ⟨w3.heap.size,0,none⟩) n n,List.replicate n 0⟩:dB).cells 127:=by unfold bD;rw [heap_alloc_new]
     have x6:aG w5 (w5.alloc (.cells (⟨who,kd,life,share,.slice (some ⟨w3.heap.size,0,none⟩) n n,List.replicate n 0⟩:dB).cells.toArray 127)):=(aG.refl _).alloc _;have l6:=h62.lt;generalize w5.alloc (.cells (⟨who,kd,life,share,.slice (some ⟨w3.heap.size,0,none⟩) n n,List.replicate n 0⟩:dB).cells.toArray 127)=w6 at h62 x6 l6 ⊢;have X6:=X5.trans x6;have s6:=x6.size;have hdv:=hdv.ext x6;have h49:=x6.own h49;have t6:=X6.size;refine ⟨X6,?_⟩;refine cpK h49 (X6.own h.list) (by omega) (by omega) h.rowOne X6.size λg54 c54 w7 h54 hg54 hl54 l7=>?_;have X7:aG w w7:=X6.grown hg54 λi hi=>(h49.lt i hi).1;have f54:Fr (λi=>i=w4.heap.size) w6 w7:=Fr.of_grown hg54 λi hi=>by simpa [Value.ownBlock] using hi.symm
     have s7:=f54.size;have hl54:g54=w4.heap.size\/g54=w6.heap.size:=hl54.imp (λh=>by simpa [Value.ownBlock] using h.symm) id;have hdv:=f54.blk hdv (by omega);have h62:=f54.blk h62 (by omega);have t7:=X7.size;refine ⟨X7,?_⟩;exact fin hdv h54 h62 X7 (by omega) (by omega) (by omega) (by omega)
   ·refine V.ok (v:=.slice (some ⟨w4.heap.size,0,none⟩) 1 1) (w':=w4.alloc (.cells (⟨who,kd,life,share,.slice (some ⟨w3.heap.size,0,none⟩) n n,List.replicate n 0⟩:dB).cells.toArray 127)) (by kernel_rfl) ?_;have h62:bD (w4.alloc (.cells (⟨who,kd,life,share,.slice (some ⟨w3.heap.size,0,none⟩) n n,List.replicate n 0⟩:dB).cells.toArray 127)) w4.heap.size (⟨who,kd,life,share,.slice (some ⟨w3.heap.size,0,none⟩) n n,List.replicate n 0⟩:dB).cells 127:=by unfold bD;rw [heap_alloc_new]
    have x5:aG w4 (w4.alloc (.cells (⟨who,kd,life,share,.slice (some ⟨w3.heap.size,0,none⟩) n n,List.replicate n 0⟩:dB).cells.toArray 127)):=(aG.refl _).alloc _;have l5:=h62.lt;generalize w4.alloc (.cells (⟨who,kd,life,share,.slice (some ⟨w3.heap.size,0,none⟩) n n,List.replicate n 0⟩:dB).cells.toArray 127)=w5 at h62 x5 l5 ⊢;have X5:=X4.trans x5;have s5:=x5.size;have hdv:=hdv.ext x5;have t5:=X5.size;refine ⟨X5,?_⟩;refine aBl λw6 h49 x6 l6=>?_;have X6:=X5.trans x6;have h49:=aR h49 X5.size;have s6:=x6.size;have hdv:=hdv.ext x6;have h62:=h62.ext x6;have t6:=X6.size;refine ⟨X6,?_⟩;refine cpK h49 (X6.own h.list) (by omega) (by omega) h.rowOne X6.size λg54 c54 w7 h54 hg54 hl54 l7=>?_;have X7:aG w w7:=X6.grown hg54 λi hi=>(h49.lt i hi).1;have f54:Fr (λi=>i=w5.heap.size) w6 w7:=Fr.of_grown hg54 λi hi=>by simpa [Value.ownBlock] using hi.symm
    have s7:=f54.size;have hl54:g54=w5.heap.size\/g54=w6.heap.size:=hl54.imp (λh=>by simpa [Value.ownBlock] using h.symm) id;have hdv:=f54.blk hdv (by omega);have h62:=f54.blk h62 (by omega);have t7:=X7.size;refine ⟨X7,?_⟩;exact fin hdv h54 h62 X7 (by omega) (by omega) (by omega) (by omega)
 ·rintro w9 ⟨g',cap',dv,h9,s9,f9⟩ _;refine ⟨.inl ⟨_,rfl⟩,?_⟩;refine bA h9.ybox.boxed bV dA rfl (oD.2 ?_);exact .inr ⟨by first|exact hroom|omega|(intro hh;rcases hh with hh|hh<;>first|exact hh.elim|omega|exact absurd hh hroom),by simp,g',cap',dv,h9,s9,f9⟩
end
section
variable {q:QP} {w w':Ω} {K:O->Ω->Prop}
theorem aOt {B:Nat} {v sv:O} {l:List Int} (ho:w.ownsRow B 5 1 v 0 []) (h:iZ w sv l) (hl:l.length<=1000000) (hB:B<=w.heap.size)
  (hk:∀ v' w',w'.ownsRow B 5 1 v' l.length (l.map u8)->w.grownBy w' v.ownBlock->(v'.ownBlock=v.ownBlock\/v'.ownBlock=some w.heap.size)->K v' w') :
  V prog (Builtin.append_ #[23,23] 23 #[v,sv]) w K:=by
 have go:aB w sv 1 l.length (l.map u8)->V prog (Builtin.append_ #[23,23] 23 #[v,sv]) w K:=λhs=>by
  refine apS mQ ho hs (pZ _) (by omega) (by unfold maxLen;omega) hB λv' w' ho' hg hl=>?_;rw [Nat.zero_add,List.nil_append] at ho';exact hk v' w' ho' hg hl
 rcases h with ⟨rfl,rfl⟩|⟨ad,c,rfl,hb⟩
 ·exact go (aB.nil _ _)
 ·by_cases h0:0 < l.length
  ·exact go (hb h0)
  ·have hl0:l=[]:=List.eq_nil_of_length_eq_zero (by omega);subst hl0;obtain ⟨a,c1,hv⟩:=(aB.of_own ho).shape;subst hv;refine V.ok (wW underlying23 pW (Nat.zero_le _)) (hk _ _ ho ⟨rfl,rfl,rfl,Nat.le_refl _,λ_ _ _=>rfl⟩ (.inl rfl))
theorem dL.relist (h:dL q w) {B g54 c54:Nat} {dv:O} {d':List Int} {k:Nat} {x:dB} (hk:q.ar[k]?=some x) (h54:w.ownsRow B 127 5 (.slice (some ⟨g54,0,none⟩) q.ar.length c54) q.ar.length (jW q.ar)) (hdv:w.ownsRow B 5 1 dv d'.length (d'.map u8)) (hne:dv.ownBlock≠some g54) (hd:d'.length<=64) (hB:∀ i,B<=i->¬ nG q i/\¬ AR q i) :
  dL { q with g:=g54,cap:=c54,ar:=q.ar.set k { x with dv:=dv,data:=d' } } ((w.setCell ⟨g54,k*5+4,none⟩ dv).setCell ⟨q.yb,1,none⟩ (.slice (some ⟨g54,0,none⟩) q.ar.length c54))/\Fr (λi=>i=g54) w (w.setCell ⟨g54,k*5+4,none⟩ dv)/\Fr (λi=>i=q.yb) (w.setCell ⟨g54,k*5+4,none⟩ dv) ((w.setCell ⟨g54,k*5+4,none⟩ dv).setCell ⟨q.yb,1,none⟩ (.slice (some ⟨g54,0,none⟩) q.ar.length c54)):=by
 have hkl:k < q.ar.length:=(List.getElem?_eq_some_iff.1 hk).1;have hgB:B<=g54:=(h54.lt _ rfl).1;have f1:Fr (λi=>i=g54) w (w.setCell ⟨g54,k*5+4,none⟩ dv):=Fr.of_set rfl;have h1:=h.fr f1 λi hi=>hB i (hi▸hgB);have row1:=(h54.stored (k*5+4) dv).1;rw [<- yL hk dv d'] at row1;have hdv1:=f1.own hdv λi hi e=>hne (e▸hi)
 have each:∀ a∈q.ar.set k { x with dv:=dv,data:=d' },a={ x with dv:=dv,data:=d' }\/a∈q.ar:=by
  intro a ha;obtain ⟨i,hi⟩:=List.getElem?_of_mem ha;by_cases hik:k=i
  ·subst hik;rw [List.getElem?_set_self hkl] at hi;cases hi;exact .inl rfl
  ·rw [List.getElem?_set_ne hik] at hi;exact .inr (List.mem_of_getElem? hi)
 have hlen:(q.ar.set k { x with dv:=dv,data:=d' }).length=q.ar.length:=by simp
 obtain ⟨h2,f2⟩:=h1.setL (g':=g54) (cap':=c54) (ar':=q.ar.set k { x with dv:=dv,data:=d' }) (by rw [hlen];exact aR row1 (Nat.zero_le _)) (λa ha=>by
   rcases each a ha with rfl|ha
   ·exact aR hdv1 (Nat.zero_le _)
   ·exact h1.data a ha) (λa ha=>by
   rcases each a ha with rfl|ha
   ·exact hd
   ·exact h.len a ha) (by rw [hlen];exact h.two) (by rw [hlen];exact h.cnt) (hB g54 hgB).1 (λa ha i hi=>by
   rcases each a ha with rfl|ha
   ·exact (hB i (hdv.lt i hi).1).1
   ·exact λhm=>h.dj i hm (.inr (.inl ⟨a,ha,hi⟩)))
 rw [hlen] at h2 f2;exact ⟨h2,f1,f2⟩
theorem dL.stpR (h:dL q w) {w1:Ω} {g54 c54:Nat} {dv:O} {d':List Int} {k:Nat} {x:dB} (hk:q.ar[k]?=some x) (hf:Fr (nG q) w w1) (hg:w.heap.size<=g54) (hdv:∀ i,dv.ownBlock=some i->w.heap.size<=i):oU q { q with g:=g54,cap:=c54,ar:=q.ar.set k { x with dv:=dv,data:=d' } } w w1:=by
 have hkl:k < q.ar.length:=(List.getElem?_eq_some_iff.1 hk).1;refine h.stpL hf (.inr hg) λa ha i hi=>?_;obtain ⟨j,hj⟩:=List.getElem?_of_mem ha;by_cases hik:k=j
 ·subst hik;rw [List.getElem?_set_self hkl] at hj;cases hj;exact .inr (hdv i hi)
 ·rw [List.getElem?_set_ne hik] at hj;exact .inl ⟨a,List.mem_of_getElem? hj,hi⟩
theorem dL.above (h:dL q w):∀ i,w.heap.size<=i->¬ nG q i/\¬ AR q i:=λi hi=>⟨λhm=>by have:=h.hi i (.inl hm);omega,λhm=>by have:=h.hi i (.inr hm);omega⟩
theorem QQ (h:dL q w) {k:Nat} {x:dB} (hk:q.ar[k]?=some x) {r:Int} (hr:r=(k:Int)+1) {a:Nat} {sv:O} {S:List Int} (hS:cU w sv S) (hn:a+S.length<=x.data.length) :
  aC prog 107 #[OZ q,i64 r,i64 (a:Int),sv] w λ_ w'=>∃ g' cap' dv,dL { q with g:=g',cap:=cap',ar:=q.ar.set k { x with dv:=dv,data:=x.data.take a++S++x.data.drop (a+S.length) } } w'/\oU q { q with g:=g',cap:=cap',ar:=q.ar.set k { x with dv:=dv,data:=x.data.take a++S++x.data.drop (a+S.length) } } w w'/\Fr (λi=>i=q.yb) w w':=by
 have hkl:k < q.ar.length:=(List.getElem?_eq_some_iff.1 hk).1;have hxm:=List.mem_of_getElem? hk;have hxl:=h.len x hxm;have hcnt:=h.cnt;have hw:=h.hi;apply aJe;unfold LV;refine mF mQ [] rfl rfl (by simp) rfl λv1 w1 ho1 x1=>?_;refine ⟨.inl ⟨_,rfl⟩,?_⟩;refine bA (h.ybox.ext x1).boxed bV dA rfl (jV.2 ?_);rw [show IntKind.i64.wrap (r - 1)=(k:Int) from by rw [aX (by omega)];omega];refine V.ok (nV (by omega) (by omega)) ?_;have e:0+((k:Nat):Int).toNat*5=k*5:=by omega
 rw [e];refine V.ok jY ?_;refine V.ok (kO ((h.ext x1).get hk (by omega:4 < 5))) ?_;have s1:=x1.size;refine apS mQ ho1 (aB.of_own (x1.own (h.data x hxm))) (pZ _) (by omega) (by unfold maxLen;omega) s1 λv2 w2 ho2 hg2 hl2=>?_;rw [Nat.zero_add,List.nil_append] at ho2;have x2:aG w w2:=x1.grown hg2 λi hi=>(ho1.lt i hi).1;refine ⟨λv w'=>∃ (i:Nat) (cur:List Int),v=i64 i/\i<=S.length/\sW x.data S a i cur/\w'.ownsRow w.heap.size 5 1 v2 x.data.length (cur.map u8)/\aG w w',λv _=>S.length - (RowKit.intOf v).toNat,⟨0,x.data,rfl,Nat.zero_le _,⟨rfl,λj=>by rw [if_neg (by omega)]⟩,ho2,x2⟩,?_⟩;rintro _ w3 ⟨i,cur,rfl,hi,hcur,ho3,x3⟩ _;have hS3:=hS.ext x3;refine gG jQ hS3 ?_;refine aV.2 (aK (λhlt=>?_) λhge=>?_)
 ·refine bW.2 ?_;rw [show IntKind.i64.wrap ((a:Int)+(i:Int))=((a+i:Nat):Int) from by rw [aX (by omega)];omega];refine nO jQ vZ hS3 (by omega) (by omega) (tE (by omega)) ?_;refine stO jQ pW ho3 (by omega) (by omega) rfl λw4 ho4 hg4=>?_;rw [Int.toNat_natCast] at ho4;refine mH (by omega) ?_;refine ⟨⟨i+1,cur.set (a+i) (S.getD i 0),rfl,by omega,hcur.step (by omega) (by omega),?_,x3.grown hg4 λj hj=>(ho3.lt j hj).1⟩,by simp only [aT];omega⟩;simpa [List.map_set] using ho4
 ·have hin:i=S.length:=by omega
  subst hin;have hd:=hcur.done hn;refine aBl λw4 h49 x4 l4=>?_;have X4:=x3.trans x4;have h49:=aR h49 x3.size;have s4:=X4.size;have z3:=x3.size;refine ⟨.inl ⟨_,rfl⟩,?_⟩;refine bA (h.ybox.ext X4).boxed bV dA rfl ?_;refine cpK h49 (X4.own h.list) (by omega) (by omega) h.rowOne s4 λg54 c54 w5 h54 hg54 hl54 l5=>?_;have X5:aG w w5:=X4.grown hg54 λi hi=>(h49.lt i hi).1;have f54:Fr (λi=>i=w3.heap.size) w4 w5:=Fr.of_grown hg54 λi hi=>by simpa [Value.ownBlock] using hi.symm
  have hl54:g54=w3.heap.size\/g54=w4.heap.size:=hl54.imp (λh=>by simpa [Value.ownBlock] using h.symm) id;have hv2:∀ j,v2.ownBlock=some j->j < w3.heap.size:=λj hj=>(ho3.lt j hj).2;have ho5:=f54.own (x4.own ho3) λj hj e=>by have:=hv2 j hj;omega
  refine jV.2 ?_;rw [show IntKind.i64.wrap (r - 1)=(k:Int) from by rw [aX (by omega)];omega];refine V.ok (nV (by omega) (by omega)) ?_;rw [e];refine V.ok jY ?_;have hcell:=h54.cellAt (k*5+4) (by omega);rw [kA hk (by omega:4 < 5)] at hcell;refine U.ok (lV lO (bM ho5) hcell (h54.frozenAt _)) ?_;refine ⟨.inl ⟨_,rfl⟩,?_⟩;have hB:=h.above;have hl:(x.data.take a++S++x.data.drop (a+S.length)).length=x.data.length:=by rw [<- hd];exact hcur.1
  have ho5':w5.ownsRow w.heap.size 5 1 v2 (x.data.take a++S++x.data.drop (a+S.length)).length ((x.data.take a++S++x.data.drop (a+S.length)).map u8):=by
   rw [hl,<- hd];exact ho5
  obtain ⟨h6,f6,f7⟩:=(h.ext X5).relist hk h54 ho5' (λe=>by have:=hv2 _ e;omega) (by rw [hl];exact hxl) hB;refine V.ok uD ?_;have hy6:=f6.blk ((h.ext X5).ybox) (λe=>(hB _ (h54.lt _ rfl).1).1 (.inr (.inl e.symm)));refine wX sI hy6 rfl (by simp) rfl ?_;refine ⟨g54,c54,v2,h6,h.stpR hk ?_ (h54.lt _ rfl).1 (λi hi=>(ho5.lt i hi).1),?_⟩
  all_goals have g1:aG w (w5.setCell ⟨g54,k*5+4,none⟩ v2):=f6.ext X5 λi hi=>by rw [hi];exact (h54.lt _ rfl).1
  ·exact (Fr.of_ext (S:=nG q) g1).trans (f7.mono λi hi=>.inr (.inl hi)) λ_ _ h=>h
  ·exact (Fr.of_ext (S:=λi=>i=q.yb) g1).trans f7 λ_ _ h=>h
end
theorem PF:∀ {l:List tL} {k:Nat} {e:tL} {j:Nat},l[k]?=some e->j < 4->(oY l)[k*4+j]?=e.cells[j]?
 | [],k,e,j,h,_=>by simp at h
 | b::l,0,e,j,h,hj=>by
  simp at h;subst h;show (b.cells++oY l)[0*4+j]?=_;rw [List.getElem?_append_left (by simp [tL.cells];omega)];simp
 | b::l,k+1,e,j,h,hj=>by
  have h':l[k]?=some e:=by simpa using h
  show (b.cells++oY l)[(k+1)*4+j]?=_;rw [List.getElem?_append_right (by simp [tL.cells];omega),<- PF h' hj]
  congr 1
  simp [tL.cells];omega
section
variable {w w':Ω}
theorem OK {t:TypeId} {w:Ω} {K:O->Ω->Prop} {n:Nat} {parts:Array (Nat × O)} {cs:List O} (hr:(Instr.buildSlice t n parts).run prog w=.ok (.slice (some ⟨w.heap.size,0,none⟩) n n) (w.alloc (.cells cs.toArray 54))) (hn:cs.length=n*4) (hm:n<=maxLen) (hk:∀ w',w'.ownsRow w.heap.size 54 4 (.slice (some ⟨w.heap.size,0,none⟩) n n) n cs->aG w w'->K (.slice (some ⟨w.heap.size,0,none⟩) n n) w'):V prog (Instr.buildSlice t n parts) w K:=by
 refine V.ok hr ?_;have hb1:bD (w.alloc (.cells cs.toArray 54)) w.heap.size cs 54:=by unfold bD;rw [heap_alloc_new]
 exact hk _ (eC hb1 hn (Nat.le_refl _) hm) ((aG.refl _).alloc _)
theorem aB.ldxE {t x:TypeId} {w:Ω} {v:O} {n:Nat} {l:List tL} {i:Nat} {e:tL} {K:O->Ω->Prop} (hx:XA prog t 4) (ht:∃ d z by_,prog.underlying x=some d/\oC d=true/\cV prog x z 4 by_) (hs:aB w v 4 n (oY l)) (hi:i < n) (he:l[i]?=some e) (hk:K (.agg e.cells.toArray) w) :
  V prog (Instr.indexAt t v (.int .i64 (i:Int))) w λp w1=>V prog (Instr.loadAt x p) w1 K:=by
 obtain ⟨e',z,b',hte,hinf⟩:=hx;obtain ⟨d,z2,by2,hd,ha,hi2⟩:=ht;obtain ⟨b,off,cap,rfl,hc⟩:=hs.there (by omega);refine V.ok (gE hte hinf (by omega) (by omega)) (V.ok (kF hd ha hi2 (cs:=e.cells) rfl λj hj=>?_) hk);have hj4:j < 4:=hj;obtain ⟨u,hu⟩:=bH (l:=e.cells) (j:=j) hj;have:=hc (i*4+j) u (by rw [PF he hj4];exact hu);rw [hu,Int.toNat_natCast,Nat.add_assoc];exact this
end
theorem MN {w:Ω} {sa sb x0 x1:Int} {ov:O} (_:aB w ov 1 2 [i64 x0,i64 x1]):aC prog 102 #[i64 17,i64 sa,i64 sb,ov] w λr w'=>(w'.ownsRow w.heap.size 54 4 r 0 (oY []))/\aG w w':=by
 apply oX
 have key:∀ {R:O->Ω->Prop},(∀ r w',w'.ownsRow w.heap.size 54 4 r 0 (oY [])->aG w w'->R r w')->fI (i64 17) (i64 sa) (i64 sb) ov w R:=by
  intro R hR;unfold fI;simp only [aF,Int.reduceEq,decide_false,aA];refine ⟨λv w'=>v=.bool false/\w'=w,(by first|exact ⟨rfl,rfl⟩|(simp only [aF,Int.reduceEq,decide_false,decide_true,aA,aE];exact ⟨trivial,trivial⟩)|(simp only [aF,Int.reduceEq,decide_false,decide_true,aA,aE];exact ⟨rfl,rfl⟩)),?_⟩;rintro _ w' ⟨rfl,hw⟩ _;have hw:=hw.symm;subst hw;refine aA.2 ?_;refine ⟨λv w'=>v=.bool false/\w'=w,(by first|exact ⟨rfl,rfl⟩|(simp only [aF,Int.reduceEq,decide_false,decide_true,aA,aE];exact ⟨trivial,trivial⟩)|(simp only [aF,Int.reduceEq,decide_false,decide_true,aA,aE];exact ⟨rfl,rfl⟩)),?_⟩;rintro _ w' ⟨rfl,hw⟩ _;have hw:=hw.symm;subst hw;refine aA.2 ?_
  try simp only [aF,Int.reduceEq,decide_false,decide_true,aA,aE]
  exact hR _ _ (World.ownsRow_nil _ _ _ _) (aG.refl _)
 exact key λr w' h1 h2=>⟨h1,h2⟩
theorem MM {w:Ω} {sa sb x0 x1:Int} {ov:O} (_:aB w ov 1 2 [i64 x0,i64 x1]):aC prog 102 #[i64 18,i64 sa,i64 sb,ov] w λr w'=>(w'.ownsRow w.heap.size 54 4 r 0 (oY []))/\aG w w':=by
 apply oX
 have key:∀ {R:O->Ω->Prop},(∀ r w',w'.ownsRow w.heap.size 54 4 r 0 (oY [])->aG w w'->R r w')->fI (i64 18) (i64 sa) (i64 sb) ov w R:=by
  intro R hR;unfold fI;simp only [aF,Int.reduceEq,decide_false,aA];refine ⟨λv w'=>v=.bool false/\w'=w,(by first|exact ⟨rfl,rfl⟩|(simp only [aF,Int.reduceEq,decide_false,decide_true,aA,aE];exact ⟨trivial,trivial⟩)|(simp only [aF,Int.reduceEq,decide_false,decide_true,aA,aE];exact ⟨rfl,rfl⟩)),?_⟩;rintro _ w' ⟨rfl,hw⟩ _;have hw:=hw.symm;subst hw;refine aA.2 ?_;refine ⟨λv w'=>v=.bool false/\w'=w,(by first|exact ⟨rfl,rfl⟩|(simp only [aF,Int.reduceEq,decide_false,decide_true,aA,aE];exact ⟨trivial,trivial⟩)|(simp only [aF,Int.reduceEq,decide_false,decide_true,aA,aE];exact ⟨rfl,rfl⟩)),?_⟩;rintro _ w' ⟨rfl,hw⟩ _;have hw:=hw.symm;subst hw;refine aA.2 ?_
  try simp only [aF,Int.reduceEq,decide_false,decide_true,aA,aE]
  exact hR _ _ (World.ownsRow_nil _ _ _ _) (aG.refl _)
 exact key λr w' h1 h2=>⟨h1,h2⟩
theorem ML {w:Ω} {sa sb x0:Int} {ov:O} (ho:aB w ov 1 1 [i64 x0]):aC prog 102 #[i64 27,i64 sa,i64 sb,ov] w λr w'=>(w'.ownsRow w.heap.size 54 4 r 1 (oY [⟨3,sa,sb,x0⟩]))/\aG w w':=by
 apply oX
 have key:∀ {R:O->Ω->Prop},(∀ r w',w'.ownsRow w.heap.size 54 4 r 1 (oY [⟨3,sa,sb,x0⟩])->aG w w'->R r w')->fI (i64 27) (i64 sa) (i64 sb) ov w R:=by
  intro R hR;unfold fI;simp only [aF,Int.reduceEq,decide_false,decide_true,aA,aE];refine nO aM aL ho (by omega) (by omega) (rfl:([i64 x0]:List O)[(0:Int).toNat]?=_) ?_;refine bld tS [(0,i64 3),(1,i64 sa),(2,i64 sb),(3,i64 x0)] rfl rfl ?_;refine OK (cs:=oY [⟨3,sa,sb,x0⟩]) (by kernel_rfl) rfl (by unfold maxLen;omega) λw2 ho2 x2=>?_;exact hR _ _ ho2 x2
 exact key λr w' h1 h2=>⟨h1,h2⟩
theorem MK {w:Ω} {sa sb x0:Int} {ov:O} (ho:aB w ov 1 1 [i64 x0]):aC prog 102 #[i64 28,i64 sa,i64 sb,ov] w λr w'=>(w'.ownsRow w.heap.size 54 4 r 1 (oY [⟨2,x0,0,0⟩]))/\aG w w':=by
 apply oX
 have key:∀ {R:O->Ω->Prop},(∀ r w',w'.ownsRow w.heap.size 54 4 r 1 (oY [⟨2,x0,0,0⟩])->aG w w'->R r w')->fI (i64 28) (i64 sa) (i64 sb) ov w R:=by
  intro R hR;unfold fI;simp only [aF,Int.reduceEq,decide_false,decide_true,aA,aE];refine nO aM aL ho (by omega) (by omega) (rfl:([i64 x0]:List O)[(0:Int).toNat]?=_) ?_;refine bld tS [(0,i64 2),(1,i64 x0)] rfl rfl ?_;refine OK (cs:=oY [⟨2,x0,0,0⟩]) (by kernel_rfl) rfl (by unfold maxLen;omega) λw2 ho2 x2=>?_;exact hR _ _ ho2 x2
 exact key λr w' h1 h2=>⟨h1,h2⟩
theorem MJ {w:Ω} {sa sb x0 x1:Int} {ov:O} (ho:aB w ov 1 2 [i64 x0,i64 x1]):aC prog 102 #[i64 29,i64 sa,i64 sb,ov] w λr w'=>(w'.ownsRow w.heap.size 54 4 r 1 (oY [⟨2,x0,x1,1⟩]))/\aG w w':=by
 apply oX
 have key:∀ {R:O->Ω->Prop},(∀ r w',w'.ownsRow w.heap.size 54 4 r 1 (oY [⟨2,x0,x1,1⟩])->aG w w'->R r w')->fI (i64 29) (i64 sa) (i64 sb) ov w R:=by
  intro R hR;unfold fI;simp only [aF,Int.reduceEq,decide_false,decide_true,aA,aE];refine ⟨λv w'=>v=.bool true/\w'=w,(by first|exact ⟨rfl,rfl⟩|(simp only [aF,Int.reduceEq,decide_false,decide_true,aA,aE];exact ⟨trivial,trivial⟩)|(simp only [aF,Int.reduceEq,decide_false,decide_true,aA,aE];exact ⟨rfl,rfl⟩)),?_⟩;rintro _ w' ⟨rfl,hw⟩ _;have hw:=hw.symm;subst hw;refine aE.2 ?_;have D:aG w w.drew:=(aG.refl _).drew;refine aH.mk' (λw'=>aG w w') D ?_;refine gF aM aL ho (λw' hw=>hw) (by omega) (by omega) (rfl:([i64 x0,i64 x1]:List O)[(0:Int).toNat]?=_) ?_;refine gF aM aL ho (λw' hw=>hw) (by omega) (by omega) (rfl:([i64 x0,i64 x1]:List O)[(1:Int).toNat]?=_) ?_;refine vS tS [(0,i64 2),(1,i64 x0),(2,i64 x1),(3,i64 1)] rfl rfl ?_;refine OK (cs:=oY [⟨2,x0,x1,1⟩]) (by kernel_rfl) rfl (by unfold maxLen;omega) λw2 ho2 x2=>?_;exact ⟨D.trans x2,hR _ _ (aR ho2 D.size) (D.trans x2)⟩
 exact key λr w' h1 h2=>⟨h1,h2⟩
theorem MH {w:Ω} {sa sb x0 x1 x2:Int} {ov:O} (ho:aB w ov 1 3 [i64 x0,i64 x1,i64 x2]):aC prog 102 #[i64 30,i64 sa,i64 sb,ov] w λr w'=>(w'.ownsRow w.heap.size 54 4 r 1 (oY [⟨2,x0,x1,1⟩]))/\aG w w':=by
 apply oX
 have key:∀ {R:O->Ω->Prop},(∀ r w',w'.ownsRow w.heap.size 54 4 r 1 (oY [⟨2,x0,x1,1⟩])->aG w w'->R r w')->fI (i64 30) (i64 sa) (i64 sb) ov w R:=by
  intro R hR;unfold fI;simp only [aF,Int.reduceEq,decide_false,decide_true,aA];refine ⟨λv w'=>v=.bool true/\w'=w,(by first|exact ⟨rfl,rfl⟩|(simp only [aF,Int.reduceEq,decide_false,decide_true,aA,aE];exact ⟨trivial,trivial⟩)|(simp only [aF,Int.reduceEq,decide_false,decide_true,aA,aE];exact ⟨rfl,rfl⟩)),?_⟩;rintro _ w' ⟨rfl,hw⟩ _;have hw:=hw.symm;subst hw;refine aE.2 ?_;have D:aG w w.drew:=(aG.refl _).drew;refine aH.mk' (λw'=>aG w w') D ?_;refine gF aM aL ho (λw' hw=>hw) (by omega) (by omega) (rfl:([i64 x0,i64 x1,i64 x2]:List O)[(0:Int).toNat]?=_) ?_;refine gF aM aL ho (λw' hw=>hw) (by omega) (by omega) (rfl:([i64 x0,i64 x1,i64 x2]:List O)[(1:Int).toNat]?=_) ?_;refine vS tS [(0,i64 2),(1,i64 x0),(2,i64 x1),(3,i64 1)] rfl rfl ?_;refine OK (cs:=oY [⟨2,x0,x1,1⟩]) (by kernel_rfl) rfl (by unfold maxLen;omega) λw2 ho2 x2=>?_;exact ⟨D.trans x2,hR _ _ (aR ho2 D.size) (D.trans x2)⟩
 exact key λr w' h1 h2=>⟨h1,h2⟩
theorem MG {w:Ω} {sa sb x0 x1 x2 x3 x4:Int} {ov:O} (ho:aB w ov 1 5 [i64 x0,i64 x1,i64 x2,i64 x3,i64 x4]):aC prog 102 #[i64 31,i64 sa,i64 sb,ov] w λr w'=>(w'.ownsRow w.heap.size 54 4 r 2 (oY [⟨2,x0,x1,x4⟩,⟨2,x2,x3,x4⟩]))/\aG w w':=by
 apply oX
 have key:∀ {R:O->Ω->Prop},(∀ r w',w'.ownsRow w.heap.size 54 4 r 2 (oY [⟨2,x0,x1,x4⟩,⟨2,x2,x3,x4⟩])->aG w w'->R r w')->fI (i64 31) (i64 sa) (i64 sb) ov w R:=by
  intro R hR;unfold fI;simp only [aF,Int.reduceEq,decide_false,decide_true,aA,aE];refine ⟨λv w'=>v=.bool false/\w'=w,(by first|exact ⟨rfl,rfl⟩|(simp only [aF,Int.reduceEq,decide_false,decide_true,aA,aE];exact ⟨trivial,trivial⟩)|(simp only [aF,Int.reduceEq,decide_false,decide_true,aA,aE];exact ⟨rfl,rfl⟩)),?_⟩;rintro _ w' ⟨rfl,hw⟩ _;have hw:=hw.symm;subst hw;refine aA.2 ?_;refine ⟨λv w'=>v=.bool true/\w'=w,(by first|exact ⟨rfl,rfl⟩|(simp only [aF,Int.reduceEq,decide_false,decide_true,aA,aE];exact ⟨trivial,trivial⟩)|(simp only [aF,Int.reduceEq,decide_false,decide_true,aA,aE];exact ⟨rfl,rfl⟩)),?_⟩;rintro _ w' ⟨rfl,hw⟩ _;have hw:=hw.symm;subst hw;refine aE.2 ?_;have D:aG w w.drew:=(aG.refl _).drew;refine aH.mk' (λw'=>aG w w') D ?_;refine gF aM aL ho (λw' hw=>hw) (by omega) (by omega) (rfl:([i64 x0,i64 x1,i64 x2,i64 x3,i64 x4]:List O)[(0:Int).toNat]?=_) ?_;refine gF aM aL ho (λw' hw=>hw) (by omega) (by omega) (rfl:([i64 x0,i64 x1,i64 x2,i64 x3,i64 x4]:List O)[(1:Int).toNat]?=_) ?_;refine gF aM aL ho (λw' hw=>hw) (by omega) (by omega) (rfl:([i64 x0,i64 x1,i64 x2,i64 x3,i64 x4]:List O)[(4:Int).toNat]?=_) ?_;refine vS tS [(0,i64 2),(1,i64 x0),(2,i64 x1),(3,i64 x4)] rfl rfl ?_;refine gF aM aL ho (λw' hw=>hw) (by omega) (by omega) (rfl:([i64 x0,i64 x1,i64 x2,i64 x3,i64 x4]:List O)[(2:Int).toNat]?=_) ?_
  refine gF aM aL ho (λw' hw=>hw) (by omega) (by omega) (rfl:([i64 x0,i64 x1,i64 x2,i64 x3,i64 x4]:List O)[(3:Int).toNat]?=_) ?_;refine gF aM aL ho (λw' hw=>hw) (by omega) (by omega) (rfl:([i64 x0,i64 x1,i64 x2,i64 x3,i64 x4]:List O)[(4:Int).toNat]?=_) ?_;refine vS tS [(0,i64 2),(1,i64 x2),(2,i64 x3),(3,i64 x4)] rfl rfl ?_;refine OK (cs:=oY [⟨2,x0,x1,x4⟩,⟨2,x2,x3,x4⟩]) (by kernel_rfl) rfl (by unfold maxLen;omega) λw2 ho2 x2=>?_;exact ⟨D.trans x2,hR _ _ (aR ho2 D.size) (D.trans x2)⟩
 exact key λr w' h1 h2=>⟨h1,h2⟩
theorem MF {w:Ω} {sa sb x0 x1 x2 x3 x4:Int} {ov:O} (ho:aB w ov 1 5 [i64 x0,i64 x1,i64 x2,i64 x3,i64 x4]):aC prog 102 #[i64 32,i64 sa,i64 sb,ov] w λr w'=>(w'.ownsRow w.heap.size 54 4 r 2 (oY [⟨2,x0,x1,x4⟩,⟨2,x2,x3,x4⟩]))/\aG w w':=by
 apply oX
 have key:∀ {R:O->Ω->Prop},(∀ r w',w'.ownsRow w.heap.size 54 4 r 2 (oY [⟨2,x0,x1,x4⟩,⟨2,x2,x3,x4⟩])->aG w w'->R r w')->fI (i64 32) (i64 sa) (i64 sb) ov w R:=by
  intro R hR;unfold fI;simp only [aF,Int.reduceEq,decide_false,decide_true,aA];refine ⟨λv w'=>v=.bool false/\w'=w,(by first|exact ⟨rfl,rfl⟩|(simp only [aF,Int.reduceEq,decide_false,decide_true,aA,aE];exact ⟨trivial,trivial⟩)|(simp only [aF,Int.reduceEq,decide_false,decide_true,aA,aE];exact ⟨rfl,rfl⟩)),?_⟩;rintro _ w' ⟨rfl,hw⟩ _;have hw:=hw.symm;subst hw;refine aA.2 ?_;refine ⟨λv w'=>v=.bool true/\w'=w,(by first|exact ⟨rfl,rfl⟩|(simp only [aF,Int.reduceEq,decide_false,decide_true,aA,aE];exact ⟨trivial,trivial⟩)|(simp only [aF,Int.reduceEq,decide_false,decide_true,aA,aE];exact ⟨rfl,rfl⟩)),?_⟩;rintro _ w' ⟨rfl,hw⟩ _;have hw:=hw.symm;subst hw;refine aE.2 ?_;have D:aG w w.drew:=(aG.refl _).drew;refine aH.mk' (λw'=>aG w w') D ?_;refine gF aM aL ho (λw' hw=>hw) (by omega) (by omega) (rfl:([i64 x0,i64 x1,i64 x2,i64 x3,i64 x4]:List O)[(0:Int).toNat]?=_) ?_;refine gF aM aL ho (λw' hw=>hw) (by omega) (by omega) (rfl:([i64 x0,i64 x1,i64 x2,i64 x3,i64 x4]:List O)[(1:Int).toNat]?=_) ?_;refine gF aM aL ho (λw' hw=>hw) (by omega) (by omega) (rfl:([i64 x0,i64 x1,i64 x2,i64 x3,i64 x4]:List O)[(4:Int).toNat]?=_) ?_;refine vS tS [(0,i64 2),(1,i64 x0),(2,i64 x1),(3,i64 x4)] rfl rfl ?_;refine gF aM aL ho (λw' hw=>hw) (by omega) (by omega) (rfl:([i64 x0,i64 x1,i64 x2,i64 x3,i64 x4]:List O)[(2:Int).toNat]?=_) ?_
  refine gF aM aL ho (λw' hw=>hw) (by omega) (by omega) (rfl:([i64 x0,i64 x1,i64 x2,i64 x3,i64 x4]:List O)[(3:Int).toNat]?=_) ?_;refine gF aM aL ho (λw' hw=>hw) (by omega) (by omega) (rfl:([i64 x0,i64 x1,i64 x2,i64 x3,i64 x4]:List O)[(4:Int).toNat]?=_) ?_;refine vS tS [(0,i64 2),(1,i64 x2),(2,i64 x3),(3,i64 x4)] rfl rfl ?_;refine OK (cs:=oY [⟨2,x0,x1,x4⟩,⟨2,x2,x3,x4⟩]) (by kernel_rfl) rfl (by unfold maxLen;omega) λw2 ho2 x2=>?_;exact ⟨D.trans x2,hR _ _ (aR ho2 D.size) (D.trans x2)⟩
 exact key λr w' h1 h2=>⟨h1,h2⟩
theorem ME {w:Ω} {sa sb x0 x1 x2:Int} {ov:O} (ho:aB w ov 1 3 [i64 x0,i64 x1,i64 x2]):aC prog 102 #[i64 36,i64 sa,i64 sb,ov] w λr w'=>(w'.ownsRow w.heap.size 54 4 r 1 (oY [⟨2,x0,x1,x2⟩]))/\aG w w':=by
 apply oX
 have key:∀ {R:O->Ω->Prop},(∀ r w',w'.ownsRow w.heap.size 54 4 r 1 (oY [⟨2,x0,x1,x2⟩])->aG w w'->R r w')->fI (i64 36) (i64 sa) (i64 sb) ov w R:=by
  intro R hR;unfold fI;simp only [aF,Int.reduceEq,decide_false,decide_true,aA,aE];refine ⟨λv w'=>v=.bool false/\w'=w,(by first|exact ⟨rfl,rfl⟩|(simp only [aF,Int.reduceEq,decide_false,decide_true,aA,aE];exact ⟨trivial,trivial⟩)|(simp only [aF,Int.reduceEq,decide_false,decide_true,aA,aE];exact ⟨rfl,rfl⟩)),?_⟩;rintro _ w' ⟨rfl,hw⟩ _;have hw:=hw.symm;subst hw;refine aA.2 ?_;refine ⟨λv w'=>v=.bool false/\w'=w,(by first|exact ⟨rfl,rfl⟩|(simp only [aF,Int.reduceEq,decide_false,decide_true,aA,aE];exact ⟨trivial,trivial⟩)|(simp only [aF,Int.reduceEq,decide_false,decide_true,aA,aE];exact ⟨rfl,rfl⟩)),?_⟩;rintro _ w' ⟨rfl,hw⟩ _;have hw:=hw.symm;subst hw;refine aA.2 ?_
  try simp only [aF,Int.reduceEq,decide_false,decide_true,aA,aE]
  have D:aG w w.drew:=(aG.refl _).drew;refine aH.mk' (λw'=>aG w w') D ?_;refine gF aM aL ho (λw' hw=>hw) (by omega) (by omega) (rfl:([i64 x0,i64 x1,i64 x2]:List O)[(0:Int).toNat]?=_) ?_;refine gF aM aL ho (λw' hw=>hw) (by omega) (by omega) (rfl:([i64 x0,i64 x1,i64 x2]:List O)[(1:Int).toNat]?=_) ?_;refine gF aM aL ho (λw' hw=>hw) (by omega) (by omega) (rfl:([i64 x0,i64 x1,i64 x2]:List O)[(2:Int).toNat]?=_) ?_;refine vS tS [(0,i64 2),(1,i64 x0),(2,i64 x1),(3,i64 x2)] rfl rfl ?_;refine OK (cs:=oY [⟨2,x0,x1,x2⟩]) (by kernel_rfl) rfl (by unfold maxLen;omega) λw2 ho2 x2=>?_;exact ⟨D.trans x2,hR _ _ (aR ho2 D.size) (D.trans x2)⟩
 exact key λr w' h1 h2=>⟨h1,h2⟩
theorem aEu {w:Ω} {a b:Int} (ha:-2147483648<=a/\a<=2147483647) (hb:-2147483648<=b/\b<=2147483647) (h0:b≠0):aC prog 68 #[i64 17,i32 a,i32 b] w λr w'=>r=i32 (IntKind.i32.wrap (IntKind.i64.wrap (a.tdiv b)))/\w'=w:=by
 apply OX
 have key:∀ {R:O->Ω->Prop},R (i32 (IntKind.i32.wrap (IntKind.i64.wrap (a.tdiv b)))) w->rD (i64 17) (i32 a) (i32 b) w R:=by
  intro R hR;unfold rD;simp only [aF,Int.reduceEq,decide_false,decide_true,aA,aE];simp only [h0,aA,decide_false];refine V.ok (bE underlying21 underlying2) ?_;refine V.ok (bE underlying21 underlying2) ?_;rw [rP ha,rP hb];exact V.ok (GW h0) (V.ok (bE underlying2 underlying21) hR)
 exact key ⟨rfl,rfl⟩
theorem aEt {w:Ω} {a b:Int} (ha:-2147483648<=a/\a<=2147483647) (hb:-2147483648<=b/\b<=2147483647) (h0:b≠0):aC prog 68 #[i64 18,i32 a,i32 b] w λr w'=>r=i32 (IntKind.i32.wrap (a.tmod b))/\w'=w:=by
 apply OX
 have key:∀ {R:O->Ω->Prop},R (i32 (IntKind.i32.wrap (a.tmod b))) w->rD (i64 18) (i32 a) (i32 b) w R:=by
  intro R hR;unfold rD;simp only [aF,Int.reduceEq,decide_false,decide_true,aA,aE];simp only [h0,aA,decide_false];refine V.ok (bE underlying21 underlying2) ?_;refine V.ok (bE underlying21 underlying2) ?_;rw [rP ha,rP hb];exact V.ok (DU h0) (V.ok (bE underlying2 underlying21) hR)
 exact key ⟨rfl,rfl⟩
theorem DX {op:Int} {nn:Nat} {q:QP} {w:Ω} {who sa sb:Int} {av:O} {xs:List Int} {evs:List tL} {R:O->Ω->Prop} (h:dL q w) (hl:q.tr.length<=99000) (hnn:nn<=5) (hev:evs.length<=2)
  (hsv:∀ {w:Ω},aC prog 67 #[i64 op] w λr w'=>r=i64 (nn:Int)/\w'=w)
  (hsh:∀ {w:Ω} {ov:O},aB w ov 1 nn (xs.map i64)->aC prog 102 #[i64 op,i64 sa,i64 sb,ov] w λr w'=>(w'.ownsRow w.heap.size 54 4 r evs.length (oY evs))/\aG w w')
  (hxl:xs.length=nn) (hxs:aB w av 1 nn (xs.map i32)) (hsm:iB xs)
  (hk:∀ w' ov uv',dL { q with uv:=uv',tr:=q.tr++evs } w'->oU q { q with uv:=uv',tr:=q.tr++evs } w w'->(∀ w2,Fr (nG { q with uv:=uv',tr:=q.tr++evs }) w' w2->aB w2 ov 1 nn (xs.map i64))->cJ (oZ q) (i64 who) (i64 op) (i64 sa) (i64 sb) av ov w' R) :
  FE (oZ q) (ubT q) (i64 who) (i64 op) (i64 sa) (i64 sb) av w R:=by
 unfold FE;refine hsv.mono λr w' ⟨hr,hw⟩=>?_;subst hr;have hw:=hw.symm;subst hw;refine gG bX hxs (aS.2 (aK (λhn=>absurd rfl hn) λ_=>?_));refine ⟨λv v' w'=>∃ i:Nat,v'=i64 i/\i<=nn/\aG w w'/\w'.ownsRow w.heap.size 3 1 v i ((xs.take i).map i64),λ_ v _=>nn - (RowKit.intOf v).toNat,⟨0,rfl,Nat.zero_le _,aG.refl _,by rw [List.take_zero];exact World.ownsRow_nil _ _ _ _⟩,?_⟩;rintro ov _ w2 ⟨i,rfl,hi,x2,ho2⟩ _;refine gG bX (hxs.ext x2) ?_;refine aV.2 (aK (λhlt=>?_) λhge=>?_)
 ·obtain ⟨z,hz⟩:=bH (l:=xs) (j:=i) (by omega);have hzb:-2147483648<=z/\z<=2147483647:=hsm z (List.mem_of_getElem? hz);refine nO bX cE (hxs.ext x2) (by omega) (by omega) (by simp [hz]:(xs.map i32)[((i:Nat):Int).toNat]?=some (i32 z)) ?_;refine V.ok (bE underlying21 underlying3) ?_;rw [aX (by omega)];refine mF bU [i64 z] rfl rfl (by simp) rfl λv3 w3 ho3 x3=>?_;have X3:=x2.trans x3;refine apS bU (x3.own ho2) (aB.of_own ho3) (by simp [cB]) (by omega) (by unfold maxLen;omega) X3.size λv4 w4 ho4 hg4 _=>?_;refine mH (by omega) ?_;refine ⟨⟨i+1,rfl,by omega,X3.grown hg4 λj hj=>(ho2.lt j hj).1,?_⟩,by simp only [aT];omega⟩;rw [List.take_add_one,hz];simpa using ho4
 have hin:i=nn:=by omega
 subst hin;rw [List.take_of_length_le (by omega)] at ho2;refine (hsh (aB.of_own ho2)).mono λev w3 ⟨he3,x3⟩=>?_;have X3:=x2.trans x3;have ho3:=x3.own ho2;have h3:=h.ext X3;have s2:=x2.size;have s3:=x3.size;have hlow:∀ j,nG q j->j < w.heap.size:=λj hj=>h.hi j (.inl hj);refine ⟨λv w'=>∃ (i:Nat) (uv':O),v=i64 i/\i<=evs.length/\dL { q with uv:=uv',tr:=q.tr++evs.take i } w'/\oU q { q with uv:=uv',tr:=q.tr++evs.take i } w3 w',λv _=>evs.length - (RowKit.intOf v).toNat,⟨0,q.uv,rfl,Nat.zero_le _,by rw [List.take_zero,List.append_nil];exact h3,by rw [List.take_zero,List.append_nil];exact oU.of_ext (aG.refl _)⟩,?_⟩;rintro _ w4 ⟨i,uv',rfl,hi,h4,s4⟩ _;have he4:=s4.fr.own he3 λj hj hm=>by have:=(he3.lt j hj).1;have:=hlow j hm;omega
 refine gG uR (aB.of_own he4) ?_;refine aV.2 (aK (λhlt=>?_) λhge=>?_)
 ·obtain ⟨e,hee⟩:=bH (l:=evs) (j:=i) (by omega);refine aB.ldxE uR RC (aB.of_own he4) (by omega) hee ?_;refine (GI h4 (by show (q.tr++evs.take i).length<=100000;rw [List.length_append];have h9:(evs.take i).length<=evs.length:=(by simp [List.length_take];omega);omega) (e:=e)).mono λ_ w5 ⟨uv5,h5,s5⟩=>?_;refine mH (by omega) ?_;have hte:q.tr++evs.take (i+1)=(q.tr++evs.take i)++[e]:=by rw [List.take_add_one,hee];simp
  exact ⟨⟨i+1,uv5,rfl,by omega,by rw [hte];exact h5,by rw [hte];exact s4.trans s5⟩,by simp only [aT];omega⟩
 have hin:i=evs.length:=by omega
 subst hin;rw [List.take_of_length_le (Nat.le_refl _)] at h4 s4;refine hk w4 ov uv' h4 ((oU.of_ext X3).trans s4) λw5 f5=>?_;have ho4:=s4.fr.own ho3 λj hj hm=>by have:=(ho3.lt j hj).1;have:=hlow j hm;omega
 refine aB.of_own (f5.own ho4 λj hj hm=>?_);have hj3:=(ho3.lt j hj);rcases s4.mm j hm with hm|hm
 ·have:=hlow j hm;omega
 ·omega
def XG (q:QP) (w:Ω) (x:DL) (r:O) (w':Ω):Prop:=∃ q',r=.tuple #[i32 x.1,i64 x.2.1]/\q'.ps=x.2.2/\dL q' w'/\oU q q' w w'
section
variable {q:QP} {w w':Ω} {av ov:O} {R:O->Ω->Prop} {s:PS}
theorem lN (h:dL q w) (hx:aG w w') {x:DL} {r:O} (hr:r=.tuple #[i32 x.1,i64 x.2.1]) (hp:q.ps=x.2.2):XG q w x r w':=⟨q,hr,hp,h.ext hx,oU.of_ext hx⟩
theorem sT (h:dL q w) {k:Nat} {x:dB} (hk:q.ar[k]?=some x) {nn:Nat} {cs:List O} {EK r:Int} (hr:r=(k:Int)+1) (hov:aB w ov 1 nn cs) (h0:0<=EK) (h1:EK < nn) (hget:cs[EK.toNat]?=some (i64 r)) :
  aH w λS w46=>Go.Vc.aI (oZ q)/\aD prog S (Instr.fieldAt 139 (oZ q) 0) λt143=>aD prog S (Instr.loadAt 137 t143) λt144=>aD prog S (Instr.indexAt 42 ov (.int .i64 EK)) λt146=>aD prog S (Instr.loadAt 3 t146) λt147=>
   (aC prog 105 #[t144,t147] w46 λt148 w47=>S w47/\aD prog S (Instr.extract t148 0) λt149=>aD prog S (Instr.extract t148 1) λ_=>V prog (Instr.alloc 127 true (.tuple #[])) w47 λt23 w48=>S w48/\U prog (Instr.storeAt 127 t23 t149) w48 λ_ w49=>S w49/\(∃ b,t23=.pointer (some ⟨b,0,none⟩)/\gD w49 b x.cells/\aG w w49)) /\
   (V prog (Instr.alloc 127 true (.tuple #[])) w46 λt23 w50=>S w50/\aC prog 105 #[t144,t147] w50 λt148 w51=>S w51/\aD prog S (Instr.extract t148 0) λt149=>aD prog S (Instr.extract t148 1) λ_=>U prog (Instr.storeAt 127 t23 t149) w51 λ_ w52=>S w52/\(∃ b,t23=.pointer (some ⟨b,0,none⟩)/\gD w52 b x.cells/\aG w w52)):=by
 have D:aG w w.drew:=(aG.refl _).drew;refine aH.mk' (λw'=>aG w w') D ⟨.inl ⟨_,rfl⟩,?_⟩;refine dT (λw' hw=>(h.xbox.ext hw).boxed) bJ dE rfl ?_;refine gF aM aL hov (λw' hw=>hw) h0 h1 hget ?_;refine ⟨?_,?_⟩
 ·refine (EQ (h.ext D) hk hr).mono λv w1 ⟨hv,x1⟩=>?_;subst hv;have X1:=D.trans x1;refine ⟨X1,?_⟩;refine aD.ok (λw' _=>iQ) ?_;refine aD.ok (λw' _=>iP) ?_;refine MA gK λw2 hb x2=>?_;have X2:=X1.trans x2;refine ⟨X2,?_⟩;refine GF gK hb (l:=x.cells) rfl rfl rfl (gS (h.one hk)) λw3 hb3 hch=>?_;have X3:=hch.ext w X2 X1.size;exact ⟨X3,_,rfl,hb3.boxed,X3⟩
 ·refine MA gK λw2 hb x2=>?_;have X2:=D.trans x2;refine ⟨X2,?_⟩;refine (EQ (h.ext X2) hk hr).mono λv w3 ⟨hv,x3⟩=>?_;subst hv;have X3:=X2.trans x3;refine ⟨X3,?_⟩;refine aD.ok (λw' _=>iQ) ?_;refine aD.ok (λw' _=>iP) ?_;refine GF gK (hb.ext x3) (l:=x.cells) rfl rfl rfl (gS (h.one hk)) λw4 hb4 hch=>?_;have X4:=hch.ext w X3 D.size;exact ⟨X4,_,rfl,hb4.boxed,X4⟩
theorem aAt (h:dL q w) {w2:Ω} (f:Fr (λi=>i=q.yb) w w2):gD w2 q.xb [.pointer (some ⟨q.yb,0,none⟩),q.iv,q.fv,q.pub,q.sec]:=(f.seg h.xbox h.xy).boxed
theorem CW {w2:Ω} (f:Fr (λi=>i=q.yb) w w2):Fr (nG q) w w2:=f.mono λ_ hi=>.inr (.inl hi)
theorem bO {w2:Ω} (x:aG w w2):Fr (nG q) w w2:=Fr.of_ext x
theorem QY {l:List PA} {r:Int} (h:∀ x∈l,qD x.data):qD (mM l r):=by
 unfold mM;cases hg:l[r.toNat - 1]? with
 | none=>exact λb hb=>by cases hb
 | some x=>exact h x (List.mem_of_getElem? hg)
theorem UN:∀ {a b:List Int},qD a->qD b->(strOfNums a).toList=(strOfNums b).toList->a=b:=by
 intro a b ha hb h
 have h2:(a.map λn=>UInt8.ofNat n.toNat)=b.map λn=>UInt8.ofNat n.toNat:=by
  rw [ByteArray.toList_eq,ByteArray.toList_eq] at h;exact h
 clear h;induction a generalizing b with
 | nil=>cases b with
  | nil=>rfl
  | cons y b=>simp at h2
 | cons x a ih=>cases b with
  | nil=>simp at h2
  | cons y b=>
   simp only [List.map_cons,List.cons.injEq] at h2;have hx:=ha x (by simp);have hy:=hb y (by simp)
   have:x.toNat % 256=y.toNat % 256:=by
    have:=congrArg UInt8.toNat h2.1;simpa [UInt8.toNat_ofNat] using this
   have hxy:x=y:=by omega
   rw [hxy,ih (λz hz=>ha z (by simp [hz])) (λz hz=>hb z (by simp [hz])) h2.2]
theorem aLs (h:dL q w) {who sa sb a b:Int} (hov:∀ w2,Fr (nG q) w w2->aB w2 ov 1 2 [i64 a,i64 b]) (hav:aB w av 1 2 [i32 a,i32 b]) (ha:-2147483648<=a/\a<=2147483647) (hb:-2147483648<=b/\b<=2147483647) (hps:q.ps=s) (hk:∀ r w',XG q w (rL s a b) r w'->R r w') :
  cJ (oZ q) (i64 who) (i64 17) (i64 sa) (i64 sb) av ov w R:=by
 unfold cJ;refine ⟨λv w'=>v=.bool true/\w'=w,(by first|exact ⟨rfl,rfl⟩|(try simp only [aF,Int.reduceEq,decide_false,decide_true,aE];exact ⟨trivial,trivial⟩)|(try simp only [aF,Int.reduceEq,decide_false,decide_true,aA,aE];exact ⟨rfl,rfl⟩)),?_⟩;rintro _ w' ⟨rfl,hw⟩ _;have hw:=hw.symm;subst hw;refine aE.2 ?_;refine nO aM aL (hov w (Fr.refl _ _)) (by omega) (by omega) (rfl:([i64 a,i64 b]:List O)[(1:Int).toNat]?=_) ?_;refine aF.2 (aK (λh0=>hk _ _ (lN h (aG.refl _) ?_ ?_)) λh0=>?_)
 ·unfold rL;rw [if_pos h0]
 ·unfold rL;rw [if_pos h0];exact hps
 have D:aG w w.drew:=(aG.refl _).drew;refine aH.mk' (λw'=>aG w w') D ?_;refine gF bX cE hav (λw' hw=>hw) (by omega) (by omega) (rfl:([i32 a,i32 b]:List O)[(0:Int).toNat]?=_) ?_;refine gF bX cE hav (λw' hw=>hw) (by omega) (by omega) (rfl:([i32 a,i32 b]:List O)[(1:Int).toNat]?=_) ?_;refine (aEu ha hb h0).mono λr w1 ⟨hr,hw⟩=>?_;subst hr;have hw:=hw.symm;subst hw;refine ⟨D,hk _ _ (lN h D ?_ ?_)⟩
 ·unfold rL;rw [if_neg h0]
 ·unfold rL;rw [if_neg h0];exact hps
theorem aLr (h:dL q w) {who sa sb a b:Int} (hov:∀ w2,Fr (nG q) w w2->aB w2 ov 1 2 [i64 a,i64 b]) (hav:aB w av 1 2 [i32 a,i32 b]) (ha:-2147483648<=a/\a<=2147483647) (hb:-2147483648<=b/\b<=2147483647) (hps:q.ps=s) (hk:∀ r w',XG q w (rK s a b) r w'->R r w') :
  cJ (oZ q) (i64 who) (i64 18) (i64 sa) (i64 sb) av ov w R:=by
 unfold cJ;refine ⟨λv w'=>v=.bool true/\w'=w,(by first|exact ⟨rfl,rfl⟩|(try simp only [aF,Int.reduceEq,decide_false,decide_true,aA];exact ⟨trivial,trivial⟩)|(try simp only [aF,Int.reduceEq,decide_false,decide_true,aA,aE];exact ⟨rfl,rfl⟩)),?_⟩;rintro _ w' ⟨rfl,hw⟩ _;have hw:=hw.symm;subst hw;refine aE.2 ?_;refine nO aM aL (hov w (Fr.refl _ _)) (by omega) (by omega) (rfl:([i64 a,i64 b]:List O)[(1:Int).toNat]?=_) ?_;refine aF.2 (aK (λh0=>hk _ _ (lN h (aG.refl _) ?_ ?_)) λh0=>?_)
 ·unfold rK;rw [if_pos h0]
 ·unfold rK;rw [if_pos h0];exact hps
 have D:aG w w.drew:=(aG.refl _).drew;refine aH.mk' (λw'=>aG w w') D ?_;refine gF bX cE hav (λw' hw=>hw) (by omega) (by omega) (rfl:([i32 a,i32 b]:List O)[(0:Int).toNat]?=_) ?_;refine gF bX cE hav (λw' hw=>hw) (by omega) (by omega) (rfl:([i32 a,i32 b]:List O)[(1:Int).toNat]?=_) ?_;refine (aEt ha hb h0).mono λr w1 ⟨hr,hw⟩=>?_;subst hr;have hw:=hw.symm;subst hw;refine ⟨D,hk _ _ (lN h D ?_ ?_)⟩
 ·unfold rK;rw [if_neg h0]
 ·unfold rK;rw [if_neg h0];exact hps
theorem GT {kd:Int} (hkd:kd=3\/kd=4) (h:dL q w) {who sb n:Int} (hsb:0<=sb/\sb < 7) (hov:∀ w2,Fr (nG q) w w2->aB w2 ov 1 1 [i64 n]) (hps:q.ps=s.ev [⟨3,kd,sb,n⟩]) (hk:∀ r w',XG q w (kN s who kd sb n) r w'->R r w') :
  cJ (oZ q) (i64 who) (i64 27) (i64 kd) (i64 sb) av ov w R:=by
 have har:q.ar.map pa=s.ar:=congrArg PS.ar hps;have hsz:q.size=s.size:=congrArg PS.size hps;have hlen:q.ar.length=s.ar.length:=by rw [<- har,List.length_map]
 have g0:([i64 n]:List O)[(0:Int).toNat]?=some (i64 n):=rfl;have hov0:=hov w (Fr.refl _ _);unfold cJ;refine ⟨λv w'=>v=.bool false/\w'=w,(by first|exact ⟨rfl,rfl⟩|(try simp only [aF,Int.reduceEq,decide_false,aA];exact ⟨trivial,trivial⟩)|(try simp only [aF,Int.reduceEq,decide_false,decide_true,aA,aE];exact ⟨rfl,rfl⟩)),?_⟩;rintro _ w' ⟨rfl,hw⟩ _;have hw:=hw.symm;subst hw;refine aA.2 ?_
 try simp only [aF,Int.reduceEq,decide_false,decide_true,aA,aE]
 refine nO aM aL hov0 (by omega) (by omega) g0 ?_;refine aV.2 ?_;by_cases hn0:n < 0
 ·simp only [hn0,kB,aJ,aE,reduceIte,decide_true];refine hk _ _ (lN h (aG.refl _) ?_ ?_)<;>unfold kN<;>rw [if_pos (.inl hn0)];exact hps
 simp only [hn0,dJ,aJ,reduceIte,Bool.false_eq_true,decide_false];refine nO aM aL hov0 (by omega) (by omega) g0 ?_;refine dR.2 ?_;by_cases hn1:n > 64
 ·simp only [hn1,aE,decide_true];refine hk _ _ (lN h (aG.refl _) ?_ ?_)<;>unfold kN<;>rw [if_pos (.inr hn1)];exact hps
 simp only [hn1,aA,decide_false];have hnn:¬ (n < 0\/n > 64):=by omega
 obtain ⟨n,rfl⟩:∃ m:Nat,n=m:=⟨n.toNat,by omega⟩;have D:aG w w.drew:=(aG.refl _).drew
 have hlf:(IntKind.i64.wrap (sb.tmod 4+4)).tmod 4=rF sb:=by
  have h7:sb=0\/sb=1\/sb=2\/sb=3\/sb=4\/sb=5\/sb=6:=by omega
  rcases h7 with rfl|rfl|rfl|rfl|rfl|rfl|rfl<;>decide
 have hlife:0<=rF sb/\rF sb<=3:=by
  have h7:sb=0\/sb=1\/sb=2\/sb=3\/sb=4\/sb=5\/sb=6:=by omega
  rcases h7 with rfl|rfl|rfl|rfl|rfl|rfl|rfl<;>decide
 refine aH.mk' (λw'=>Fr (λi=>i=q.yb) w w') (Fr.of_ext D) ⟨.inl ⟨_,rfl⟩,?_⟩;refine dT (λw' hw=>aAt h hw) bJ dE rfl ?_;refine aD.ok (λw' _=>DU (by decide)) ?_;refine aD.ok (λw' _=>nW) ?_;refine aD.ok (λw' _=>DU (by decide)) ?_;rw [hlf];refine aD.ok (λw' _=>BV) ?_;refine eY aM aL hov0 (λw' hw=>hov w' (CW hw)) (by omega) (by omega) g0 ?_;refine (OR hkd (h.ext D) hlife (n:=n) (by omega)).mono λv w4 hq=>?_;rw [har] at hq;rcases hq with ⟨hfull,rfl,x4⟩|⟨hroom,rfl,g',cap',dv,h5,s5,f5⟩
 ·refine ⟨Fr.of_ext (D.trans x4),?_⟩;refine aD.ok (λw' _=>iQ) ?_;refine aD.ok (λw' _=>iP) ?_;refine fN.2 (aE.2 ?_);refine hk _ _ (lN h (D.trans x4) ?_ ?_)<;>unfold kN<;>rw [if_neg hnn,if_pos (show rF sb > 2\/8+(n:Int) > s.size - lM s.ar from hsz▸hfull)];exact hps
 ·refine ⟨(Fr.of_ext (S:=λi=>i=q.yb) D).trans f5 λ_ _ h=>h,?_⟩;refine aD.ok (λw' _=>iQ) ?_;refine aD.ok (λw' _=>iP) ?_;refine fN.2 (aA.2 ?_);refine V.ok (bE underlying3 underlying21) ?_;have hroom':¬ (rF sb > 2\/8+(n:Int) > s.size - lM s.ar):=hsz▸hroom;refine hk _ _ ⟨_,?_,?_,h5,(oU.of_ext D).trans s5⟩
  ·unfold kN;rw [if_neg hnn,if_neg hroom',hlen]
  ·unfold kN;rw [if_neg hnn,if_neg hroom'];show (⟨q.size,(q.ar++[_]).map pa,q.tp,q.ts,q.tr⟩:PS)=_;rw [List.map_append,har];have e:=hps;have e1:q.tp=s.tp:=congrArg PS.tp e;have e2:q.ts=s.ts:=congrArg PS.ts e;have e3:q.tr=s.tr++[⟨3,kd,sb,n⟩]:=congrArg PS.tr e;rw [e1,e2,e3,hsz];simp only [Int.toNat_natCast];rfl
theorem aLq (h:dL q w) {who sa sb r:Int} (hov:∀ w2,Fr (nG q) w w2->aB w2 ov 1 1 [i64 r]) (hps:q.ps=s.ev [⟨2,r,0,0⟩]) (hk:∀ u w',XG q w (rT s who r) u w'->R u w') :
  cJ (oZ q) (i64 who) (i64 28) (i64 sa) (i64 sb) av ov w R:=by
 have har:q.ar.map pa=s.ar:=congrArg PS.ar hps;have hov0:=hov w (Fr.refl _ _);have g0:([i64 r]:List O)[(0:Int).toNat]?=some (i64 r):=rfl;have D:aG w w.drew:=(aG.refl _).drew;unfold cJ;refine ⟨λv w'=>v=.bool false/\w'=w,(by first|exact ⟨rfl,rfl⟩|(try simp only [aF,Int.reduceEq,decide_false,aA];exact ⟨trivial,trivial⟩)|(try simp only [aF,Int.reduceEq,decide_false,decide_true,aA,aE];exact ⟨rfl,rfl⟩)),?_⟩;rintro _ w' ⟨rfl,hw⟩ _;have hw:=hw.symm;subst hw;refine aA.2 ?_
 try simp only [aF,Int.reduceEq,decide_false,decide_true,aA,aE]
 have hce:GG q.ar r who=wZ s.ar r who:=by rw [OI,har]
 refine aH.mk' (λw'=>aG w w') D ⟨.inl ⟨_,rfl⟩,?_⟩;refine dT (λw' hw=>(h.xbox.ext hw).boxed) bJ dE rfl ?_;refine eY aM aL hov0 (λw' hw=>hov w' (bO hw)) (by omega) (by omega) g0 ?_;refine (CZ (h.ext D)).mono λv w1 ⟨hv,x1⟩=>?_;subst hv;have X1:=D.trans x1;refine ⟨X1,aS.2 (aK (λhne=>?_) λhfine=>?_)⟩
 ·refine hk _ _ (lN h X1 ?_ ?_)<;>unfold rT<;>rw [if_neg (by rw [<- hce];exact hne)]
  ·rw [<- hce]
  ·exact hps
 have hf:GG q.ar r who=36864:=Classical.not_not.1 hfine;obtain ⟨k,x,hk2,hr,hm⟩:=sR hf;refine ⟨_,sT (h.ext X1) hk2 hr (hov w1 (bO X1)) (by omega) (by omega) g0,?_⟩;rintro _ w2 ⟨b,rfl,hbx,x2⟩ _;refine bA hbx bL fS rfl (gG jQ (aB.of_own ((X1.trans x2).own (h.data x (List.mem_of_getElem? hk2)))) ?_);refine V.ok (bE underlying3 underlying21) (hk _ _ (lN h (X1.trans x2) ?_ ?_))<;>unfold rT<;>rw [if_pos (by rw [<- hce];exact hf)]
 ·rw [<- har,show mM (q.ar.map pa) r=x.data from kJ hk2 hr]
 ·exact hps
theorem aLp (h:dL q w) {who sa sb r a:Int} (hov:∀ w2,Fr (nG q) w w2->aB w2 ov 1 2 [i64 r,i64 a]) (hps:q.ps=s.ev [⟨2,r,a,1⟩]) (hk:∀ u w',XG q w (rU s who r a) u w'->R u w') :
  cJ (oZ q) (i64 who) (i64 29) (i64 sa) (i64 sb) av ov w R:=by
 have har:q.ar.map pa=s.ar:=congrArg PS.ar hps;have hov0:=hov w (Fr.refl _ _);have g0:([i64 r,i64 a]:List O)[(0:Int).toNat]?=some (i64 r):=rfl;have g1:([i64 r,i64 a]:List O)[(1:Int).toNat]?=some (i64 a):=rfl;have D:aG w w.drew:=(aG.refl _).drew;unfold cJ;refine ⟨λv w'=>v=.bool false/\w'=w,(by first|exact ⟨rfl,rfl⟩|(try simp only [aF,Int.reduceEq,decide_false,aA];exact ⟨trivial,trivial⟩)|(try simp only [aF,Int.reduceEq,decide_false,decide_true,aA,aE];exact ⟨rfl,rfl⟩)),?_⟩;rintro _ w' ⟨rfl,hw⟩ _;have hw:=hw.symm;subst hw;refine aA.2 ?_
 try simp only [aF,Int.reduceEq,decide_false,decide_true,aA,aE]
 refine ⟨λv w'=>v=.bool true/\w'=w,(by first|exact ⟨rfl,rfl⟩|(try simp only [aF,Int.reduceEq,decide_false,decide_true,aA,aE];exact ⟨trivial,trivial⟩)|(try simp only [aF,Int.reduceEq,decide_false,decide_true,aA,aE];exact ⟨rfl,rfl⟩)),?_⟩;rintro _ w' ⟨rfl,hw⟩ _;have hw:=hw.symm;subst hw;refine aE.2 ?_;refine aH.mk' (λw'=>aG w w') D ⟨.inl ⟨_,rfl⟩,?_⟩;refine dT (λw' hw=>(h.xbox.ext hw).boxed) bJ dE rfl ?_;refine eY aM aL hov0 (λw' hw=>hov w' (bO hw)) (by omega) (by omega) g0 ?_;refine eY aM aL hov0 (λw' hw=>hov w' (bO hw)) (by omega) (by omega) g1 ?_;refine (mA (h.ext D)).mono λv w1 ⟨hv,x1⟩=>?_;subst hv;have X1:=D.trans x1;rw [har];refine ⟨X1,aS.2 (aK (λhne=>?_) λhfine=>?_)⟩
 ·refine hk _ _ (lN h X1 ?_ ?_)<;>unfold rU<;>rw [if_neg hne];exact hps
 have hf:iS s.ar r a 1 who=36864:=Classical.not_not.1 hfine;obtain ⟨k,x,hk2,hr,hm,ha0,_,han⟩:=gW ((kH q.ar r a 1 who).trans (by rw [har];exact hf));obtain ⟨a,rfl⟩:∃ n:Nat,a=n:=⟨a.toNat,by omega⟩
 try simp only [aF,Int.reduceEq,decide_false,decide_true,aA,aE]
 refine ⟨_,sT (h.ext X1) hk2 hr (hov w1 (bO X1)) (by omega) (by omega) g0,?_⟩;rintro _ w2 ⟨b,rfl,hbx,x2⟩ _;have X2:=X1.trans x2;have D2:aG w2 w2.drew:=(aG.refl _).drew;refine aH.mk' (λw'=>aG w2 w') D2 ?_;refine dT (λw' hw=>hbx.ext hw) bL fS rfl ?_;refine gF aM aL (hov w2 (bO X2)) (λw' hw=>hw) (by omega) (by omega) g1 ?_;refine gF jQ vZ (aB.of_own (X2.own (h.data x (List.mem_of_getElem? hk2)))) (λw' hw=>hw) (by omega) (by omega) (tE (by omega)) ?_;refine aD.ok (λw' _=>bE underlying5 underlying21) ?_;refine hk _ _ (lN h (X2.trans D2) ?_ ?_)<;>unfold rU<;>rw [if_pos hf]
 ·rw [<- har,show mM (q.ar.map pa) r=x.data from kJ hk2 hr,Int.toNat_natCast]
 ·exact hps
theorem aLo (h:dL q w) {who sa sb r a z:Int} (hov:∀ w2,Fr (nG q) w w2->aB w2 ov 1 3 [i64 r,i64 a,i64 z]) (hps:q.ps=s.ev [⟨2,r,a,1⟩]) (hk:∀ u w',XG q w (rS s who r a z) u w'->R u w') :
  cJ (oZ q) (i64 who) (i64 30) (i64 sa) (i64 sb) av ov w R:=by
 have har:q.ar.map pa=s.ar:=congrArg PS.ar hps;have hov0:=hov w (Fr.refl _ _);have g0:([i64 r,i64 a,i64 z]:List O)[(0:Int).toNat]?=some (i64 r):=rfl;have g1:([i64 r,i64 a,i64 z]:List O)[(1:Int).toNat]?=some (i64 a):=rfl;have g2:([i64 r,i64 a,i64 z]:List O)[(2:Int).toNat]?=some (i64 z):=rfl;have D:aG w w.drew:=(aG.refl _).drew;unfold cJ;refine ⟨λv w'=>v=.bool false/\w'=w,(by first|exact ⟨rfl,rfl⟩|(try simp only [aF,Int.reduceEq,decide_false,aA];exact ⟨trivial,trivial⟩)|(try simp only [aF,Int.reduceEq,decide_false,decide_true,aA,aE];exact ⟨rfl,rfl⟩)),?_⟩;rintro _ w' ⟨rfl,hw⟩ _;have hw:=hw.symm;subst hw;refine aA.2 ?_
 try simp only [aF,Int.reduceEq,decide_false,decide_true,aA,aE]
 refine ⟨λv w'=>v=.bool true/\w'=w,(by first|exact ⟨rfl,rfl⟩|(try simp only [aF,Int.reduceEq,decide_false,decide_true,aA,aE];exact ⟨trivial,trivial⟩)|(try simp only [aF,Int.reduceEq,decide_false,decide_true,aA,aE];exact ⟨rfl,rfl⟩)),?_⟩;rintro _ w' ⟨rfl,hw⟩ _;have hw:=hw.symm;subst hw;refine aE.2 ?_;refine aH.mk' (λw'=>aG w w') D ⟨.inl ⟨_,rfl⟩,?_⟩;refine dT (λw' hw=>(h.xbox.ext hw).boxed) bJ dE rfl ?_;refine eY aM aL hov0 (λw' hw=>hov w' (bO hw)) (by omega) (by omega) g0 ?_;refine eY aM aL hov0 (λw' hw=>hov w' (bO hw)) (by omega) (by omega) g1 ?_;refine (mA (h.ext D)).mono λv w1 ⟨hv,x1⟩=>?_;subst hv;have X1:=D.trans x1;rw [har];refine ⟨X1,aS.2 (aK (λhne=>?_) λhfine=>?_)⟩
 ·refine hk _ _ (lN h X1 ?_ ?_)<;>unfold rS<;>rw [if_neg hne];exact hps
 have hf:iS s.ar r a 1 who=36864:=Classical.not_not.1 hfine;obtain ⟨k,x,hk2,hr,hm,ha0,_,han⟩:=gW ((kH q.ar r a 1 who).trans (by rw [har];exact hf));obtain ⟨a,rfl⟩:∃ n:Nat,a=n:=⟨a.toNat,by omega⟩
 try simp only [aF,Int.reduceEq,decide_false,decide_true,aA,aE]
 have D1:aG w1 w1.drew:=(aG.refl _).drew;have X2:=X1.trans D1;refine aH.mk' (λw'=>Fr (λi=>i=q.yb) w w') (Fr.of_ext X2) ⟨.inl ⟨_,rfl⟩,?_⟩;refine dT (λw' hw=>aAt h hw) bJ dE rfl ?_;refine eY aM aL hov0 (λw' hw=>hov w' (CW hw)) (by omega) (by omega) g0 ?_;refine eY aM aL hov0 (λw' hw=>hov w' (CW hw)) (by omega) (by omega) g1 ?_;refine eY aM aL hov0 (λw' hw=>hov w' (CW hw)) (by omega) (by omega) g2 ?_;refine aD.ok (λw' _=>bE underlying3 underlying5) ?_;refine mF mQ [u8 (IntKind.u8.wrap z)] rfl rfl (by simp) rfl λsv w3 ho3 x3=>?_;have X3:=X2.trans x3;refine ⟨Fr.of_ext X3,?_⟩;refine (QQ (h.ext X3) hk2 hr (a:=a) (S:=[IntKind.u8.wrap z]) (aB.of_own ho3) (by simp;omega)).mono λ_ w4 ⟨g',cap',dv,h5,s5,f5⟩=>?_;refine ⟨(Fr.of_ext (S:=λi=>i=q.yb) X3).trans f5 λ_ _ h=>h,hk _ _ ⟨_,?_,?_,h5,(oU.of_ext X3).trans s5⟩⟩<;>unfold rS<;>rw [if_pos hf]
 ·rw [<- har,show mM (q.ar.map pa) r=x.data from kJ hk2 hr,Int.toNat_natCast]
  have hset:x.data.take a++[IntKind.u8.wrap z]++x.data.drop (a+[IntKind.u8.wrap z].length)=x.data.set a (IntKind.u8.wrap z):=by
   rw [List.set_eq_take_append_cons_drop,if_pos (by omega)];simp
  rw [hset];show (⟨q.size,(q.ar.set k { x with dv:=dv,data:=x.data.set a (IntKind.u8.wrap z) }).map pa,q.tp,q.ts,q.tr⟩:PS)=_;rw [vU hk2 hr];have e1:q.tp=s.tp:=congrArg PS.tp hps;have e2:q.ts=s.ts:=congrArg PS.ts hps;have e3:q.tr=s.tr++[⟨2,r,(a:Int),1⟩]:=congrArg PS.tr hps;have e4:q.size=s.size:=congrArg PS.size hps;rw [e1,e2,e3,e4];rfl
theorem aLn (h:dL q w) {who sa sb r1 a1 r2 a2 n:Int} (_:∀ x∈s.ar,qD x.data) (hov:∀ w2,Fr (nG q) w w2->aB w2 ov 1 5 [i64 r1,i64 a1,i64 r2,i64 a2,i64 n]) (hps:q.ps=s.ev2 r1 a1 r2 a2 n) (hk:∀ u w',XG q w (mR s who r1 a1 r2 a2 n) u w'->R u w') :
  cJ (oZ q) (i64 who) (i64 31) (i64 sa) (i64 sb) av ov w R:=by
 have har:q.ar.map pa=s.ar:=congrArg PS.ar hps;have hov0:=hov w (Fr.refl _ _);have g0:([i64 r1,i64 a1,i64 r2,i64 a2,i64 n]:List O)[(0:Int).toNat]?=some (i64 r1):=rfl;have g1:([i64 r1,i64 a1,i64 r2,i64 a2,i64 n]:List O)[(1:Int).toNat]?=some (i64 a1):=rfl;have g2:([i64 r1,i64 a1,i64 r2,i64 a2,i64 n]:List O)[(2:Int).toNat]?=some (i64 r2):=rfl;have g3:([i64 r1,i64 a1,i64 r2,i64 a2,i64 n]:List O)[(3:Int).toNat]?=some (i64 a2):=rfl;have g4:([i64 r1,i64 a1,i64 r2,i64 a2,i64 n]:List O)[(4:Int).toNat]?=some (i64 n):=rfl;have D:aG w w.drew:=(aG.refl _).drew;unfold cJ;refine ⟨λv w'=>v=.bool false/\w'=w,(by first|exact ⟨rfl,rfl⟩|(try simp only [aF,Int.reduceEq,decide_false,aA];exact ⟨trivial,trivial⟩)|(try simp only [aF,Int.reduceEq,decide_false,decide_true,aA,aE];exact ⟨rfl,rfl⟩)),?_⟩;rintro _ w' ⟨rfl,hw⟩ _;have hw:=hw.symm;subst hw;refine aA.2 ?_
 try simp only [aF,Int.reduceEq,decide_false,decide_true,aA,aE]
 refine ⟨λv w'=>v=.bool false/\w'=w,(by first|exact ⟨rfl,rfl⟩|(try simp only [aF,Int.reduceEq,decide_false,decide_true,aA,aE];exact ⟨trivial,trivial⟩)|(try simp only [aF,Int.reduceEq,decide_false,decide_true,aA,aE];exact ⟨rfl,rfl⟩)),?_⟩;rintro _ w' ⟨rfl,hw⟩ _;have hw:=hw.symm;subst hw;refine aA.2 ?_;refine ⟨λv w'=>v=.bool true/\w'=w,(by first|exact ⟨rfl,rfl⟩|(try simp only [aF,Int.reduceEq,decide_false,decide_true,aA,aE];exact ⟨trivial,trivial⟩)|(try simp only [aF,Int.reduceEq,decide_false,decide_true,aA,aE];exact ⟨rfl,rfl⟩)),?_⟩;rintro _ w' ⟨rfl,hw⟩ _;have hw:=hw.symm;subst hw;refine aE.2 ?_;refine aH.mk' (λw'=>aG w w') D ⟨.inl ⟨_,rfl⟩,?_⟩;refine dT (λw' hw=>(h.xbox.ext hw).boxed) bJ dE rfl ?_;refine eY aM aL hov0 (λw' hw=>hov w' (bO hw)) (by omega) (by omega) g0 ?_;refine eY aM aL hov0 (λw' hw=>hov w' (bO hw)) (by omega) (by omega) g1 ?_;refine eY aM aL hov0 (λw' hw=>hov w' (bO hw)) (by omega) (by omega) g4 ?_;refine (mA (h.ext D)).mono λv w1 ⟨hv,x1⟩=>?_;subst hv;have X1:=D.trans x1;rw [har];refine ⟨X1,aS.2 (aK (λhne=>?_) λhf1=>?_)⟩
 ·have hb:kX s who r1 a1 r2 a2 n=iS s.ar r1 a1 n who:=by unfold kX;rw [if_neg hne]
  refine hk _ _ (lN h X1 ?_ ?_)<;>unfold mR<;>rw [if_neg (by rw [hb];exact hne)]
  ·rw [hb]
  ·exact hps
 have hf1:iS s.ar r1 a1 n who=36864:=Classical.not_not.1 hf1;have D1:aG w1 w1.drew:=(aG.refl _).drew;have X1d:=X1.trans D1;refine aH.mk' (λw'=>aG w w') X1d ⟨.inl ⟨_,rfl⟩,?_⟩;refine dT (λw' hw=>(h.xbox.ext hw).boxed) bJ dE rfl ?_;refine eY aM aL hov0 (λw' hw=>hov w' (bO hw)) (by omega) (by omega) g2 ?_;refine eY aM aL hov0 (λw' hw=>hov w' (bO hw)) (by omega) (by omega) g3 ?_;refine eY aM aL hov0 (λw' hw=>hov w' (bO hw)) (by omega) (by omega) g4 ?_;refine (mA (h.ext X1d)).mono λv w2 ⟨hv,x2⟩=>?_;subst hv;have X2:=X1d.trans x2;rw [har];have hb:kX s who r1 a1 r2 a2 n=iS s.ar r2 a2 n who:=by unfold kX;rw [if_pos hf1]
 refine ⟨X2,aS.2 (aK (λhne=>?_) λhf2=>?_)⟩
 ·refine hk _ _ (lN h X2 ?_ ?_)<;>unfold mR<;>rw [if_neg (by rw [hb];exact hne)]
  ·rw [hb]
  ·exact hps
 have hf2:iS s.ar r2 a2 n who=36864:=Classical.not_not.1 hf2;have hfine:kX s who r1 a1 r2 a2 n=36864:=hb.trans hf2;obtain ⟨k1,y1,hk1,hr1,hm1,ha1,hn0,hn1⟩:=gW ((kH q.ar r1 a1 n who).trans (by rw [har];exact hf1));obtain ⟨k2,y2,hk2,hr2,hm2,ha2,_,hn2⟩:=gW ((kH q.ar r2 a2 n who).trans (by rw [har];exact hf2));obtain ⟨n,rfl⟩:∃ m:Nat,n=m:=⟨n.toNat,by omega⟩;obtain ⟨a,rfl⟩:∃ m:Nat,a1=m:=⟨a1.toNat,by omega⟩;obtain ⟨c,rfl⟩:∃ m:Nat,a2=m:=⟨a2.toNat,by omega⟩;have hym1:=List.mem_of_getElem? hk1;have hym2:=List.mem_of_getElem? hk2;have hl1:=h.len y1 hym1;have hl2:=h.len y2 hym2;have d1:mM s.ar r1=y1.data:=by rw [<- har];exact kJ hk1 hr1
 have d2:mM s.ar r2=y2.data:=by rw [<- har];exact kJ hk2 hr2
 refine ⟨_,sT (h.ext X2) hk1 hr1 (hov w2 (bO X2)) (by omega) (by omega) g0,?_⟩;rintro _ w3 ⟨b1,rfl,hbx1,x3⟩ _;have X3:=X2.trans x3;refine ⟨_,sT (h.ext X3) hk2 hr2 (hov w3 (bO X3)) (by omega) (by omega) g2,?_⟩;rintro _ w4 ⟨b2,rfl,hbx2,x4⟩ _;have X4:=X3.trans x4;have D4:aG w4 w4.drew:=(aG.refl _).drew;have X5:=X4.trans D4;have hs2:∀ {w'},aG w w'->aB w' y2.dv 1 y2.data.length (y2.data.map u8):=λhx=>aB.of_own (hx.own (h.data y2 hym2));have hs1:∀ {w'},aG w w'->aB w' y1.dv 1 y1.data.length (y1.data.map u8):=λhx=>aB.of_own (hx.own (h.data y1 hym1));refine aH.mk' (λw'=>aG w4 w') D4 ?_;refine dT (λw' hw=>hbx2.ext hw) bL fS rfl ?_;refine eY aM aL hov0 (λw' hw=>hov w' (bO (X4.trans hw))) (by omega) (by omega) g3 ?_;refine eY aM aL hov0 (λw' hw=>hov w' (bO (X4.trans hw))) (by omega) (by omega) g3 ?_;refine eY aM aL hov0 (λw' hw=>hov w' (bO (X4.trans hw))) (by omega) (by omega) g4 ?_;refine aD.ok (λw' _=>nW) ?_;rw [show IntKind.i64.wrap ((c:Int)+(n:Int))=((c+n:Nat):Int) from by rw [aX (by omega)];omega];obtain ⟨fv,hfr,hfs⟩:=vV (P:=prog) underlying23 pW (hs2 X5) (lo:=some (i64 (c:Int))) (hi':=some (i64 ((c+n:Nat):Int))) (a:=c) (b:=c+n) (.inr rfl) (.inr rfl) (by omega) (by omega);refine aD.ok (λw' _=>hfr w') ?_;have e2:((y2.data.drop c).take n).length=n:=by simp;omega
 have hfB:∀ {w'},aG w w'->cU w' fv ((y2.data.drop c).take n):=λhx=>by
  have:=hfs _ (hs2 hx);unfold cU;rw [e2];simpa using this
 try simp only [aF,Int.reduceEq,decide_false,decide_true,aA,aE]
 have D5:aG w4.drew w4.drew.drew:=(aG.refl _).drew;have X6:=X5.trans D5;refine aH.mk' (λw'=>Fr (λi=>i=q.yb) w w') (Fr.of_ext X6) ⟨.inl ⟨_,rfl⟩,?_⟩;refine dT (λw' hw=>aAt h hw) bJ dE rfl ?_;refine eY aM aL hov0 (λw' hw=>hov w' (CW hw)) (by omega) (by omega) g0 ?_;refine eY aM aL hov0 (λw' hw=>hov w' (CW hw)) (by omega) (by omega) g1 ?_;refine (QQ (h.ext X6) hk1 hr1 (a:=a) (hfB X6) (by rw [e2];omega)).mono λ_ w7 ⟨g',cap',dv,h7,s7,f7⟩=>?_;refine ⟨(Fr.of_ext (S:=λi=>i=q.yb) X6).trans f7 λ_ _ h=>h,hk _ _ ⟨_,?_,?_,h7,(oU.of_ext X6).trans s7⟩⟩<;>unfold mR<;>rw [if_pos hfine]
 ·have ec:aBd s.ar r1 (a:Int) r2 (c:Int) (n:Int)=y1.data.take a++(y2.data.drop c).take n++y1.data.drop (a+((y2.data.drop c).take n).length):=by
   unfold aBd;rw [d1,d2,e2];simp only [Int.toNat_natCast]
  rw [ec,<- har];show (⟨q.size,(q.ar.set k1 { y1 with dv:=dv,data:=y1.data.take a++(y2.data.drop c).take n++y1.data.drop (a+((y2.data.drop c).take n).length) }).map pa,q.tp,q.ts,q.tr⟩:PS)=_;rw [vU hk1 hr1];have e1:q.tp=s.tp:=congrArg PS.tp hps;have e2:q.ts=s.ts:=congrArg PS.ts hps;have e3:q.tr=(s.tr++[⟨2,r1,(a:Int),(n:Int)⟩])++[⟨2,r2,(c:Int),(n:Int)⟩]:=congrArg PS.tr hps;have e4:q.size=s.size:=congrArg PS.size hps;rw [e1,e2,e3,e4];rfl
theorem aLm (h:dL q w) {who sa sb r1 a1 r2 a2 n:Int} (hby:∀ x∈s.ar,qD x.data) (hov:∀ w2,Fr (nG q) w w2->aB w2 ov 1 5 [i64 r1,i64 a1,i64 r2,i64 a2,i64 n]) (hps:q.ps=s.ev2 r1 a1 r2 a2 n) (hk:∀ u w',XG q w (mI s who r1 a1 r2 a2 n) u w'->R u w') :
  cJ (oZ q) (i64 who) (i64 32) (i64 sa) (i64 sb) av ov w R:=by
 have har:q.ar.map pa=s.ar:=congrArg PS.ar hps;have hov0:=hov w (Fr.refl _ _);have g0:([i64 r1,i64 a1,i64 r2,i64 a2,i64 n]:List O)[(0:Int).toNat]?=some (i64 r1):=rfl;have g1:([i64 r1,i64 a1,i64 r2,i64 a2,i64 n]:List O)[(1:Int).toNat]?=some (i64 a1):=rfl;have g2:([i64 r1,i64 a1,i64 r2,i64 a2,i64 n]:List O)[(2:Int).toNat]?=some (i64 r2):=rfl;have g3:([i64 r1,i64 a1,i64 r2,i64 a2,i64 n]:List O)[(3:Int).toNat]?=some (i64 a2):=rfl;have g4:([i64 r1,i64 a1,i64 r2,i64 a2,i64 n]:List O)[(4:Int).toNat]?=some (i64 n):=rfl;have D:aG w w.drew:=(aG.refl _).drew;unfold cJ;refine ⟨λv w'=>v=.bool false/\w'=w,(by first|exact ⟨rfl,rfl⟩|(try simp only [aF,Int.reduceEq,decide_false,aA];exact ⟨trivial,trivial⟩)|(try simp only [aF,Int.reduceEq,decide_false,decide_true,aA,aE];exact ⟨rfl,rfl⟩)),?_⟩;rintro _ w' ⟨rfl,hw⟩ _;have hw:=hw.symm;subst hw;refine aA.2 ?_
 try simp only [aF,Int.reduceEq,decide_false,decide_true,aA]
 refine ⟨λv w'=>v=.bool false/\w'=w,(by first|exact ⟨rfl,rfl⟩|(try simp only [aF,Int.reduceEq,decide_false,decide_true,aA,aE];exact ⟨trivial,trivial⟩)|(try simp only [aF,Int.reduceEq,decide_false,decide_true,aA,aE];exact ⟨rfl,rfl⟩)),?_⟩;rintro _ w' ⟨rfl,hw⟩ _;have hw:=hw.symm;subst hw;refine aA.2 ?_;refine ⟨λv w'=>v=.bool true/\w'=w,(by first|exact ⟨rfl,rfl⟩|(try simp only [aF,Int.reduceEq,decide_false,decide_true,aA,aE];exact ⟨trivial,trivial⟩)|(try simp only [aF,Int.reduceEq,decide_false,decide_true,aA,aE];exact ⟨rfl,rfl⟩)),?_⟩;rintro _ w' ⟨rfl,hw⟩ _;have hw:=hw.symm;subst hw;refine aE.2 ?_;refine aH.mk' (λw'=>aG w w') D ⟨.inl ⟨_,rfl⟩,?_⟩;refine dT (λw' hw=>(h.xbox.ext hw).boxed) bJ dE rfl ?_;refine eY aM aL hov0 (λw' hw=>hov w' (bO hw)) (by omega) (by omega) g0 ?_;refine eY aM aL hov0 (λw' hw=>hov w' (bO hw)) (by omega) (by omega) g1 ?_;refine eY aM aL hov0 (λw' hw=>hov w' (bO hw)) (by omega) (by omega) g4 ?_;refine (mA (h.ext D)).mono λv w1 ⟨hv,x1⟩=>?_;subst hv;have X1:=D.trans x1;rw [har];refine ⟨X1,aS.2 (aK (λhne=>?_) λhf1=>?_)⟩
 ·have hb:kX s who r1 a1 r2 a2 n=iS s.ar r1 a1 n who:=by unfold kX;rw [if_neg hne]
  refine hk _ _ (lN h X1 ?_ ?_)<;>unfold mI<;>rw [if_neg (by rw [hb];exact hne)]
  ·rw [hb]
  ·exact hps
 have hf1:iS s.ar r1 a1 n who=36864:=Classical.not_not.1 hf1;have D1:aG w1 w1.drew:=(aG.refl _).drew;have X1d:=X1.trans D1;refine aH.mk' (λw'=>aG w w') X1d ⟨.inl ⟨_,rfl⟩,?_⟩;refine dT (λw' hw=>(h.xbox.ext hw).boxed) bJ dE rfl ?_;refine eY aM aL hov0 (λw' hw=>hov w' (bO hw)) (by omega) (by omega) g2 ?_;refine eY aM aL hov0 (λw' hw=>hov w' (bO hw)) (by omega) (by omega) g3 ?_;refine eY aM aL hov0 (λw' hw=>hov w' (bO hw)) (by omega) (by omega) g4 ?_;refine (mA (h.ext X1d)).mono λv w2 ⟨hv,x2⟩=>?_;subst hv;have X2:=X1d.trans x2;rw [har];have hb:kX s who r1 a1 r2 a2 n=iS s.ar r2 a2 n who:=by unfold kX;rw [if_pos hf1]
 refine ⟨X2,aS.2 (aK (λhne=>?_) λhf2=>?_)⟩
 ·refine hk _ _ (lN h X2 ?_ ?_)<;>unfold mI<;>rw [if_neg (by rw [hb];exact hne)]
  ·rw [hb]
  ·exact hps
 have hf2:iS s.ar r2 a2 n who=36864:=Classical.not_not.1 hf2;have hfine:kX s who r1 a1 r2 a2 n=36864:=hb.trans hf2;obtain ⟨k1,y1,hk1,hr1,hm1,ha1,hn0,hn1⟩:=gW ((kH q.ar r1 a1 n who).trans (by rw [har];exact hf1));obtain ⟨k2,y2,hk2,hr2,hm2,ha2,_,hn2⟩:=gW ((kH q.ar r2 a2 n who).trans (by rw [har];exact hf2));obtain ⟨n,rfl⟩:∃ m:Nat,n=m:=⟨n.toNat,by omega⟩;obtain ⟨a,rfl⟩:∃ m:Nat,a1=m:=⟨a1.toNat,by omega⟩;obtain ⟨c,rfl⟩:∃ m:Nat,a2=m:=⟨a2.toNat,by omega⟩;have hym1:=List.mem_of_getElem? hk1;have hym2:=List.mem_of_getElem? hk2;have hl1:=h.len y1 hym1;have hl2:=h.len y2 hym2;have d1:mM s.ar r1=y1.data:=by rw [<- har];exact kJ hk1 hr1
 have d2:mM s.ar r2=y2.data:=by rw [<- har];exact kJ hk2 hr2
 refine ⟨_,sT (h.ext X2) hk1 hr1 (hov w2 (bO X2)) (by omega) (by omega) g0,?_⟩;rintro _ w3 ⟨b1,rfl,hbx1,x3⟩ _;have X3:=X2.trans x3;refine ⟨_,sT (h.ext X3) hk2 hr2 (hov w3 (bO X3)) (by omega) (by omega) g2,?_⟩;rintro _ w4 ⟨b2,rfl,hbx2,x4⟩ _;have X4:=X3.trans x4;have D4:aG w4 w4.drew:=(aG.refl _).drew;have X5:=X4.trans D4;have hs2:∀ {w'},aG w w'->aB w' y2.dv 1 y2.data.length (y2.data.map u8):=λhx=>aB.of_own (hx.own (h.data y2 hym2));have hs1:∀ {w'},aG w w'->aB w' y1.dv 1 y1.data.length (y1.data.map u8):=λhx=>aB.of_own (hx.own (h.data y1 hym1));refine aH.mk' (λw'=>aG w4 w') D4 ?_;refine dT (λw' hw=>hbx2.ext hw) bL fS rfl ?_;refine eY aM aL hov0 (λw' hw=>hov w' (bO (X4.trans hw))) (by omega) (by omega) g3 ?_;refine eY aM aL hov0 (λw' hw=>hov w' (bO (X4.trans hw))) (by omega) (by omega) g3 ?_;refine eY aM aL hov0 (λw' hw=>hov w' (bO (X4.trans hw))) (by omega) (by omega) g4 ?_;refine aD.ok (λw' _=>nW) ?_;rw [show IntKind.i64.wrap ((c:Int)+(n:Int))=((c+n:Nat):Int) from by rw [aX (by omega)];omega];obtain ⟨fv,hfr,hfs⟩:=vV (P:=prog) underlying23 pW (hs2 X5) (lo:=some (i64 (c:Int))) (hi':=some (i64 ((c+n:Nat):Int))) (a:=c) (b:=c+n) (.inr rfl) (.inr rfl) (by omega) (by omega);refine aD.ok (λw' _=>hfr w') ?_;have e2:((y2.data.drop c).take n).length=n:=by simp;omega
 have hfB:∀ {w'},aG w w'->cU w' fv ((y2.data.drop c).take n):=λhx=>by
  have:=hfs _ (hs2 hx);unfold cU;rw [e2];simpa using this
 try simp only [aF,Int.reduceEq,decide_false,decide_true,aA,aE]
 have D5:aG w4.drew w4.drew.drew:=(aG.refl _).drew;have X6:=X5.trans D5;refine aH.mk' (λw'=>aG w4 w') (D4.trans D5) ?_;refine dT (λw' hw=>(hbx1.ext x4).ext hw) bL fS rfl ?_;refine eY aM aL hov0 (λw' hw=>hov w' (bO (X4.trans hw))) (by omega) (by omega) g1 ?_;refine eY aM aL hov0 (λw' hw=>hov w' (bO (X4.trans hw))) (by omega) (by omega) g1 ?_;refine eY aM aL hov0 (λw' hw=>hov w' (bO (X4.trans hw))) (by omega) (by omega) g4 ?_;refine aD.ok (λw' _=>nW) ?_;rw [show IntKind.i64.wrap ((a:Int)+(n:Int))=((a+n:Nat):Int) from by rw [aX (by omega)];omega];obtain ⟨tv,htr,hts⟩:=vV (P:=prog) underlying23 pW (hs1 X5) (lo:=some (i64 (a:Int))) (hi':=some (i64 ((a+n:Nat):Int))) (a:=a) (b:=a+n) (.inr rfl) (.inr rfl) (by omega) (by omega);refine aD.ok (λw' _=>htr w') ?_;have e1:((y1.data.drop a).take n).length=n:=by simp;omega
 have htB:∀ {w'},aG w w'->cU w' tv ((y1.data.drop a).take n):=λhx=>by
  have:=hts _ (hs1 hx);unfold cU;rw [e1];simpa using this
 refine aD.ok (λw' hw=>wP underlying23 underlying5 underlying9 (htB (X4.trans hw))) ?_;refine aD.ok (λw' hw=>wP underlying23 underlying5 underlying9 (hfB (X4.trans hw))) ?_;refine aD.ok (λw' _=>sZ) ?_;have o1:qD ((y1.data.drop a).take n):=sA (sB (by rw [<- d1];exact QY hby) a) n;have o2:qD ((y2.data.drop c).take n):=sA (sB (by rw [<- d2];exact QY hby) c) n;have hpar1:vW s.ar r1 (a:Int) (n:Int)=(y1.data.drop a).take n:=by unfold vW;rw [d1];simp only [Int.toNat_natCast]
 have hpar2:vW s.ar r2 (c:Int) (n:Int)=(y2.data.drop c).take n:=by unfold vW;rw [d2];simp only [Int.toNat_natCast]
 by_cases he:(y1.data.drop a).take n=(y2.data.drop c).take n
 ·rw [show ((strOfNums ((y1.data.drop a).take n)).toList == (strOfNums ((y2.data.drop c).take n)).toList)=true by rw [he];simp];refine aE.2 (hk _ _ (lN h X6 ?_ ?_))<;>unfold mI<;>rw [if_pos hfine]
  ·rw [hpar1,hpar2,if_pos he]
  ·exact hps
 ·rw [show ((strOfNums ((y1.data.drop a).take n)).toList == (strOfNums ((y2.data.drop c).take n)).toList)=false by
   rw [beq_eq_false_iff_ne];exact λe=>he (UN o1 o2 e)]
  refine aA.2 (hk _ _ (lN h X6 ?_ ?_))<;>unfold mI<;>rw [if_pos hfine]
  ·rw [hpar1,hpar2,if_neg he]
  ·exact hps
theorem dL.tellS (h:dL q w) {v5:O} {news:List Int} {B:Nat} (ho:w.ownsRow B 5 1 v5 (q.ts++news).length ((q.ts++news).map u8)) (hB:∀ i,B<=i->¬ nG q i/\¬ AR q i) (hle:(q.ts++news).length<=128) :
  dL { q with sec:=v5,ts:=q.ts++news } (w.setCell ⟨q.xb,0+4,none⟩ v5)/\Fr (λi=>i=q.xb) w (w.setCell ⟨q.xb,0+4,none⟩ v5):=by
 have r1:=h.xbox.set (j:=4) (by simp) v5;have f:Fr (λi=>i=q.xb) w (w.setCell ⟨q.xb,0+4,none⟩ v5):=Fr.of_set rfl;have hM:nG q q.xb:=.inl rfl;have hv:∀ i,v5.ownBlock=some i->¬ nG q i:=λi hi=>(hB i (ho.lt i hi).1).1;refine ⟨⟨r1,f.blk h.ybox λe=>h.xy e.symm,f.blk h.ubox λe=>h.xu e.symm,f.own h.list λi hi e=>h.dj i (e▸hM) (.inl (by simpa [Value.ownBlock] using hi.symm)),λa ha=>f.own (h.data a ha) λi hi e=>h.dj i (e▸hM) (.inr (.inl ⟨a,ha,hi⟩)),h.len,f.own h.qp λi hi e=>h.dj i (e▸hM) (.inr (.inr (.inl hi))),f.own (aR ho (Nat.zero_le _)) λi hi e=>hv i hi (e▸hM),h.lp,hle,f.own h.trow λi hi e=>(h.une i hi).1 e,h.xy,h.xu,h.yu,h.une,λi hi hr=>?_,h.two,h.cnt,h.sz⟩,f⟩;rcases hr with hr|hr|hr|hr
 ·exact h.dj i hi (.inl hr)
 ·exact h.dj i hi (.inr (.inl hr))
 ·exact h.dj i hi (.inr (.inr (.inl hr)))
 ·exact hv i hr hi
theorem dL.tellP (h:dL q w) {v5:O} {news:List Int} {B:Nat} (ho:w.ownsRow B 5 1 v5 (q.tp++news).length ((q.tp++news).map u8)) (hB:∀ i,B<=i->¬ nG q i/\¬ AR q i) (hle:(q.tp++news).length<=128) :
  dL { q with pub:=v5,tp:=q.tp++news } (w.setCell ⟨q.xb,0+3,none⟩ v5)/\Fr (λi=>i=q.xb) w (w.setCell ⟨q.xb,0+3,none⟩ v5):=by
 have r1:=h.xbox.set (j:=3) (by simp) v5;have f:Fr (λi=>i=q.xb) w (w.setCell ⟨q.xb,0+3,none⟩ v5):=Fr.of_set rfl;have hM:nG q q.xb:=.inl rfl;have hv:∀ i,v5.ownBlock=some i->¬ nG q i:=λi hi=>(hB i (ho.lt i hi).1).1;refine ⟨⟨r1,f.blk h.ybox λe=>h.xy e.symm,f.blk h.ubox λe=>h.xu e.symm,f.own h.list λi hi e=>h.dj i (e▸hM) (.inl (by simpa [Value.ownBlock] using hi.symm)),λa ha=>f.own (h.data a ha) λi hi e=>h.dj i (e▸hM) (.inr (.inl ⟨a,ha,hi⟩)),h.len,f.own (aR ho (Nat.zero_le _)) λi hi e=>hv i hi (e▸hM),f.own h.qs λi hi e=>h.dj i (e▸hM) (.inr (.inr (.inr hi))),hle,h.ls,f.own h.trow λi hi e=>(h.une i hi).1 e,h.xy,h.xu,h.yu,h.une,λi hi hr=>?_,h.two,h.cnt,h.sz⟩,f⟩;rcases hr with hr|hr|hr|hr
 ·exact h.dj i hi (.inl hr)
 ·exact h.dj i hi (.inr (.inl hr))
 ·exact hv i hr hi
 ·exact h.dj i hi (.inr (.inr (.inr hr)))
theorem YM (h:dL q w) {who sa sb r a n:Int} (hsa:sa≠1) (hov:∀ w2,Fr (nG q) w w2->aB w2 ov 1 3 [i64 r,i64 a,i64 n]) (hps:q.ps=s.ev [⟨2,r,a,n⟩]) (hk:∀ u w',XG q w (gQ s who sa r a n) u w'->R u w') :
  cJ (oZ q) (i64 who) (i64 36) (i64 sa) (i64 sb) av ov w R:=by
 have har:q.ar.map pa=s.ar:=congrArg PS.ar hps;have hov0:=hov w (Fr.refl _ _);have g0:([i64 r,i64 a,i64 n]:List O)[(0:Int).toNat]?=some (i64 r):=rfl;have g1:([i64 r,i64 a,i64 n]:List O)[(1:Int).toNat]?=some (i64 a):=rfl;have g2:([i64 r,i64 a,i64 n]:List O)[(2:Int).toNat]?=some (i64 n):=rfl;have D:aG w w.drew:=(aG.refl _).drew;unfold cJ;refine ⟨λv w'=>v=.bool false/\w'=w,(by first|exact ⟨rfl,rfl⟩|(try simp only [aF,Int.reduceEq,decide_false,aA];exact ⟨trivial,trivial⟩)|(try simp only [aF,Int.reduceEq,decide_false,decide_true,aA,aE];exact ⟨rfl,rfl⟩)),?_⟩;rintro _ w' ⟨rfl,hw⟩ _;have hw:=hw.symm;subst hw;refine aA.2 ?_
 try simp only [aF,Int.reduceEq,decide_false,aA]
 refine ⟨λv w'=>v=.bool false/\w'=w,(by first|exact ⟨rfl,rfl⟩|(try simp only [aF,Int.reduceEq,decide_false,decide_true,aA,aE];exact ⟨trivial,trivial⟩)|(try simp only [aF,Int.reduceEq,decide_false,decide_true,aA,aE];exact ⟨rfl,rfl⟩)),?_⟩;rintro _ w' ⟨rfl,hw⟩ _;have hw:=hw.symm;subst hw;refine aA.2 ?_;refine ⟨λv w'=>v=.bool false/\w'=w,(by first|exact ⟨rfl,rfl⟩|(try simp only [aF,Int.reduceEq,decide_false,decide_true,aA,aE];exact ⟨trivial,trivial⟩)|(try simp only [aF,Int.reduceEq,decide_false,decide_true,aA,aE];exact ⟨rfl,rfl⟩)),?_⟩;rintro _ w' ⟨rfl,hw⟩ _;have hw:=hw.symm;subst hw;refine aA.2 ?_;refine aH.mk' (λw'=>aG w w') D ⟨.inl ⟨_,rfl⟩,?_⟩;refine dT (λw' hw=>(h.xbox.ext hw).boxed) bJ dE rfl ?_;refine eY aM aL hov0 (λw' hw=>hov w' (bO hw)) (by omega) (by omega) g0 ?_;refine eY aM aL hov0 (λw' hw=>hov w' (bO hw)) (by omega) (by omega) g1 ?_;refine eY aM aL hov0 (λw' hw=>hov w' (bO hw)) (by omega) (by omega) g2 ?_;refine (mA (h.ext D)).mono λv w1 ⟨hv,x1⟩=>?_;subst hv;have X1:=D.trans x1;rw [har];refine ⟨X1,aS.2 (aK (λhne=>?_) λhfine=>?_)⟩
 ·refine hk _ _ (lN h X1 ?_ ?_)<;>unfold gQ<;>rw [if_neg hne];exact hps
 have hf:iS s.ar r a n who=36864:=Classical.not_not.1 hfine;obtain ⟨k,x,hk2,hr,hm,ha0,hn0,han⟩:=gW ((kH q.ar r a n who).trans (by rw [har];exact hf));obtain ⟨a,rfl⟩:∃ m:Nat,a=m:=⟨a.toNat,by omega⟩;obtain ⟨n,rfl⟩:∃ m:Nat,n=m:=⟨n.toNat,by omega⟩;have hxm:=List.mem_of_getElem? hk2;have hxl:=h.len x hxm;have m1:=h.ls;have e1:q.tp=s.tp:=congrArg PS.tp hps;have e2:q.ts=s.ts:=congrArg PS.ts hps;have e3:q.tr=s.tr++[⟨2,r,(a:Int),(n:Int)⟩]:=congrArg PS.tr hps;have e4:q.size=s.size:=congrArg PS.size hps;refine ⟨_,sT (h.ext X1) hk2 hr (hov w1 (bO X1)) (by omega) (by omega) g0,?_⟩;rintro _ w2 ⟨b,rfl,hbx,x2⟩ _;have X2:=X1.trans x2;refine ⟨.inl ⟨_,rfl⟩,?_⟩;refine V.ok uE ?_;refine ⟨λv w'=>v=.pointer (some ⟨q.xb,0+4,none⟩)/\w'=w2,?_,?_⟩
 ·refine aS.2 ?_;simp only [show decide (sa≠1)=true by simpa using hsa,aE];refine ⟨.inl ⟨_,rfl⟩,?_⟩;exact V.ok yN ⟨by first|rfl|trivial,by first|rfl|trivial⟩
 rintro _ w' ⟨rfl,hw⟩ _;have hw:=hw.symm;subst hw;have D2:aG w2 w2.drew:=(aG.refl _).drew;have X3:=X2.trans D2;refine aH.mk' (λw'=>aG w w') X3 ?_;refine eY aM aL hov0 (λw' hw=>hov w' (bO hw)) (by omega) (by omega) g2 ?_;refine ⟨.inl ⟨_,rfl⟩,?_⟩;refine aD.ok (λw' hw=>kO ((h.xbox.ext hw).cell (j:=4) rfl)) ?_;refine tW jQ (aB.of_own h.qs) ?_;refine aD.ok (λw' _=>mB) ?_;rw [aX (by omega)];refine aD.ok (λw' _=>vD) ?_;refine aK (λhfull=>?_) λhroom=>?_
 ·refine hk _ _ (lN h X3 ?_ ?_)<;>unfold gQ<;>rw [if_pos hf,if_neg hsa,if_pos (show s.ts.length+((n:Nat):Int).toNat > 128 by rw [<- e2,Int.toNat_natCast];omega)];exact hps
 have D3:aG w2.drew w2.drew.drew:=(aG.refl _).drew;have X4:=X3.trans D3;have hs1:∀ {w'},aG w w'->aB w' x.dv 1 x.data.length (x.data.map u8):=λhx=>aB.of_own (hx.own (h.data x hxm));have sz4:=X4.size;refine aH.mk' (λw'=>aG w2 w') (D2.trans D3) ⟨.inl ⟨_,rfl⟩,?_⟩;refine aD.ok (λw' hw=>kO ((h.xbox.ext (X2.trans hw)).cell (j:=4) rfl)) ?_;refine dT (λw' hw=>hbx.ext hw) bL fS rfl ?_;refine eY aM aL hov0 (λw' hw=>hov w' (bO (X2.trans hw))) (by omega) (by omega) g1 ?_;refine eY aM aL hov0 (λw' hw=>hov w' (bO (X2.trans hw))) (by omega) (by omega) g1 ?_;refine eY aM aL hov0 (λw' hw=>hov w' (bO (X2.trans hw))) (by omega) (by omega) g2 ?_;refine aD.ok (λw' _=>nW) ?_;rw [show IntKind.i64.wrap ((a:Int)+(n:Int))=((a+n:Nat):Int) from by rw [aX (by omega)];omega];obtain ⟨fv,hfr,hfs⟩:=vV (P:=prog) underlying23 pW (hs1 X4) (lo:=some (i64 (a:Int))) (hi':=some (i64 ((a+n:Nat):Int))) (a:=a) (b:=a+n) (.inr rfl) (.inr rfl) (by omega) (by omega);refine aD.ok (λw' _=>hfr w') ?_;have el:((x.data.drop a).take n).length=n:=by simp;omega
 refine mF mQ [] rfl rfl (by simp) rfl λv5 w5 ho5 x5=>?_;have X5:=X4.trans x5;have sz5:=x5.size;refine ⟨(D2.trans D3).trans x5,?_⟩;refine apS mQ ho5 (aB.of_own (X5.own h.qs)) (pZ _) (by omega) (by unfold maxLen;omega) sz5 λv6 w6 ho6 hg6 hl6=>?_;rw [Nat.zero_add,List.nil_append] at ho6;have x6:aG w2 w6:=((D2.trans D3).trans x5).grown hg6 λi hi=>by have:=(ho5.lt i hi).1;have:=(D2.trans D3).size;omega
 have X6:=X2.trans x6;refine ⟨x6,?_⟩
 have hfB:aB w6 fv 1 n (((x.data.drop a).take n).map u8):=by
  have:=hfs _ (hs1 X6);simpa [List.map_take,List.map_drop] using this
 refine apS mQ ho6 hfB (pZ _) (by omega) (by unfold maxLen;omega) (by have:=x6.size;have:=X6.size;have:=hg6.size;omega) λv7 w7 ho7 hg7 hl7=>?_;have x7:aG w2 w7:=x6.grown hg7 λi hi=>by have:=(ho6.lt i hi).1;have:=(D2.trans D3).size;omega
 have X7:=X2.trans x7;refine ⟨x7,.inl ⟨_,rfl⟩,?_⟩
 have ho7':w7.ownsRow w2.drew.drew.heap.size 5 1 v7 (q.ts++(x.data.drop a).take n).length ((q.ts++(x.data.drop a).take n).map u8):=by
  rw [List.length_append,List.map_append,el];exact ho7
 refine GM lO (h.xbox.ext X7) rfl (by simp) (bM ho7) ?_;obtain ⟨h8,f8⟩:=(h.ext X7).tellS ho7' (λi hi=>h.above i (by omega)) (by rw [List.length_append,el];omega);refine hk _ _ ⟨_,?_,?_,h8,⟨rfl,rfl,rfl,rfl,rfl,rfl,λi hi=>?_,λi hi=>.inl hi,(Fr.of_ext (S:=nG q) X7).trans (f8.mono λi hi=>.inl hi) λ_ _ h=>h⟩⟩
 ·unfold gQ;rw [if_pos hf,if_neg hsa,if_neg (show ¬ s.ts.length+((n:Nat):Int).toNat > 128 by rw [<- e2,Int.toNat_natCast];omega)]
 ·unfold gQ;rw [if_pos hf,if_neg hsa,if_neg (show ¬ s.ts.length+((n:Nat):Int).toNat > 128 by rw [<- e2,Int.toNat_natCast];omega)];unfold vW;rw [<- har,show mM (q.ar.map pa) r=x.data from kJ hk2 hr];show (⟨q.size,q.ar.map pa,q.tp,q.ts++(x.data.drop a).take n,q.tr⟩:PS)=_;rw [e1,e2,e3,e4,har];rfl
 ·rcases hi with hi|hi|hi|hi|hi
  ·exact .inl hi
  ·exact .inr (.inl (.inl hi))
  ·exact .inr (.inl (.inr (.inl hi)))
  ·exact .inr (.inl (.inr (.inr (.inl hi))))
  ·exact .inr (.inr (by have:=(ho7'.lt i hi).1;omega))
theorem YN (h:dL q w) {who sa sb r a n:Int} (hsa:sa=1) (hov:∀ w2,Fr (nG q) w w2->aB w2 ov 1 3 [i64 r,i64 a,i64 n]) (hps:q.ps=s.ev [⟨2,r,a,n⟩]) (hk:∀ u w',XG q w (gQ s who sa r a n) u w'->R u w') :
  cJ (oZ q) (i64 who) (i64 36) (i64 sa) (i64 sb) av ov w R:=by
 have har:q.ar.map pa=s.ar:=congrArg PS.ar hps;have hov0:=hov w (Fr.refl _ _);have g0:([i64 r,i64 a,i64 n]:List O)[(0:Int).toNat]?=some (i64 r):=rfl;have g1:([i64 r,i64 a,i64 n]:List O)[(1:Int).toNat]?=some (i64 a):=rfl;have g2:([i64 r,i64 a,i64 n]:List O)[(2:Int).toNat]?=some (i64 n):=rfl;have D:aG w w.drew:=(aG.refl _).drew;unfold cJ;refine ⟨λv w'=>v=.bool false/\w'=w,(by first|exact ⟨rfl,rfl⟩|(try simp only [aF,Int.reduceEq,decide_false,aA];exact ⟨trivial,trivial⟩)|(try simp only [aF,Int.reduceEq,decide_false,decide_true,aA,aE];exact ⟨rfl,rfl⟩)),?_⟩;rintro _ w' ⟨rfl,hw⟩ _;have hw:=hw.symm;subst hw;refine aA.2 ?_
 try simp only [aF,Int.reduceEq,decide_false,aA]
 refine ⟨λv w'=>v=.bool false/\w'=w,(by first|exact ⟨rfl,rfl⟩|(try simp only [aF,Int.reduceEq,decide_false,decide_true,aA,aE];exact ⟨trivial,trivial⟩)|(try simp only [aF,Int.reduceEq,decide_false,decide_true,aA,aE];exact ⟨rfl,rfl⟩)),?_⟩;rintro _ w' ⟨rfl,hw⟩ _;have hw:=hw.symm;subst hw;refine aA.2 ?_;refine ⟨λv w'=>v=.bool false/\w'=w,(by first|exact ⟨rfl,rfl⟩|(try simp only [aF,Int.reduceEq,decide_false,decide_true,aA,aE];exact ⟨trivial,trivial⟩)|(try simp only [aF,Int.reduceEq,decide_false,decide_true,aA,aE];exact ⟨rfl,rfl⟩)),?_⟩;rintro _ w' ⟨rfl,hw⟩ _;have hw:=hw.symm;subst hw;refine aA.2 ?_;refine aH.mk' (λw'=>aG w w') D ⟨.inl ⟨_,rfl⟩,?_⟩;refine dT (λw' hw=>(h.xbox.ext hw).boxed) bJ dE rfl ?_;refine eY aM aL hov0 (λw' hw=>hov w' (bO hw)) (by omega) (by omega) g0 ?_;refine eY aM aL hov0 (λw' hw=>hov w' (bO hw)) (by omega) (by omega) g1 ?_;refine eY aM aL hov0 (λw' hw=>hov w' (bO hw)) (by omega) (by omega) g2 ?_;refine (mA (h.ext D)).mono λv w1 ⟨hv,x1⟩=>?_;subst hv;have X1:=D.trans x1;rw [har];refine ⟨X1,aS.2 (aK (λhne=>?_) λhfine=>?_)⟩
 ·refine hk _ _ (lN h X1 ?_ ?_)<;>unfold gQ<;>rw [if_neg hne];exact hps
 have hf:iS s.ar r a n who=36864:=Classical.not_not.1 hfine;obtain ⟨k,x,hk2,hr,hm,ha0,hn0,han⟩:=gW ((kH q.ar r a n who).trans (by rw [har];exact hf));obtain ⟨a,rfl⟩:∃ m:Nat,a=m:=⟨a.toNat,by omega⟩;obtain ⟨n,rfl⟩:∃ m:Nat,n=m:=⟨n.toNat,by omega⟩;have hxm:=List.mem_of_getElem? hk2;have hxl:=h.len x hxm;have m1:=h.lp;have e1:q.tp=s.tp:=congrArg PS.tp hps;have e2:q.ts=s.ts:=congrArg PS.ts hps;have e3:q.tr=s.tr++[⟨2,r,(a:Int),(n:Int)⟩]:=congrArg PS.tr hps;have e4:q.size=s.size:=congrArg PS.size hps;refine ⟨_,sT (h.ext X1) hk2 hr (hov w1 (bO X1)) (by omega) (by omega) g0,?_⟩;rintro _ w2 ⟨b,rfl,hbx,x2⟩ _;have X2:=X1.trans x2;refine ⟨.inl ⟨_,rfl⟩,?_⟩;refine V.ok uE ?_;refine ⟨λv w'=>v=.pointer (some ⟨q.xb,0+3,none⟩)/\w'=w2,?_,?_⟩
 ·refine aS.2 ?_;simp only [show decide (sa≠1)=false by simpa using hsa,aA];exact ⟨by first|rfl|trivial,by first|rfl|trivial⟩
 rintro _ w' ⟨rfl,hw⟩ _;have hw:=hw.symm;subst hw;have D2:aG w2 w2.drew:=(aG.refl _).drew;have X3:=X2.trans D2;refine aH.mk' (λw'=>aG w w') X3 ?_;refine eY aM aL hov0 (λw' hw=>hov w' (bO hw)) (by omega) (by omega) g2 ?_;refine ⟨.inl ⟨_,rfl⟩,?_⟩;refine aD.ok (λw' hw=>kO ((h.xbox.ext hw).cell (j:=3) rfl)) ?_;refine tW jQ (aB.of_own h.qp) ?_;refine aD.ok (λw' _=>mB) ?_;rw [aX (by omega)];refine aD.ok (λw' _=>vD) ?_;refine aK (λhfull=>?_) λhroom=>?_
 ·refine hk _ _ (lN h X3 ?_ ?_)<;>unfold gQ<;>rw [if_pos hf,if_pos hsa,if_pos (show s.tp.length+((n:Nat):Int).toNat > 128 by rw [<- e1,Int.toNat_natCast];omega)];exact hps
 have D3:aG w2.drew w2.drew.drew:=(aG.refl _).drew;have X4:=X3.trans D3;have hs1:∀ {w'},aG w w'->aB w' x.dv 1 x.data.length (x.data.map u8):=λhx=>aB.of_own (hx.own (h.data x hxm));have sz4:=X4.size;refine aH.mk' (λw'=>aG w2 w') (D2.trans D3) ⟨.inl ⟨_,rfl⟩,?_⟩;refine aD.ok (λw' hw=>kO ((h.xbox.ext (X2.trans hw)).cell (j:=3) rfl)) ?_;refine dT (λw' hw=>hbx.ext hw) bL fS rfl ?_;refine eY aM aL hov0 (λw' hw=>hov w' (bO (X2.trans hw))) (by omega) (by omega) g1 ?_;refine eY aM aL hov0 (λw' hw=>hov w' (bO (X2.trans hw))) (by omega) (by omega) g1 ?_;refine eY aM aL hov0 (λw' hw=>hov w' (bO (X2.trans hw))) (by omega) (by omega) g2 ?_;refine aD.ok (λw' _=>nW) ?_;rw [show IntKind.i64.wrap ((a:Int)+(n:Int))=((a+n:Nat):Int) from by rw [aX (by omega)];omega];obtain ⟨fv,hfr,hfs⟩:=vV (P:=prog) underlying23 pW (hs1 X4) (lo:=some (i64 (a:Int))) (hi':=some (i64 ((a+n:Nat):Int))) (a:=a) (b:=a+n) (.inr rfl) (.inr rfl) (by omega) (by omega);refine aD.ok (λw' _=>hfr w') ?_;have el:((x.data.drop a).take n).length=n:=by simp;omega
 refine mF mQ [] rfl rfl (by simp) rfl λv5 w5 ho5 x5=>?_;have X5:=X4.trans x5;have sz5:=x5.size;refine ⟨(D2.trans D3).trans x5,?_⟩;refine apS mQ ho5 (aB.of_own (X5.own h.qp)) (pZ _) (by omega) (by unfold maxLen;omega) sz5 λv6 w6 ho6 hg6 hl6=>?_;rw [Nat.zero_add,List.nil_append] at ho6;have x6:aG w2 w6:=((D2.trans D3).trans x5).grown hg6 λi hi=>by have:=(ho5.lt i hi).1;have:=(D2.trans D3).size;omega
 have X6:=X2.trans x6;refine ⟨x6,?_⟩
 have hfB:aB w6 fv 1 n (((x.data.drop a).take n).map u8):=by
  have:=hfs _ (hs1 X6);simpa [List.map_take,List.map_drop] using this
 refine apS mQ ho6 hfB (pZ _) (by omega) (by unfold maxLen;omega) (by have:=x6.size;have:=X6.size;have:=hg6.size;omega) λv7 w7 ho7 hg7 hl7=>?_;have x7:aG w2 w7:=x6.grown hg7 λi hi=>by have:=(ho6.lt i hi).1;have:=(D2.trans D3).size;omega
 have X7:=X2.trans x7;refine ⟨x7,.inl ⟨_,rfl⟩,?_⟩
 have ho7':w7.ownsRow w2.drew.drew.heap.size 5 1 v7 (q.tp++(x.data.drop a).take n).length ((q.tp++(x.data.drop a).take n).map u8):=by
  rw [List.length_append,List.map_append,el];exact ho7
 refine GM lO (h.xbox.ext X7) rfl (by simp) (bM ho7) ?_;obtain ⟨h8,f8⟩:=(h.ext X7).tellP ho7' (λi hi=>h.above i (by omega)) (by rw [List.length_append,el];omega);refine hk _ _ ⟨_,?_,?_,h8,⟨rfl,rfl,rfl,rfl,rfl,rfl,λi hi=>?_,λi hi=>.inl hi,(Fr.of_ext (S:=nG q) X7).trans (f8.mono λi hi=>.inl hi) λ_ _ h=>h⟩⟩
 ·unfold gQ;rw [if_pos hf,if_pos hsa,if_neg (show ¬ s.tp.length+((n:Nat):Int).toNat > 128 by rw [<- e1,Int.toNat_natCast];omega)]
 ·unfold gQ;rw [if_pos hf,if_pos hsa,if_neg (show ¬ s.tp.length+((n:Nat):Int).toNat > 128 by rw [<- e1,Int.toNat_natCast];omega)];unfold vW;rw [<- har,show mM (q.ar.map pa) r=x.data from kJ hk2 hr];show (⟨q.size,q.ar.map pa,q.tp++(x.data.drop a).take n,q.ts,q.tr⟩:PS)=_;rw [e1,e2,e3,e4,har];rfl
 ·rcases hi with hi|hi|hi|hi|hi
  ·exact .inl hi
  ·exact .inr (.inl (.inl hi))
  ·exact .inr (.inl (.inr (.inl hi)))
  ·exact .inr (.inr (by have:=(ho7'.lt i hi).1;omega))
  ·exact .inr (.inl (.inr (.inr (.inr hi))))
end
structure tV (op who sa sb:Int) (n:Nat) (ns:List Int) (X:PS->DL):Prop where
 prg:∀ {p:RP} {w:Ω} {av:O},bZ p w->p.tr.length<=99000->aB w av 1 n (ns.map i32)->aC prog 136 #[kZ p,rR p,i64 who,i64 op,i64 sa,i64 sb,av] w λr w'=>AY p w (X p.ps) r w'
 ref:∀ {q:QP} {w:Ω} {av:O},dL q w->q.tr.length<=99000->(∀ x∈q.ps.ar,qD x.data)->(∀ w',Fr (nG q) w w'->aB w' av 1 n (ns.map i32))->aC prog 69 #[oZ q,ubT q,i64 who,i64 op,i64 sa,i64 sb,av] w λr w'=>XG q w (X q.ps) r w'
 len:∀ s,(X s).2.2.tr.length<=s.tr.length+2
theorem aFp {who sa sb x0 x1:Int} (hsm:iB [x0,x1]):tV 17 who sa sb 2 [x0,x1] λs=>rL s x0 x1:=by
 refine ⟨λ{p w av} h hl hx=>?_,λ{q w av} h hl hby hva=>?_,λs=>?_⟩
 ·exact MR h hx hsm
 ·refine rC (DX (nn:=2) (xs:=[x0,x1]) (evs:=[]) h hl (by omega) (by simp) QG (λho=>MN ho) rfl (hva _ (Fr.refl _ _)) hsm λw1 ov uv1 h1 s1 hov=>?_);exact aLs h1 hov (hva _ s1.fr) (hsm _ (by simp)) (hsm _ (by simp)) (s:=q.ps) (by show (⟨q.size,q.ar.map pa,q.tp,q.ts,q.tr++[]⟩:PS)=_;rw [List.append_nil];rfl) (λu w2 ⟨q2,e1,e2,e3,e4⟩=>⟨q2,e1,e2,e3,s1.trans e4⟩)
 ·show (rL s x0 x1).2.2.tr.length<=_;unfold rL
  repeat' split
  all_goals simp []
theorem aFo {who sa sb x0 x1:Int} (hsm:iB [x0,x1]):tV 18 who sa sb 2 [x0,x1] λs=>rK s x0 x1:=by
 refine ⟨λ{p w av} h hl hx=>?_,λ{q w av} h hl hby hva=>?_,λs=>?_⟩
 ·exact MP h hx hsm
 ·refine rC (DX (nn:=2) (xs:=[x0,x1]) (evs:=[]) h hl (by omega) (by simp) QF (λho=>MM ho) rfl (hva _ (Fr.refl _ _)) hsm λw1 ov uv1 h1 s1 hov=>?_);exact aLr h1 hov (hva _ s1.fr) (hsm _ (by simp)) (hsm _ (by simp)) (s:=q.ps) (by show (⟨q.size,q.ar.map pa,q.tp,q.ts,q.tr++[]⟩:PS)=_;rw [List.append_nil];rfl) (λu w2 ⟨q2,e1,e2,e3,e4⟩=>⟨q2,e1,e2,e3,s1.trans e4⟩)
 ·show (rK s x0 x1).2.2.tr.length<=_;unfold rK
  repeat' split
  all_goals simp []
theorem aFn {who sa sb x0:Int} (hsm:iB [x0]) (hsa:sa=3\/sa=4) (hsb:0<=sb/\sb < 7):tV 27 who sa sb 1 [x0] λs=>kN s who sa sb x0:=by
 refine ⟨λ{p w av} h hl hx=>?_,λ{q w av} h hl hby hva=>?_,λs=>?_⟩
 ·refine mX (nn:=1) (f:=187) (by omega) PP (by decide) (xs:=[x0]) hx rfl hsm (Rr:=λr w'=>AY p w (kN p.ps who sa sb x0) r w') λw1 av1 ex1 ho1=>?_;have hva:∀ w',Fr (λi=>kE p i\/mN p i) w1 w'->aB w' av1 1 1 ([x0].map i64):=λw' hf=>aB.of_own (hf.own ho1 λi hi hm=>by have:=(ho1.lt i hi).1;have:=h.hi i hm;omega);rcases hsa with rfl|rfl
  ·refine (HJ (.inl rfl) (h.ext ex1) (by omega) hsb (hva _ (Fr.refl _ _))).mono λr w' hr=>?_;obtain ⟨p2,e1,e2,e3,e4⟩:=hr;subst e1;exact ⟨_,_,rfl,⟨p2,rfl,e2,e3,(pO.of_ext ex1).trans e4⟩⟩
  ·refine (HJ (.inr rfl) (h.ext ex1) (by omega) hsb (hva _ (Fr.refl _ _))).mono λr w' hr=>?_;obtain ⟨p2,e1,e2,e3,e4⟩:=hr;subst e1;exact ⟨_,_,rfl,⟨p2,rfl,e2,e3,(pO.of_ext ex1).trans e4⟩⟩
 ·refine rC (DX (nn:=1) (xs:=[x0]) (evs:=[⟨3,sa,sb,x0⟩]) h hl (by omega) (by simp) QE (λho=>ML ho) rfl (hva _ (Fr.refl _ _)) hsm λw1 ov uv1 h1 s1 hov=>?_);rcases hsa with rfl|rfl
  ·exact GT (.inl rfl) h1 hsb hov (s:=q.ps) rfl (λu w2 ⟨q2,e1,e2,e3,e4⟩=>⟨q2,e1,e2,e3,s1.trans e4⟩)
  ·exact GT (.inr rfl) h1 hsb hov (s:=q.ps) rfl (λu w2 ⟨q2,e1,e2,e3,e4⟩=>⟨q2,e1,e2,e3,s1.trans e4⟩)
 ·show (kN s who sa sb x0).2.2.tr.length<=_;unfold kN
  repeat' split
  all_goals simp [PS.ev]
theorem aFm {who sa sb x0:Int} (hsm:iB [x0]):tV 28 who sa sb 1 [x0] λs=>rT s who x0:=by
 refine ⟨λ{p w av} h hl hx=>?_,λ{q w av} h hl hby hva=>?_,λs=>?_⟩
 ·refine mX (nn:=1) (f:=188) (by omega) PO (by decide) (xs:=[x0]) hx rfl hsm (Rr:=λr w'=>AY p w (rT p.ps who x0) r w') λw1 av1 ex1 ho1=>?_;have hva:∀ w',Fr (λi=>kE p i\/mN p i) w1 w'->aB w' av1 1 1 ([x0].map i64):=λw' hf=>aB.of_own (hf.own ho1 λi hi hm=>by have:=(ho1.lt i hi).1;have:=h.hi i hm;omega);refine (NJ (h.ext ex1) (by omega) (hva _ (Fr.refl _ _))).mono λr w' hr=>?_;obtain ⟨p2,e1,e2,e3,e4⟩:=hr;subst e1;exact ⟨_,_,rfl,⟨p2,rfl,e2,e3,(pO.of_ext ex1).trans e4⟩⟩
 ·refine rC (DX (nn:=1) (xs:=[x0]) (evs:=[⟨2,x0,0,0⟩]) h hl (by omega) (by simp) QD (λho=>MK ho) rfl (hva _ (Fr.refl _ _)) hsm λw1 ov uv1 h1 s1 hov=>?_);exact aLq h1 hov (s:=q.ps) rfl (λu w2 ⟨q2,e1,e2,e3,e4⟩=>⟨q2,e1,e2,e3,s1.trans e4⟩)
 ·show (rT s who x0).2.2.tr.length<=_;unfold rT
  repeat' split
  all_goals simp [PS.ev]
theorem aFl {who sa sb x0 x1:Int} (hsm:iB [x0,x1]):tV 29 who sa sb 2 [x0,x1] λs=>rU s who x0 x1:=by
 refine ⟨λ{p w av} h hl hx=>?_,λ{q w av} h hl hby hva=>?_,λs=>?_⟩
 ·refine mX (nn:=2) (f:=189) (by omega) PN (by decide) (xs:=[x0,x1]) hx rfl hsm (Rr:=λr w'=>AY p w (rU p.ps who x0 x1) r w') λw1 av1 ex1 ho1=>?_;have hva:∀ w',Fr (λi=>kE p i\/mN p i) w1 w'->aB w' av1 1 2 ([x0,x1].map i64):=λw' hf=>aB.of_own (hf.own ho1 λi hi hm=>by have:=(ho1.lt i hi).1;have:=h.hi i hm;omega);refine (aEo (h.ext ex1) (by omega) (hva _ (Fr.refl _ _))).mono λr w' hr=>?_;obtain ⟨p2,e1,e2,e3,e4⟩:=hr;subst e1;exact ⟨_,_,rfl,⟨p2,rfl,e2,e3,(pO.of_ext ex1).trans e4⟩⟩
 ·refine rC (DX (nn:=2) (xs:=[x0,x1]) (evs:=[⟨2,x0,x1,1⟩]) h hl (by omega) (by simp) QC (λho=>MJ ho) rfl (hva _ (Fr.refl _ _)) hsm λw1 ov uv1 h1 s1 hov=>?_);exact aLp h1 hov (s:=q.ps) rfl (λu w2 ⟨q2,e1,e2,e3,e4⟩=>⟨q2,e1,e2,e3,s1.trans e4⟩)
 ·show (rU s who x0 x1).2.2.tr.length<=_;unfold rU
  repeat' split
  all_goals simp [PS.ev]
theorem aFk {who sa sb x0 x1 x2:Int} (hsm:iB [x0,x1,x2]):tV 30 who sa sb 3 [x0,x1,x2] λs=>rS s who x0 x1 x2:=by
 refine ⟨λ{p w av} h hl hx=>?_,λ{q w av} h hl hby hva=>?_,λs=>?_⟩
 ·refine mX (nn:=3) (f:=190) (by omega) PL (by decide) (xs:=[x0,x1,x2]) hx rfl hsm (Rr:=λr w'=>AY p w (rS p.ps who x0 x1 x2) r w') λw1 av1 ex1 ho1=>?_;have hva:∀ w',Fr (λi=>kE p i\/mN p i) w1 w'->aB w' av1 1 3 ([x0,x1,x2].map i64):=λw' hf=>aB.of_own (hf.own ho1 λi hi hm=>by have:=(ho1.lt i hi).1;have:=h.hi i hm;omega);refine (aDn (h.ext ex1) (by omega) hva).mono λr w' hr=>?_;obtain ⟨p2,e1,e2,e3,e4⟩:=hr;subst e1;exact ⟨_,_,rfl,⟨p2,rfl,e2,e3,(pO.of_ext ex1).trans e4⟩⟩
 ·refine rC (DX (nn:=3) (xs:=[x0,x1,x2]) (evs:=[⟨2,x0,x1,1⟩]) h hl (by omega) (by simp) QA (λho=>MH ho) rfl (hva _ (Fr.refl _ _)) hsm λw1 ov uv1 h1 s1 hov=>?_);exact aLo h1 hov (s:=q.ps) rfl (λu w2 ⟨q2,e1,e2,e3,e4⟩=>⟨q2,e1,e2,e3,s1.trans e4⟩)
 ·show (rS s who x0 x1 x2).2.2.tr.length<=_;unfold rS
  repeat' split
  all_goals simp [PS.ev]
theorem aFj {who sa sb x0 x1 x2 x3 x4:Int} (hsm:iB [x0,x1,x2,x3,x4]):tV 31 who sa sb 5 [x0,x1,x2,x3,x4] λs=>mR s who x0 x1 x2 x3 x4:=by
 refine ⟨λ{p w av} h hl hx=>?_,λ{q w av} h hl hby hva=>?_,λs=>?_⟩
 ·refine mX (nn:=5) (f:=191) (by omega) PK (by decide) (xs:=[x0,x1,x2,x3,x4]) hx rfl hsm (Rr:=λr w'=>AY p w (mR p.ps who x0 x1 x2 x3 x4) r w') λw1 av1 ex1 ho1=>?_;have hva:∀ w',Fr (λi=>kE p i\/mN p i) w1 w'->aB w' av1 1 5 ([x0,x1,x2,x3,x4].map i64):=λw' hf=>aB.of_own (hf.own ho1 λi hi hm=>by have:=(ho1.lt i hi).1;have:=h.hi i hm;omega);refine (aBe (h.ext ex1) hl hva).mono λr w' hr=>?_;obtain ⟨p2,e1,e2,e3,e4⟩:=hr;subst e1;exact ⟨_,_,rfl,⟨p2,rfl,e2,e3,(pO.of_ext ex1).trans e4⟩⟩
 ·refine rC (DX (nn:=5) (xs:=[x0,x1,x2,x3,x4]) (evs:=[⟨2,x0,x1,x4⟩,⟨2,x2,x3,x4⟩]) h hl (by omega) (by simp) PZ (λho=>MG ho) rfl (hva _ (Fr.refl _ _)) hsm λw1 ov uv1 h1 s1 hov=>?_);exact aLn h1 hby hov (s:=q.ps) (by show (⟨q.size,q.ar.map pa,q.tp,q.ts,q.tr++[_,_]⟩:PS)=⟨q.size,q.ar.map pa,q.tp,q.ts,(q.tr++[_])++[_]⟩;rw [List.append_assoc];rfl) (λu w2 ⟨q2,e1,e2,e3,e4⟩=>⟨q2,e1,e2,e3,s1.trans e4⟩)
 ·show (mR s who x0 x1 x2 x3 x4).2.2.tr.length<=_;unfold mR
  repeat' split
  all_goals simp [PS.ev,PS.ev2]
theorem aFi {who sa sb x0 x1 x2 x3 x4:Int} (hsm:iB [x0,x1,x2,x3,x4]):tV 32 who sa sb 5 [x0,x1,x2,x3,x4] λs=>mI s who x0 x1 x2 x3 x4:=by
 refine ⟨λ{p w av} h hl hx=>?_,λ{q w av} h hl hby hva=>?_,λs=>?_⟩
 ·refine mX (nn:=5) (f:=192) (by omega) PJ (by decide) (xs:=[x0,x1,x2,x3,x4]) hx rfl hsm (Rr:=λr w'=>AY p w (mI p.ps who x0 x1 x2 x3 x4) r w') λw1 av1 ex1 ho1=>?_;have hva:∀ w',Fr (λi=>kE p i\/mN p i) w1 w'->aB w' av1 1 5 ([x0,x1,x2,x3,x4].map i64):=λw' hf=>aB.of_own (hf.own ho1 λi hi hm=>by have:=(ho1.lt i hi).1;have:=h.hi i hm;omega);refine (YI (h.ext ex1) hl hva).mono λr w' hr=>?_;obtain ⟨p2,e1,e2,e3,e4⟩:=hr;subst e1;exact ⟨_,_,rfl,⟨p2,rfl,e2,e3,(pO.of_ext ex1).trans e4⟩⟩
 ·refine rC (DX (nn:=5) (xs:=[x0,x1,x2,x3,x4]) (evs:=[⟨2,x0,x1,x4⟩,⟨2,x2,x3,x4⟩]) h hl (by omega) (by simp) PY (λho=>MF ho) rfl (hva _ (Fr.refl _ _)) hsm λw1 ov uv1 h1 s1 hov=>?_);exact aLm h1 hby hov (s:=q.ps) (by show (⟨q.size,q.ar.map pa,q.tp,q.ts,q.tr++[_,_]⟩:PS)=⟨q.size,q.ar.map pa,q.tp,q.ts,(q.tr++[_])++[_]⟩;rw [List.append_assoc];rfl) (λu w2 ⟨q2,e1,e2,e3,e4⟩=>⟨q2,e1,e2,e3,s1.trans e4⟩)
 ·show (mI s who x0 x1 x2 x3 x4).2.2.tr.length<=_;unfold mI
  repeat' split
  all_goals simp [PS.ev,PS.ev2]
theorem aFh {who sa sb x0 x1 x2:Int} (hsm:iB [x0,x1,x2]):tV 36 who sa sb 3 [x0,x1,x2] λs=>gQ s who sa x0 x1 x2:=by
 refine ⟨λ{p w av} h hl hx=>?_,λ{q w av} h hl hby hva=>?_,λs=>?_⟩
 ·refine mX (nn:=3) (f:=193) (by omega) PI (by decide) (xs:=[x0,x1,x2]) hx rfl hsm (Rr:=λr w'=>AY p w (gQ p.ps who sa x0 x1 x2) r w') λw1 av1 ex1 ho1=>?_;have hva:∀ w',Fr (λi=>kE p i\/mN p i) w1 w'->aB w' av1 1 3 ([x0,x1,x2].map i64):=λw' hf=>aB.of_own (hf.own ho1 λi hi hm=>by have:=(ho1.lt i hi).1;have:=h.hi i hm;omega);refine (YH (h.ext ex1) (by omega) (hva _ (Fr.refl _ _))).mono λr w' hr=>?_;obtain ⟨p2,e1,e2,e3,e4⟩:=hr;subst e1;exact ⟨_,_,rfl,⟨p2,rfl,e2,e3,(pO.of_ext ex1).trans e4⟩⟩
 ·refine rC (DX (nn:=3) (xs:=[x0,x1,x2]) (evs:=[⟨2,x0,x1,x2⟩]) h hl (by omega) (by simp) PX (λho=>ME ho) rfl (hva _ (Fr.refl _ _)) hsm λw1 ov uv1 h1 s1 hov=>?_);by_cases hsa:sa=1
  ·exact YN h1 hsa hov (s:=q.ps) rfl (λu w2 ⟨q2,e1,e2,e3,e4⟩=>⟨q2,e1,e2,e3,s1.trans e4⟩)
  ·exact YM h1 hsa hov (s:=q.ps) rfl (λu w2 ⟨q2,e1,e2,e3,e4⟩=>⟨q2,e1,e2,e3,s1.trans e4⟩)
 ·show (gQ s who sa x0 x1 x2).2.2.tr.length<=_;unfold gQ
  repeat' split
  all_goals simp [PS.ev]
end Go.Proofs.YtgkkecladbmjkaaGreatDoor
namespace Go.Proofs.YtgkkecladbmjkaaGreatDoor
open Tryz
open Go.Vc Go.Tc
def mV (a:Int):Prop:=-2147483648<=a/\a<=2147483647
def c31 (b:Int):Int:=IntKind.i32.wrap (BitVec.ofInt IntKind.i32.bits b &&& BitVec.ofInt IntKind.i32.bits 31).toNat
def oI (op a b:Int):Int:=
 if op=6 then IntKind.i32.wrap (a+b) else if op=7 then IntKind.i32.wrap (a - b) else if op=8 then IntKind.i32.wrap (a*b)
 else if op=9 then IntKind.i32.wrap (BitVec.ofInt IntKind.i32.bits a &&& BitVec.ofInt IntKind.i32.bits b).toNat
 else if op=10 then IntKind.i32.wrap (BitVec.ofInt IntKind.i32.bits a ||| BitVec.ofInt IntKind.i32.bits b).toNat
 else if op=11 then IntKind.i32.wrap (BitVec.ofInt IntKind.i32.bits a ^^^ BitVec.ofInt IntKind.i32.bits b).toNat
 else if op=12 then IntKind.i32.wrap (a*2 ^ (min (c31 b).toNat IntKind.i32.bits))
 else if op=13 then IntKind.i32.wrap ((IntKind.u32.wrap a).fdiv (2 ^ (min (c31 b).toNat IntKind.u32.bits)))
 else if op=14 then a.fdiv (2 ^ (min (c31 b).toNat IntKind.i32.bits))
 else if op=19 then (if a=b then 1 else 0)
 else if op=20 then (if a < b then 1 else 0)
 else if IntKind.u32.wrap a < IntKind.u32.wrap b then 1 else 0
def unF (op a:Int):Int:=
 if op=15 then IntKind.i32.wrap (0 - a)
 else if op=16 then IntKind.i32.wrap (BitVec.ofInt IntKind.i32.bits (-1) ^^^ BitVec.ofInt IntKind.i32.bits a).toNat
 else if a=0 then 1 else 0
def rY (c a b:Int):Int:=if c=0 then b else a
theorem xW (n:Int):mV (IntKind.i32.wrap n):=by
 unfold mV;simp only [IntKind.wrap_i32];omega
theorem aNk {a:Int} {k:Nat} (ha:mV a):mV (a.fdiv (2 ^ k)):=by
 have hp:(0:Int) < 2 ^ k:=by
  have:(0:Int) < ((2 ^ k:Nat):Int):=by exact_mod_cast Nat.two_pow_pos k
  simpa using this
 rw [Int.fdiv_eq_ediv_of_nonneg _ (Int.le_of_lt hp)];generalize (2:Int) ^ k=d at hp;unfold mV at *;refine ⟨?_,?_⟩
 ·rw [Int.le_ediv_iff_mul_le hp];have:=Int.mul_le_mul_of_nonpos_left (show (-2147483648:Int)<=0 by decide) (show (1:Int)<=d by omega);omega
 ·have:a / d < 2147483648:=by
   rw [Int.ediv_lt_iff_lt_mul hp];have:=Int.mul_le_mul_of_nonneg_left (show (1:Int)<=d by omega) (show (0:Int)<=2147483648 by decide);omega
  omega
theorem RD {c:Prop} [Decidable c] {a b:Int} (ha:mV a) (hb:mV b):mV (if c then a else b):=by split<;>assumption
theorem r01 {c:Prop} [Decidable c]:mV (if c then 1 else 0):=RD (by unfold mV;omega) (by unfold mV;omega)
theorem aOe {op a b:Int} (ha:mV a):mV (oI op a b):=by
 unfold oI
 repeat' (with_reducible apply RD)
 all_goals first|exact xW _|exact aNk ha|(unfold mV;omega)
theorem aSd {op a:Int}:mV (unF op a):=by
 unfold unF
 repeat' (with_reducible apply RD)
 all_goals first|exact xW _|(unfold mV;omega)
structure gV where
 who:Nat
 mth:Nat
 pc:Nat
 loc:List Int
 st:List Int
structure Rm where
 ps:PS
 fd:List (List Int)
def Rm.ev (r:Rm) (e:tL):Rm:={ r with ps:=r.ps.ev [e] }
def Rm.ends (r:Rm) (s:Int):Rm:=r.ev ⟨5,s,0,0⟩
structure PM where
 fs:List gV
 f:gV
 fuel:Nat
 r:Rm
inductive Out
 | run (m:PM)
 | fin (s:Int) (depth fuel:Nat) (r:Rm)
def aP (l:List bF) (k:Nat):bF:=l.getD k ⟨ByteArray.empty,[],[],[],[]⟩
def gV.img (l:List bF) (f:gV):bF:=aP l f.who
def gV.me (l:List bF) (f:gV):gU:=(f.img l).meth f.mth
def gV.ins (l:List bF) (f:gV):gP:=(f.me l).ins f.pc
def mD (l:List bF) (name:ByteArray):Option Nat:=l.findIdx? λi=>i.name.toList == name.toList
def iT (l:List bF) (who:Nat) (k:Int):Option (Nat × Nat):=
 (mD l ((aP l who).imp k).name).bind λt=>
  if ((aP l who).imp k).exp < (aP l t).exports.length/\((aP l t).meth ((aP l t).exports.getD ((aP l who).imp k).exp.toNat 0)).params=((aP l who).imp k).params/\((aP l t).meth ((aP l t).exports.getD ((aP l who).imp k).exp.toNat 0)).result=((aP l who).imp k).result
  then some (t,((aP l t).exports.getD ((aP l who).imp k).exp.toNat 0).toNat) else none
def bG (op:Int):Prop:=op=17\/op=18\/(27<=op/\op<=32)\/op=36
instance (op:Int):Decidable (bG op):=by unfold bG;exact inferInstance
def dK (s:PS) (who:Int) (x:gP) (t:List Int):DL:=
 if x.op=17 then rL s (bI t 0) (bI t 1) else if x.op=18 then rK s (bI t 0) (bI t 1)
 else if x.op=27 then kN s who x.a x.b (bI t 0) else if x.op=28 then rT s who (bI t 0)
 else if x.op=29 then rU s who (bI t 0) (bI t 1) else if x.op=30 then rS s who (bI t 0) (bI t 1) (bI t 2)
 else if x.op=31 then mR s who (bI t 0) (bI t 1) (bI t 2) (bI t 3) (bI t 4)
 else if x.op=32 then mI s who (bI t 0) (bI t 1) (bI t 2) (bI t 3) (bI t 4)
 else gQ s who x.a (bI t 0) (bI t 1) (bI t 2)
def jI (l:List bF) (to mth:Nat) (t:List Int):gV:=⟨to,mth,0,t++List.replicate ((aP l to).meth mth).locals.length 0,[]⟩
def jS (x:gP) (f:gV) (fd:List (List Int)) (t:List Int):List Int:=
 if x.op=1\/x.op=35 then [x.a] else if x.op=2 then [f.loc.getD x.a.toNat 0] else if x.op=5 then [bI t 0,bI t 0] else if x.op=25 then [0]
 else if x.op=33 then [(fd.getD f.who []).getD x.a.toNat 0]
 else if x.op=3\/x.op=4\/x.op=23\/x.op=24\/x.op=34 then []
 else if x.op=15\/x.op=16\/x.op=26 then [unF x.op (bI t 0)] else if x.op=22 then [rY (bI t 0) (bI t 1) (bI t 2)]
 else [oI x.op (bI t 0) (bI t 1)]
def yQ (x:gP) (pc:Nat) (t:List Int):Nat:=if x.op=23 then x.a.toNat else if x.op=24 then (if bI t 0=0 then pc+1 else x.a.toNat) else pc+1
def uJ (x:gP) (loc t:List Int):List Int:=if x.op=3 then loc.set x.a.toNat (bI t 0) else loc
def WC (x:gP) (who:Nat) (fd:List (List Int)) (t:List Int):List (List Int):=if x.op=34 then fd.set who ((fd.getD who []).set x.a.toNat (bI t 0)) else fd
def hY (n:Nat) (s:List Int):List Int:=s.drop (s.length - n)
def jC (n:Nat) (s:List Int):List Int:=s.take (s.length - n)
def iR (op:Int):Prop:=op=30\/op=31\/op=36
instance (op:Int):Decidable (iR op):=by unfold iR;exact inferInstance
def mK (l:List bF) (f:gV) (x:gP):Option (Nat × Nat):=if x.op=37 then some (f.who,x.a.toNat) else iT l f.who x.a
def tG (l:List bF) (fs:List gV) (f:gV) (fuel:Nat) (r:Rm) (x:gP) (t u:List Int):Out:=
 if x.op=39 then
  match fs with
  | []=>.fin 36864 0 fuel (r.ends 36864)
  | g::gs=>.run ⟨gs,{ g with st:=g.st++t },fuel,r⟩
 else if x.op=37\/x.op=38 then
  match mK l f x with
  | none=>.fin 28424 (fs.length+1) fuel (r.ends 28424)
  | some q=>if 8<=fs.length+1 then .fin 28422 (fs.length+1) fuel (r.ends 28422) else .run ⟨{ f with st:=u,pc:=f.pc+1 }::fs,jI l q.1 q.2 t,fuel,r⟩
 else if bG x.op then
  if (dK r.ps f.who x t).2.1=36864 then .run ⟨fs,{ f with st:=u++(if iR x.op then [] else [(dK r.ps f.who x t).1]),pc:=f.pc+1 },fuel,{ r with ps:=(dK r.ps f.who x t).2.2 }⟩
  else .fin (dK r.ps f.who x t).2.1 (fs.length+1) fuel (Rm.ends { r with ps:=(dK r.ps f.who x t).2.2 } (dK r.ps f.who x t).2.1)
 else .run ⟨fs,{ f with st:=u++jS x f r.fd t,pc:=yQ x f.pc t,loc:=uJ x f.loc t },fuel,{ r with fd:=WC x f.who r.fd t }⟩
def bB (l:List bF) (f:gV):Nat:=(bC (f.img l) (f.me l) (f.ins l)).length
def iO (l:List bF) (f:gV):tL:=⟨1,f.who,1000*f.mth+f.pc,(f.ins l).op⟩
def fR (l:List bF) (m:PM):Out:=
 if m.fuel=0 then .fin 28423 (m.fs.length+1) 0 (m.r.ends 28423)
 else tG l m.fs m.f (m.fuel - 1) (m.r.ev (iO l m.f)) (m.f.ins l) (hY (bB l m.f) m.f.st) (jC (bB l m.f) m.f.st)
def vP (i:bF) (m:gU) (pc:Nat) (K:List Int):Prop:=∃ s,rN i m (some s)/\pc < m.code.length/\s.h pc=true/\s.s pc=K
theorem vP.first {i:bF} {m:gU} (hi:i.right) (hm:m.right) (h:∃ s,rN i m (some s)):vP i m 0 []:=by
 obtain ⟨s,hs⟩:=h;obtain ⟨_,_,h0,h1,_⟩:=hs.led hi hm;exact ⟨s,hs,hm.2.2.2.1.1,h0,h1⟩
theorem vP.go {i:bF} {m:gU} {pc:Nat} {K:List Int} (hi:i.right) (hm:m.right) (h:vP i m pc K):pc < m.code.length/\BA i m (m.ins pc)/\nI K/\K.length<=8/\∃ out,ID i m (m.ins pc) K=some out/\nI out/\∀ to∈iU (m.ins pc) pc,0<=to/\∃ K',vP i m to.toNat K'/\nJ K' out:=by
 obtain ⟨s,hs,hp,hh,rfl⟩:=h;obtain ⟨hx,hw,_⟩:=hs.led hi hm;obtain ⟨out,h1,h2,h3⟩:=hs.flow hi hm pc hh;refine ⟨hp,hx _ (EH hp),(hw.kd pc hh).1,(hw.kd pc hh).2,out,h1,h2,λto ht=>?_⟩;obtain ⟨t1,t2,t3,t4⟩:=h3 to ht;exact ⟨t1,_,⟨s,hs,by omega,t3,rfl⟩,t4⟩
theorem RR {i:bF} {m:gU} {x:gP} {s out:List Int} (h:ID i m x s=some out):(bC i m x).length<=s.length/\out.length=s.length - (bC i m x).length+hgt i m x/\out=s.take (s.length - (bC i m x).length)++jZ i m x (s.drop (s.length - (bC i m x).length))/\pG x (bC i m x) (s.drop (s.length - (bC i m x).length))=true/\qY x (bC i m x) (s.drop (s.length - (bC i m x).length))=false:=by
 simp only [ID] at h;split at h
 ·cases h
 rename_i hn
 split at h
 ·rename_i hk
  cases h;refine ⟨by omega,?_,rfl,hk.1,hk.2⟩;rw [List.length_append,List.length_take,NU];omega
 ·cases h
structure gV.ok (l:List bF) (f:gV) (n:Nat):Prop where
 who:f.who < l.length
 mth:f.mth < (f.img l).methods.length
 rch:∃ K,vP (f.img l) (f.me l) f.pc K/\K.length=f.st.length+n
 loc:f.loc.length=(f.me l).locs.length
 l32:iB f.loc
 s32:iB f.st
def aSm (l:List bF) (f:gV):Nat:=(jP (f.me l).result).length
def aCq (l:List bF):gV->List gV->Prop
 | _,[]=>True
 | f,g::gs=>g.ok l (aSm l f)/\aCq l g gs
structure EU (l:List bF) (fd:List (List Int)):Prop where
 len:fd.length=l.length
 row:∀ k,k < l.length->(fd.getD k []).length=(aP l k).fields.length/\iB (fd.getD k [])
structure PM.ok (l:List bF) (m:PM):Prop where
 top:m.f.ok l 0
 ch:aCq l m.f m.fs
 dep:m.fs.length < 8
 fd:EU l m.r.fd
def nK (l:List bF):Prop:=∀ i∈l,vN i
theorem fJ {l:List bF} {k:Nat} (h:k < l.length):aP l k∈l:=by
 unfold aP;rw [List.getD_eq_getElem?_getD,List.getElem?_eq_getElem h];exact List.getElem_mem h
theorem wH {l:List bF} {k:Nat} {i:bF} (h:l[k]?=some i):aP l k=i:=by
 unfold aP;rw [List.getD_eq_getElem?_getD,h];rfl
theorem meth_mem {i:bF} {k:Nat} (h:k < i.methods.length):i.meth k∈i.methods:=bF.meth_mem (by omega) (by omega)
theorem gV.ok.rt {l:List bF} {f:gV} {n:Nat} (h:f.ok l n) (hT:nK l):(f.img l).right/\(f.me l).right/\∃ s,rN (f.img l) (f.me l) (some s):=by
 have h1:=hT _ (fJ h.who);have h2:=meth_mem h.mth;exact ⟨h1.1,h1.1.2.2.1.2.1 _ h2,h1.2 _ h2⟩
theorem sC {t:List Int} (h:iB t) (n:Nat):mV (bI t n):=by
 unfold bI;rw [List.getD_eq_getElem?_getD];cases e:t[n]? with
 | none=>unfold mV;simp
 | some z=>exact h z (List.mem_of_getElem? e)
theorem sJ {a b:List Int} (ha:iB a) (hb:iB b):iB (a++b):=λz hz=>(List.mem_append.1 hz).elim (ha z) (hb z)
theorem lT {a:Int} (h:mV a):iB [a]:=λz hz=>by rw [List.mem_singleton] at hz;subst hz;exact h
theorem vJ:iB []:=λ_ h=>(List.not_mem_nil h).elim
theorem xH {s:List Int} (h:iB s) (n:Nat):iB (hY n s)/\iB (jC n s):=⟨λz hz=>h z (List.mem_of_mem_drop hz),λz hz=>h z (List.mem_of_mem_take hz)⟩
theorem HU {s:List Int} (h:iB s) {k:Nat} {v:Int} (hv:mV v):iB (s.set k v):=λz hz=>by
 rcases List.mem_or_eq_of_mem_set hz with h1|rfl
 ·exact h z h1
 ·exact hv
theorem aAm (n:Nat):iB (List.replicate n 0):=λz hz=>by rw [List.eq_of_mem_replicate hz];omega
theorem NG {x:gP} (h:x.right):x.op=1\/x.op=2\/x.op=3\/x.op=4\/x.op=5\/jB x.op\/x.op=15\/x.op=16\/x.op=17\/x.op=18\/x.op=22\/x.op=23\/x.op=24\/x.op=25\/x.op=26\/x.op=27\/x.op=28\/x.op=29\/x.op=30\/x.op=31\/x.op=32\/x.op=33\/x.op=34\/x.op=35\/x.op=36\/x.op=37\/x.op=38\/x.op=39:=by
 have h1:=h.1;unfold jB;omega
def kL (op:Int):Prop:=op≠37/\op≠38/\op≠39/\¬ bG op
theorem VE {i:bF} {me:gU} {x:gP} (hr:x.right) (hp:kL x.op) (f:gV) (fd:List (List Int)) (t:List Int):(jS x f fd t).length=hgt i me x:=by
 obtain ⟨op,a,b⟩:=x;obtain ⟨p1,p2,p3,p4⟩:=hp;have hop:=NG hr;dsimp only at *;unfold bG at p4;unfold hgt;rcases hop with rfl|rfl|rfl|rfl|rfl|hb|rfl|rfl|rfl|rfl|rfl|rfl|rfl|rfl|rfl|rfl|rfl|rfl|rfl|rfl|rfl|rfl|rfl|rfl|rfl|rfl|rfl|rfl
 case _=>rfl
 case _=>rfl
 case _=>rfl
 case _=>rfl
 case _=>rfl
 case _=>
  unfold jB at hb;simp only [jS,jZ]
  repeat rw [if_neg (by omega)]
  rw [if_pos (by unfold jB;omega)];rfl
 all_goals first|rfl|omega
theorem yG {i:bF} {me:gU} {x:gP} (hs:bG x.op):(if iR x.op then 0 else 1)=hgt i me x:=by
 obtain ⟨op,a,b⟩:=x;dsimp only at *;unfold bG at hs;have:op=17\/op=18\/op=27\/op=28\/op=29\/op=30\/op=31\/op=32\/op=36:=by omega
 unfold hgt;rcases this with rfl|rfl|rfl|rfl|rfl|rfl|rfl|rfl|rfl
 case _=>rfl
 case _=>rfl
 case _=>rfl
 case _=>rfl
 case _=>rfl
 case _=>rfl
 case _=>rfl
 case _=>
  simp [jZ,jB,iR];split<;>rfl
 case _=>rfl
theorem ZR {x:gP} {pc:Nat} (h:x.op≠23) (h2:x.op≠39):((pc:Int)+1)∈iU x pc:=by
 unfold iU;rw [if_neg h];by_cases h3:x.op=24
 ·rw [if_pos h3];exact List.mem_cons_self
 ·rw [if_neg h3,if_neg h2];exact List.mem_singleton.2 rfl
theorem ZK {x:gP} (hr:x.right) (h39:x.op≠39) (pc:Nat) (t:List Int):∃ to∈iU x pc,to=(yQ x pc t:Int):=by
 obtain ⟨op,a,b⟩:=x;have ha:=hr.2.1;unfold yQ;dsimp only at *;by_cases h1:op=23
 ·subst h1;have ha:0<=a:=ha;exact ⟨a,by simp [iU],by simp;omega⟩
 rw [if_neg h1];by_cases h2:op=24
 ·subst h2;have ha:0<=a:=ha;rw [if_pos rfl];split
  ·exact ⟨(pc:Int)+1,by simp [iU],by omega⟩
  ·exact ⟨a,by simp [iU],by omega⟩
 ·rw [if_neg h2];exact ⟨(pc:Int)+1,ZR h1 h39,by omega⟩
theorem aDp {x:gP} (hr:x.right) {f:gV} {fd:List (List Int)} {t:List Int} (hl:iB f.loc) (hf:iB (fd.getD f.who [])) (ht:iB t):iB (jS x f fd t):=by
 obtain ⟨op,a,b⟩:=x;have ha:=hr.2;have gd:∀ {l:List Int} (k:Nat),iB l->mV (l.getD k 0):=λk h=>sC h k;unfold jS;dsimp only at *;split
 ·rename_i h
  refine lT ?_;rcases h with rfl|rfl
  ·exact ⟨ha.1,ha.2.1⟩
  ·have h1:1<=a:=ha.1;have h2:a<=2:=ha.2.1;unfold mV;omega
 split
 ·exact lT (gd _ hl)
 split
 ·exact sJ (a:=[bI t 0]) (lT (sC ht 0)) (lT (sC ht 0))
 split
 ·exact lT (by unfold mV;omega)
 split
 ·exact lT (gd _ hf)
 split
 ·exact vJ
 split
 ·exact lT aSd
 split
 ·exact lT (RD (sC ht 2) (sC ht 1))
 ·exact lT (aOe (sC ht 0))
theorem aDj {c:Prop} [Decidable c] {a b:DL} (ha:mV a.1) (hb:mV b.1):mV (if c then a else b).1:=by split<;>assumption
theorem YK {s:PS} {who:Int} {x:gP} {t:List Int}:mV (dK s who x t).1:=by
 have z:mV 0:=by unfold mV;omega
 unfold dK rL rK kN rT rU rS mR mI gQ
 repeat' (with_reducible apply aDj)
 all_goals first|exact xW _|exact z|exact r01
theorem uB {l:List bF} (hT:nK l) {who:Nat} (hw:who < l.length) {k:Int} (h0:0<=k) (hk:k < (aP l who).imports.length) {q:Nat × Nat} (h:iT l who k=some q) :
  q.1 < l.length/\q.2 < (aP l q.1).methods.length/\((aP l q.1).meth q.2).params=((aP l who).imp k).params/\((aP l q.1).meth q.2).result=((aP l who).imp k).result:=by
 unfold iT at h;obtain ⟨t,ht,h⟩:=Option.bind_eq_some_iff.1 h;split at h
 ·rename_i hc
  cases h;obtain ⟨c1,c2,c3⟩:=hc
  have htl:t < l.length:=by
   unfold mD at ht;exact (List.findIdx?_eq_some_iff_findIdx_eq.1 ht).1
  have hx:=(hT _ (fJ hw)).1.2.1.2 _ (bF.imp_mem h0 hk);have hx0:=hx.1.1
  have he:=(hT _ (fJ htl)).1.2.2.2.2 ((aP l t).exports.getD ((aP l who).imp k).exp.toNat 0) (by
   rw [List.getD_eq_getElem?_getD,List.getElem?_eq_getElem (by omega)];exact List.getElem_mem _)
  have e:((((aP l t).exports.getD ((aP l who).imp k).exp.toNat 0).toNat:Nat):Int)=(aP l t).exports.getD ((aP l who).imp k).exp.toNat 0:=by omega
  refine ⟨htl,by dsimp only;omega,?_,?_⟩
  ·dsimp only;rw [e];exact c2
  ·dsimp only;rw [e];exact c3
 ·cases h
theorem CM {l:List bF} (hT:nK l) {to mth:Nat} (h1:to < l.length) (h2:mth < (aP l to).methods.length) {t:List Int} (ht:iB t) (hl:t.length=((aP l to).meth mth).params.length):(jI l to mth t).ok l 0:=by
 have hi:=hT _ (fJ h1);have hm:=meth_mem h2;refine ⟨h1,h2,⟨[],vP.first hi.1 (hi.1.2.2.1.2.1 _ hm) (hi.2 _ hm),rfl⟩,?_,sJ ht (aAm _),vJ⟩;show (t++List.replicate _ 0).length=(((aP l to).meth mth).params++((aP l to).meth mth).locals).length;rw [List.length_append,List.length_replicate,List.length_append,hl]
theorem aNl {l:List bF} {fd:List (List Int)} (h:EU l fd) {x:gP} {who:Nat} {t:List Int} (ht:iB t):EU l (WC x who fd t):=by
 unfold WC;split
 ·refine ⟨by simpa using h.len,λk hk=>?_⟩;have hr:=h.row k hk;by_cases hkw:who=k
  ·subst hkw
   have e:(fd.set who ((fd.getD who []).set x.a.toNat (bI t 0))).getD who []=(fd.getD who []).set x.a.toNat (bI t 0):=by
    rw [List.getD_eq_getElem?_getD,List.getElem?_set_self (by have:=h.len;omega)];rfl
   rw [e];exact ⟨by simpa using hr.1,HU hr.2 (sC ht 0)⟩
  ·have e:(fd.set who ((fd.getD who []).set x.a.toNat (bI t 0))).getD k []=fd.getD k []:=by
    rw [List.getD_eq_getElem?_getD,List.getElem?_set_ne hkw,List.getD_eq_getElem?_getD]
   rw [e];exact hr
 ·exact h
theorem aEd {x:gP} {loc t:List Int} (hl:iB loc) (ht:iB t):(uJ x loc t).length=loc.length/\iB (uJ x loc t):=by
 unfold uJ;split
 ·exact ⟨by simp,HU hl (sC ht 0)⟩
 ·exact ⟨rfl,hl⟩
structure AtI (l:List bF) (f:gV):Prop where
 pc:f.pc < (f.me l).code.length
 okx:BA (f.img l) (f.me l) (f.ins l)
 nt:bB l f<=f.st.length
 hi:f.st.length<=8
theorem gV.ok.at_ {l:List bF} {f:gV} (h:f.ok l 0) (hT:nK l):AtI l f:=by
 obtain ⟨h1,h2,_⟩:=h.rt hT;obtain ⟨K,hK,hl⟩:=h.rch;obtain ⟨g1,g2,g3,g4,out,g5,_⟩:=hK.go h1 h2;have:=RR g5;exact ⟨g1,g2,by unfold bB;have:=this.1;unfold gV.ins;omega,by omega⟩
theorem gV.ok.next {l:List bF} {f:gV} (h:f.ok l 0) (hT:nK l) {to:Int} (ht:to∈iU (f.ins l) f.pc) {st loc:List Int} {n:Nat} (hs:st.length+n=f.st.length - bB l f+hgt (f.img l) (f.me l) (f.ins l)) (s32:iB st) (hl:loc.length=f.loc.length) (l32:iB loc) {f':gV} (e:f'=⟨f.who,f.mth,to.toNat,loc,st⟩):f'.ok l n:=by
 subst e;obtain ⟨h1,h2,_⟩:=h.rt hT;obtain ⟨K,hK,hlen⟩:=h.rch;obtain ⟨g1,g2,g3,g4,out,g5,g6,g7⟩:=hK.go h1 h2;obtain ⟨_,K',hK',hin⟩:=g7 to ht;have hd:=(RR g5).2.1;refine ⟨h.who,h.mth,⟨K',hK',?_⟩,hl.trans h.loc,l32,s32⟩;have:=hin.len;have e:(bC (f.img l) (f.me l) ((f.me l).ins f.pc)).length=bB l f:=rfl;have e2:hgt (f.img l) (f.me l) ((f.me l).ins f.pc)=hgt (f.img l) (f.me l) (f.ins l):=rfl;show K'.length=st.length+n;omega
theorem lU {n:Nat} {s:List Int}:(jC n s).length=s.length - n:=by unfold jC;simp
theorem oL {n:Nat} {s:List Int} (h:n<=s.length):(hY n s).length=n:=by unfold hY;simp;omega
theorem yC {l:List bF} (hT:nK l) {m m':PM} (h:m.ok l) (he:fR l m=.run m'):m'.ok l:=by
 obtain ⟨fs,f,fuel,r⟩:=m;obtain ⟨h1,h2,h3,h4⟩:=h;dsimp only at h1 h2 h3 h4;have hA:=h1.at_ hT;have hrt:=h1.rt hT;have ht:=xH h1.s32 (bB l f);unfold fR at he;dsimp only at he;split at he
 ·cases he
 unfold tG at he;split at he
 ·rename_i h39
  cases fs with
  | nil=>cases he
  | cons g gs=>
   cases he;obtain ⟨c1,c2⟩:=h2
   have hn:bB l f=aSm l f:=by
    unfold bB bC;simp only [h39,jB,Int.reduceEq,or_self,Int.reduceLE,and_false,if_false,if_true];rfl
   obtain ⟨K,hK,hl⟩:=c1.rch;refine ⟨⟨c1.who,c1.mth,⟨K,hK,?_⟩,c1.loc,c1.l32,sJ c1.s32 ht.1⟩,?_,by simp at h3;dsimp only;omega,h4⟩
   ·show K.length=(g.st++hY (bB l f) f.st).length+0;rw [List.length_append,oL hA.nt,hn];omega
   ·cases gs with
    | nil=>trivial
    | cons g2 gs=>exact c2
 rename_i h39
 split at he
 ·rename_i hc
  split at he
  ·cases he
  rename_i q hq
  split at he
  ·cases he
  rename_i hd
  cases he
  have key:q.1 < l.length/\q.2 < (aP l q.1).methods.length/\bB l f=((aP l q.1).meth q.2).params.length/\hgt (f.img l) (f.me l) (f.ins l)=(jP ((aP l q.1).meth q.2).result).length:=by
   have hnm:=hA.okx.nm;have hxr:=hA.okx.xr;unfold mK at hq;unfold bB hgt;generalize hx:f.ins l=x at *;obtain ⟨op,a,b⟩:=x;dsimp only at hc hq h39;rcases hc with rfl|rfl
   ·rw [if_pos rfl] at hq;cases hq;have ha:0<=a:=hxr.2.1;have hn:a < ((f.img l).methods.length:Int):=hnm;have e:((a.toNat:Nat):Int)=a:=by omega
    refine ⟨h1.who,by show a.toNat < (aP l f.who).methods.length;have:f.img l=aP l f.who:=rfl;rw [this] at hn;omega,?_,?_⟩
    iterate 2
     ·simp only [e];rfl
   ·rw [if_neg (by decide)] at hq;have ha:0<=a:=hxr.2.1;have hn:a < ((f.img l).imports.length:Int):=hnm;obtain ⟨r1,r2,r3,r4⟩:=uB hT h1.who ha hn hq;refine ⟨r1,r2,?_,?_⟩
    ·rw [r3];rfl
    ·rw [r4];rfl
  obtain ⟨k1,k2,k3,k4⟩:=key;have hne:(f.ins l).op≠23:=by omega
  refine ⟨CM hT k1 k2 ht.1 (by rw [oL hA.nt,k3]),⟨h1.next hT (ZR hne h39) (loc:=f.loc) (st:=jC (bB l f) f.st) ?_ ht.2 rfl h1.l32 ?_,?_⟩,by simp only [List.length_cons];omega,h4⟩
  ·show _+(jP ((jI l q.1 q.2 (hY (bB l f) f.st)).me l).result).length=_;have e:(jI l q.1 q.2 (hY (bB l f) f.st)).me l=(aP l q.1).meth q.2:=rfl;rw [e,<- k4,lU]
  ·have:((f.pc:Int)+1).toNat=f.pc+1:=by omega
   rw [this]
  ·cases fs with
   | nil=>trivial
   | cons g gs=>exact h2
 rename_i hc
 split at he
 ·rename_i hs
  split at he
  ·cases he;have hne:(f.ins l).op≠23:=by unfold bG at hs;omega
   refine ⟨h1.next hT (ZR hne h39) (loc:=f.loc) (n:=0) (st:=jC (bB l f) f.st++if iR (f.ins l).op then [] else [(dK (r.ev (iO l f)).ps f.who (f.ins l) (hY (bB l f) f.st)).1]) ?_ ?_ rfl h1.l32 ?_,?_,h3,h4⟩
   ·have:=yG (i:=f.img l) (me:=f.me l) hs;rw [List.length_append,lU];split at this<;>simp_all<;>omega
   ·refine sJ ht.2 ?_;split
    ·exact vJ
    ·exact lT YK
   ·have:((f.pc:Int)+1).toNat=f.pc+1:=by omega
    rw [this]
   ·cases fs with
    | nil=>trivial
    | cons g gs=>exact h2
  ·cases he
 ·rename_i hs
  cases he;obtain ⟨to,hto,hpc⟩:=ZK hA.okx.xr h39 f.pc (hY (bB l f) f.st);have hlo:=aEd (x:=f.ins l) h1.l32 ht.1;refine ⟨h1.next hT hto (n:=0) (st:=jC (bB l f) f.st++jS (f.ins l) f r.fd (hY (bB l f) f.st)) (loc:=uJ (f.ins l) f.loc (hY (bB l f) f.st)) ?_ ?_ hlo.1 hlo.2 ?_,?_,h3,aNl h4 ht.1⟩
  ·rw [List.length_append,lU,VE (i:=f.img l) (me:=f.me l) hA.okx.xr ⟨by omega,by omega,h39,hs⟩];omega
  ·exact sJ ht.2 (aDp hA.okx.xr h1.l32 (h4.row _ h1.who).2 ht.1)
  ·rw [hpc];simp;rfl
  ·cases fs with
   | nil=>trivial
   | cons g gs=>exact h2
structure AP where
 s:Int
 depth:Nat
 fuel:Nat
 r:Rm
inductive GE (l:List bF):PM->AP->Prop
 | fin {m:PM} {s:Int} {d f:Nat} {r:Rm}:fR l m=.fin s d f r->GE l m ⟨s,d,f,r⟩
 | go {m m':PM} {e:AP}:fR l m=.run m'->GE l m' e->GE l m e
theorem nP {c:Prop} [Decidable c] {a b n:Int} (ha:a≠n) (hb:b≠n):(if c then a else b)≠n:=by split<;>assumption
theorem YA {c:Prop} [Decidable c] {a b:DL} {n:Int} (ha:a.2.1≠n) (hb:b.2.1≠n):(if c then a else b).2.1≠n:=by split<;>assumption
theorem aBf {l:List PA} {r who:Int}:wZ l r who≠28423:=by
 unfold wZ;refine nP ?_ (by decide);split
 ·exact nP (by decide) (by decide)
 ·decide
theorem MW {l:List PA} {r a n who:Int}:iS l r a n who≠28423:=by
 unfold iS;refine nP ?_ aBf;split
 ·exact nP (by decide) (by decide)
 ·decide
theorem aEx {s:PS} {who r1 a1 r2 a2 n:Int}:kX s who r1 a1 r2 a2 n≠28423:=nP MW MW
theorem UV {s:PS} {who:Int} {x:gP} {t:List Int}:(dK s who x t).2.1≠28423:=by
 unfold dK rL rK kN rT rU rS mR mI gQ
 repeat' (with_reducible apply YA)
 all_goals first|exact aBf|exact MW|exact aEx|(dsimp only;decide)
theorem IE {l:List bF} {fs:List gV} {f:gV} {n:Nat} {r:Rm} {x:gP} {t u:List Int} :
  (∀ m',tG l fs f n r x t u=.run m'->m'.fuel=n/\∀ d,tG l fs f (n+d) r x t u=.run { m' with fuel:=n+d }) /\
  (∀ s k q r',tG l fs f n r x t u=.fin s k q r'->q=n/\s≠28423/\∀ d,tG l fs f (n+d) r x t u=.fin s k (n+d) r'):=by
 unfold tG;split
 ·cases fs with
  | nil=>exact ⟨λm' h=>(by cases h),λs k q r' h=>(by cases h;exact ⟨rfl,by decide,λd=>rfl⟩)⟩
  | cons g gs=>exact ⟨λm' h=>(by cases h;exact ⟨rfl,λd=>rfl⟩),λs k q r' h=>(by cases h)⟩
 split
 ·split
  ·exact ⟨λm' h=>(by cases h),λs k q r' h=>(by cases h;exact ⟨rfl,by decide,λd=>rfl⟩)⟩
  ·split
   ·exact ⟨λm' h=>(by cases h),λs k q r' h=>(by cases h;exact ⟨rfl,by decide,λd=>rfl⟩)⟩
   ·exact ⟨λm' h=>(by cases h;exact ⟨rfl,λd=>rfl⟩),λs k q r' h=>(by cases h)⟩
 split
 ·split
  ·exact ⟨λm' h=>(by cases h;exact ⟨rfl,λd=>rfl⟩),λs k q r' h=>(by cases h)⟩
  ·refine ⟨λm' h=>(by cases h),λs k q r' h=>?_⟩;cases h;refine ⟨rfl,?_,λd=>rfl⟩;exact UV
 ·exact ⟨λm' h=>(by cases h;exact ⟨rfl,λd=>rfl⟩),λs k q r' h=>(by cases h)⟩
theorem tX {l:List bF} {m m':PM} (h:fR l m=.run m'):m.fuel=m'.fuel+1/\∀ d,fR l { m with fuel:=m.fuel+d }=.run { m' with fuel:=m'.fuel+d }:=by
 unfold fR at *;split at h
 ·cases h
 rename_i h0
 obtain ⟨h1,h2⟩:=IE.1 m' h;refine ⟨by omega,λd=>?_⟩;dsimp only;rw [if_neg (by omega),show m.fuel+d - 1=m.fuel - 1+d by omega];rw [h1];exact h2 d
def Pre (a b:List tL):Prop:=∃ c,b=a++c
def Out.r:Out->Rm
 | .run m=>m.r
 | .fin _ _ _ r=>r
theorem DB (b:Int):0<=c31 b/\c31 b<=31:=by
 have h:(BitVec.ofInt IntKind.i32.bits b &&& BitVec.ofInt IntKind.i32.bits 31).toNat<=31:=by
  rw [BitVec.toNat_and];exact Nat.le_trans Nat.and_le_right (by decide)
 unfold c31;generalize (BitVec.ofInt IntKind.i32.bits b &&& BitVec.ofInt IntKind.i32.bits 31).toNat=n at h;simp only [IntKind.wrap_i32];omega
theorem aBg (b:Int):IntKind.u64.wrap (IntKind.i32.wrap (BitVec.ofInt IntKind.i32.bits b &&& BitVec.ofInt IntKind.i32.bits 31).toNat)=c31 b:=by
 have h:=DB b;show IntKind.u64.wrap (c31 b)=c31 b;generalize c31 b=c at h;have e:IntKind.u64.wrap c=c % 18446744073709551616:=by simp [IntKind.wrap,IntKind.bits,IntKind.signed]
 rw [e];omega
theorem aUy (n:Int):IntKind.u64.wrap n=n % 18446744073709551616:=by simp [IntKind.wrap,IntKind.bits,IntKind.signed]
theorem aKv (n:Int):IntKind.u32.wrap n=n % 4294967296:=by simp [IntKind.wrap,IntKind.bits,IntKind.signed]
theorem aJr {d:Int} (h:-4294967296 < d/\d < 4294967296):IntKind.i32.wrap ((IntKind.u64.wrap d).fdiv (2 ^ (min (63:Int).toNat IntKind.u64.bits)))=if d < 0 then 1 else 0:=by
 have e2:((2:Int) ^ (min (63:Int).toNat IntKind.u64.bits))=9223372036854775808:=by decide
 rw [aUy,e2,Int.fdiv_eq_ediv_of_nonneg _ (by decide)];simp only [IntKind.wrap_i32];split<;>omega
theorem EB {a:Int} (_:mV a):(BitVec.ofInt IntKind.i32.bits a).toNat=(a % 4294967296).toNat:=by
 rw [BitVec.toNat_ofInt];rfl
theorem sX {a:Int} (h:mV a):IntKind.i32.wrap (BitVec.ofInt IntKind.i32.bits a).toNat=a:=by
 rw [EB h];unfold mV at h;simp only [IntKind.wrap_i32];omega
theorem GN {c:Int} (h:mV c):wM c=if c=0 then 0 else 1:=by
 have h':=h;unfold mV at h';unfold wM aLg;have e31:IntKind.i32.wrap (BitVec.ofInt IntKind.i32.bits 31 &&& BitVec.ofInt IntKind.i32.bits 31).toNat=31:=by decide
 rw [e31];have e2:((2:Int) ^ (min (31:Int).toNat IntKind.u32.bits))=2147483648:=by decide
 rw [e2,aKv];have hn:=EB (xW (0 - c));have ha:=EB h;have l1:(BitVec.ofInt IntKind.i32.bits c).toNat<=(BitVec.ofInt IntKind.i32.bits c ||| BitVec.ofInt IntKind.i32.bits (IntKind.i32.wrap (0 - c))).toNat:=by rw [BitVec.toNat_or];exact Nat.left_le_or
 have l2:(BitVec.ofInt IntKind.i32.bits (IntKind.i32.wrap (0 - c))).toNat<=(BitVec.ofInt IntKind.i32.bits c ||| BitVec.ofInt IntKind.i32.bits (IntKind.i32.wrap (0 - c))).toNat:=by rw [BitVec.toNat_or];exact Nat.right_le_or
 have l3:(BitVec.ofInt IntKind.i32.bits c ||| BitVec.ofInt IntKind.i32.bits (IntKind.i32.wrap (0 - c))).toNat < 4294967296:=(BitVec.ofInt IntKind.i32.bits c ||| BitVec.ofInt IntKind.i32.bits (IntKind.i32.wrap (0 - c))).isLt;by_cases h0:c=0
 ·subst h0;decide
 rw [if_neg h0];rw [ha] at l1;rw [hn] at l2;generalize hX:(BitVec.ofInt IntKind.i32.bits c ||| BitVec.ofInt IntKind.i32.bits (IntKind.i32.wrap (0 - c))).toNat=X at *;have e0:IntKind.i32.wrap (0 - c)=(0 - c+2147483648) % 4294967296 - 2147483648:=by simp only [IntKind.wrap_i32]
 rw [e0] at l2
 have hX2:2147483648<=X:=by
  by_cases hc:0 < c
  ·have:((0 - c+2147483648) % 4294967296 - 2147483648) % 4294967296=4294967296 - c:=by omega
   rw [this] at l2;omega
  ·have:c % 4294967296=4294967296+c:=by omega
   rw [this] at l1;omega
 clear l1 l2 hX hn ha e0
 have e1:IntKind.i32.wrap (X:Int) % 4294967296=X:=by
  simp only [IntKind.wrap_i32];omega
 rw [e1,Int.fdiv_eq_ediv_of_nonneg _ (by decide)];simp only [IntKind.wrap_i32];omega
theorem aRx {a b:Int} (ha:mV a) (hb:mV b):IntKind.i32.wrap (BitVec.ofInt IntKind.i32.bits a ^^^ BitVec.ofInt IntKind.i32.bits b).toNat=0↔a=b:=by
 constructor
 ·intro h;have hlt:(BitVec.ofInt IntKind.i32.bits a ^^^ BitVec.ofInt IntKind.i32.bits b).toNat < 4294967296:=(BitVec.ofInt IntKind.i32.bits a ^^^ BitVec.ofInt IntKind.i32.bits b).isLt
  have h0:(BitVec.ofInt IntKind.i32.bits a ^^^ BitVec.ofInt IntKind.i32.bits b).toNat=0:=by
   generalize (BitVec.ofInt IntKind.i32.bits a ^^^ BitVec.ofInt IntKind.i32.bits b).toNat=n at *;simp only [IntKind.wrap_i32] at h;omega
  have h1:BitVec.ofInt IntKind.i32.bits a ^^^ BitVec.ofInt IntKind.i32.bits b=0:=BitVec.eq_of_toNat_eq (by rw [h0];rfl)
  have h2:BitVec.ofInt IntKind.i32.bits a=BitVec.ofInt IntKind.i32.bits b:=by
   have:=congrArg (· ^^^ BitVec.ofInt IntKind.i32.bits b) h1
   simpa [BitVec.xor_assoc] using this
  rw [<- sX ha,<- sX hb,h2]
 ·rintro rfl;rw [BitVec.xor_self];decide
theorem aNn {a b:Int} (ha:mV a) (hb:mV b):IntKind.i32.wrap (1 - wM (IntKind.i32.wrap (BitVec.ofInt IntKind.i32.bits a ^^^ BitVec.ofInt IntKind.i32.bits b).toNat))=if a=b then 1 else 0:=by
 rw [GN (xW _)];by_cases h:a=b
 ·rw [if_pos h,if_pos ((aRx ha hb).2 h)];decide
 ·rw [if_neg h,if_neg (λe=>h ((aRx ha hb).1 e))];decide
theorem ZG {c a b:Int} (hc:mV c) (ha:mV a) (hb:mV b) :
  IntKind.i32.wrap (BitVec.ofInt IntKind.i32.bits (IntKind.i32.wrap (BitVec.ofInt IntKind.i32.bits a &&& BitVec.ofInt IntKind.i32.bits (IntKind.i32.wrap (0 - wM c))).toNat) ||| BitVec.ofInt IntKind.i32.bits (IntKind.i32.wrap (BitVec.ofInt IntKind.i32.bits b &&& ~~~ BitVec.ofInt IntKind.i32.bits (IntKind.i32.wrap (0 - wM c))).toNat)).toNat=rY c a b:=by
 rw [GN hc];unfold rY;have z0:BitVec.ofInt IntKind.i32.bits 0=0#IntKind.i32.bits:=rfl;by_cases h:c=0
 ·rw [if_pos h,if_pos h];have e0:IntKind.i32.wrap (0 - 0)=0:=by decide
  rw [e0];have e1:BitVec.ofInt IntKind.i32.bits a &&& BitVec.ofInt IntKind.i32.bits 0=BitVec.ofInt IntKind.i32.bits 0:=by rw [z0];exact BitVec.and_zero
  have e2:BitVec.ofInt IntKind.i32.bits b &&& ~~~ BitVec.ofInt IntKind.i32.bits 0=BitVec.ofInt IntKind.i32.bits b:=by
   have h9:(~~~ BitVec.ofInt IntKind.i32.bits 0)=BitVec.allOnes IntKind.i32.bits:=by rfl
   rw [h9];exact BitVec.and_allOnes
  rw [e1,e2,sX hb];have e3:IntKind.i32.wrap (BitVec.ofInt IntKind.i32.bits 0).toNat=0:=by decide
  rw [e3,z0];have e4:(0#IntKind.i32.bits ||| BitVec.ofInt IntKind.i32.bits b)=BitVec.ofInt IntKind.i32.bits b:=BitVec.zero_or;rw [e4,sX hb]
 ·rw [if_neg h,if_neg h];have e0:IntKind.i32.wrap (0 - 1)=-1:=by decide
  rw [e0];have m1:BitVec.ofInt IntKind.i32.bits (-1)=BitVec.allOnes IntKind.i32.bits:=by rfl
  have e1:BitVec.ofInt IntKind.i32.bits a &&& BitVec.ofInt IntKind.i32.bits (-1)=BitVec.ofInt IntKind.i32.bits a:=by rw [m1];exact BitVec.and_allOnes
  have e2:BitVec.ofInt IntKind.i32.bits b &&& ~~~ BitVec.ofInt IntKind.i32.bits (-1)=0#IntKind.i32.bits:=by
   have h9:(~~~ BitVec.ofInt IntKind.i32.bits (-1))=0#IntKind.i32.bits:=by rfl
   rw [h9];exact BitVec.and_zero
  rw [e1,e2,sX ha];have e3:IntKind.i32.wrap (0#IntKind.i32.bits).toNat=0:=by rfl
  rw [e3,z0];have e4:(BitVec.ofInt IntKind.i32.bits a ||| 0#IntKind.i32.bits)=BitVec.ofInt IntKind.i32.bits a:=BitVec.or_zero;rw [e4,sX ha]
section
variable {a b c:Int} {w:Ω}
theorem aUx:aC prog 163 #[i32 a,i32 b] w λr w'=>r=i32 (oI 6 a b)/\w'=w:=aHu (by unfold KM;exact V.ok nW ⟨rfl,rfl⟩)
theorem aUp:aC prog 164 #[i32 a,i32 b] w λr w'=>r=i32 (oI 7 a b)/\w'=w:=aHt (by unfold KL;exact V.ok mB ⟨rfl,rfl⟩)
theorem aUv:aC prog 165 #[i32 a,i32 b] w λr w'=>r=i32 (oI 8 a b)/\w'=w:=aHs (by unfold KK;exact V.ok GY ⟨rfl,rfl⟩)
theorem aUw:aC prog 166 #[i32 a,i32 b] w λr w'=>r=i32 (oI 9 a b)/\w'=w:=aHr (by unfold KJ;exact V.ok tO ⟨rfl,rfl⟩)
theorem wOr:aC prog 167 #[i32 a,i32 b] w λr w'=>r=i32 (oI 10 a b)/\w'=w:=aHq (by unfold KI;exact V.ok YS ⟨rfl,rfl⟩)
theorem aUo:aC prog 168 #[i32 a,i32 b] w λr w'=>r=i32 (oI 11 a b)/\w'=w:=aHp (by unfold KH;exact V.ok QH ⟨rfl,rfl⟩)
theorem aUr:aC prog 169 #[i32 a,i32 b] w λr w'=>r=i32 (oI 12 a b)/\w'=w:=aHo (by unfold KG;exact V.ok tO (V.ok (aJt (DB b).1) ⟨rfl,rfl⟩))
theorem aUq:aC prog 170 #[i32 a,i32 b] w λr w'=>r=i32 (oI 13 a b)/\w'=w:=(YE a b w).mono λ_ _ h=>h
theorem aUs:aC prog 171 #[i32 a,i32 b] w λr w'=>r=i32 (oI 14 a b)/\w'=w:=aHm (by unfold KE;exact V.ok tO (V.ok (BP (DB b).1) ⟨rfl,rfl⟩))
theorem wEq (ha:mV a) (hb:mV b):aC prog 172 #[i32 a,i32 b] w λr w'=>r=i32 (oI 19 a b)/\w'=w:=aHl (by
 unfold KD;refine V.ok QH ?_;refine (DQ _ _).mono λr w' ⟨hr,hw⟩=>?_;subst hr;have hw:=hw.symm;subst hw;refine V.ok mB ⟨?_,rfl⟩;rw [aNn ha hb];rfl)
theorem wLt (ha:mV a) (hb:mV b):aC prog 173 #[i32 a,i32 b] w λr w'=>r=i32 (oI 20 a b)/\w'=w:=aHk (by
 unfold KC;refine V.ok (bE underlying21 underlying2) (V.ok (bE underlying21 underlying2) (V.ok mB (V.ok (bE underlying2 underlying298) (V.ok (BP (by decide)) (V.ok (bE underlying298 underlying21) ⟨?_,rfl⟩)))));unfold mV at ha hb;rw [jD (n:=a) (by omega) (by omega),jD (n:=b) (by omega) (by omega),aX (by omega),aJr (by omega)];show i32 _=i32 (if a < b then 1 else 0)
 congr 1
 split<;>split<;>omega)
theorem aKt (_:mV a) (_:mV b):aC prog 174 #[i32 a,i32 b] w λr w'=>r=i32 (oI 21 a b)/\w'=w:=aHj (by
 unfold KB;refine V.ok (bE underlying21 underlying201) (V.ok (bE underlying201 underlying2) (V.ok (bE underlying21 underlying201) (V.ok (bE underlying201 underlying2) (V.ok mB (V.ok (bE underlying2 underlying298) (V.ok (BP (by decide)) (V.ok (bE underlying298 underlying21) ⟨?_,rfl⟩)))))));have ea:=aKv a;have eb:=aKv b;show _=i32 (if IntKind.u32.wrap a < IntKind.u32.wrap b then 1 else 0);generalize IntKind.u32.wrap a=x at *;generalize IntKind.u32.wrap b=y at *;rw [jD (n:=x) (by omega) (by omega),jD (n:=y) (by omega) (by omega),aX (by omega),aJr (by omega)]
 congr 1
 split<;>split<;>omega)
theorem aUu:aC prog 175 #[i32 a] w λr w'=>r=i32 (unF 15 a)/\w'=w:=aHi (by unfold KA;exact V.ok QJ ⟨rfl,rfl⟩)
theorem aUt:aC prog 176 #[i32 a] w λr w'=>r=i32 (unF 16 a)/\w'=w:=aHh (by unfold JZ;exact V.ok aJu ⟨rfl,rfl⟩)
theorem aSb (hc:mV c) (ha:mV a) (hb:mV b):aC prog 129 #[i32 c,i32 a,i32 b] w λr w'=>r=i32 (rY c a b)/\w'=w:=aIq (by
 unfold LH;refine (DQ _ _).mono λr w' ⟨hr,hw⟩=>?_;subst hr;have hw:=hw.symm;subst hw;refine V.ok QJ (V.ok tO (V.ok ZC (V.ok YS ⟨?_,rfl⟩)));rw [ZG hc ha hb])
theorem wG {op:Int} (h:jB op):op=6\/op=7\/op=8\/op=9\/op=10\/op=11\/op=12\/op=13\/op=14\/op=19\/op=20\/op=21:=by unfold jB at h;omega
theorem WL {op:Int} (h:jB op) (ha:mV a) (hb:mV b):aC prog 194 #[i64 op,i32 a,i32 b] w λr w'=>r=i32 (oI op a b)/\w'=w:=by
 apply aGs;suffices key:∀ R:O->Ω->Prop,R (i32 (oI op a b)) w->AC (i64 op) (i32 a) (i32 b) w R from key _ ⟨rfl,rfl⟩;intro R hR;unfold AC;rcases wG h with rfl|rfl|rfl|rfl|rfl|rfl|rfl|rfl|rfl|rfl|rfl|rfl
 all_goals simp only [aF,Int.reduceEq,decide_true,decide_false,aE,aA]
 ·exact aUx.mono λr w' ⟨hr,hw⟩=>hr▸hw▸hR
 ·exact aUp.mono λr w' ⟨hr,hw⟩=>hr▸hw▸hR
 ·exact aUv.mono λr w' ⟨hr,hw⟩=>hr▸hw▸hR
 ·exact aUw.mono λr w' ⟨hr,hw⟩=>hr▸hw▸hR
 ·exact wOr.mono λr w' ⟨hr,hw⟩=>hr▸hw▸hR
 ·exact aUo.mono λr w' ⟨hr,hw⟩=>hr▸hw▸hR
 ·exact aUr.mono λr w' ⟨hr,hw⟩=>hr▸hw▸hR
 ·exact aUq.mono λr w' ⟨hr,hw⟩=>hr▸hw▸hR
 ·exact aUs.mono λr w' ⟨hr,hw⟩=>hr▸hw▸hR
 ·exact (wEq ha hb).mono λr w' ⟨hr,hw⟩=>hr▸hw▸hR
 ·exact (wLt ha hb).mono λr w' ⟨hr,hw⟩=>hr▸hw▸hR
 ·exact (aKt ha hb).mono λr w' ⟨hr,hw⟩=>hr▸hw▸hR
theorem DM {t:Bool}:aC prog 99 #[.bool t] w λr w'=>r=i32 (if t then 1 else 0)/\w'=w:=by
 apply aOz;unfold SI;cases t
 ·exact aA.2 ⟨rfl,rfl⟩
 ·exact aE.2 ⟨rfl,rfl⟩
theorem aNr {op:Int} (h:jB op) (_:mV a) (_:mV b):aC prog 68 #[i64 op,i32 a,i32 b] w λr w'=>r=i32 (oI op a b)/\w'=w:=by
 apply OX;suffices key:∀ R:O->Ω->Prop,R (i32 (oI op a b)) w->rD (i64 op) (i32 a) (i32 b) w R from key _ ⟨rfl,rfl⟩;intro R hR;unfold rD;rcases wG h with rfl|rfl|rfl|rfl|rfl|rfl|rfl|rfl|rfl|rfl|rfl|rfl
 all_goals simp only [aF,Int.reduceEq,decide_true,decide_false,aE,aA]
 ·exact V.ok nW hR
 ·exact V.ok mB hR
 ·exact V.ok GY hR
 ·exact V.ok tO hR
 ·exact V.ok YS hR
 ·exact V.ok QH hR
 ·refine V.ok tO (V.ok (bE underlying21 underlying200) ?_);rw [aBg b];exact V.ok (aJt (DB b).1) hR
 ·refine V.ok (bE underlying21 underlying201) (V.ok tO (V.ok (bE underlying21 underlying200) ?_));rw [aBg b];exact V.ok (BP (DB b).1) (V.ok (bE underlying201 underlying21) hR)
 ·refine V.ok tO (V.ok (bE underlying21 underlying200) ?_);rw [aBg b];exact V.ok (BP (DB b).1) hR
 ·refine DM.mono λr w' ⟨hr,hw⟩=>?_;have hw:=hw.symm;subst hw
  have e:r=i32 (oI 19 a b):=by
   rw [hr];show _=i32 (if a=b then 1 else 0);simp
  exact e▸hR
 ·refine V.ok pE ?_;refine DM.mono λr w' ⟨hr,hw⟩=>?_;have hw:=hw.symm;subst hw
  have e:r=i32 (oI 20 a b):=by
   rw [hr];show _=i32 (if a < b then 1 else 0);simp
  exact e▸hR
 ·refine V.ok (bE underlying21 underlying201) (V.ok (bE underlying21 underlying201) (V.ok pE ?_));refine DM.mono λr w' ⟨hr,hw⟩=>?_;have hw:=hw.symm;subst hw
  have e:r=i32 (oI 21 a b):=by
   rw [hr];show _=i32 (if IntKind.u32.wrap a < IntKind.u32.wrap b then 1 else 0);simp
  exact e▸hR
theorem aDv {op:Int} (h:op=15\/op=16\/op=26):aC prog 64 #[i64 op,i32 a] w λr w'=>r=i32 (unF op a)/\w'=w:=by
 apply aPv;suffices key:∀ R:O->Ω->Prop,R (i32 (unF op a)) w->FH (i64 op) (i32 a) w R from key _ ⟨rfl,rfl⟩;intro R hR;unfold FH;rcases h with rfl|rfl|rfl
 all_goals simp only [aF,Int.reduceEq,decide_true,decide_false,aE,aA]
 ·exact V.ok QJ hR
 ·exact V.ok aJu hR
 ·refine DM.mono λr w' ⟨hr,hw⟩=>?_;have hw:=hw.symm;subst hw
  have e:r=i32 (unF 26 a):=by
   rw [hr];show _=i32 (if a=0 then 1 else 0);simp
  exact e▸hR
theorem ZI:aC prog 65 #[i32 c,i32 a,i32 b] w λr w'=>r=i32 (rY c a b)/\w'=w:=by
 apply aPu;unfold SW;refine aS.2 (aK (λh=>⟨?_,rfl⟩) λh=>⟨?_,rfl⟩)
 ·unfold rY;rw [if_neg h]
 ·unfold rY;rw [if_pos (Classical.not_not.1 h)]
end
end Go.Proofs.YtgkkecladbmjkaaGreatDoor
namespace Go.Vc
section
variable {P:Program} {w:Ω} {K:O->Ω->Prop} {S:Ω->Prop} {L:O->Prop}
theorem bD.seg {w:Ω} {b:Nat} {cs:List O} {e:TypeId} (h:bD w b cs e):kV w b 0 cs:=
 ⟨cs.toArray,e,(0,0),h,by simp,.inl rfl,λj v hj=>by simpa using hj⟩
end
section
variable {P:Program} {w:Ω} {K:O->Ω->Prop} {k:IntKind} {t:TypeId} {a b:Int}
end
section
variable {P:Program} {w:Ω} {K:O->Ω->Prop} {S:Ω->Prop} {L:O->Prop}
theorem lE {s f j ft:Nat} (hf:FA P s f j) (hl:L1 P ft) {b o:Nat} {cs:List O} (hs:∀ w',S w'->kV w' b o cs) {u:O} (hu:cs[j]?=some u) (hk:L u) :
  aD P S (Instr.fieldAt s (.pointer (some ⟨b,o,none⟩)) f) λq=>aD P S (Instr.loadAt ft q) L:=by
 obtain ⟨d,hd,ha⟩:=hl;exact aD.ok (λw' _=>hf.ex w' b o) (aD.ok (λw' hw=>jX hd ha ((hs w' hw).cell hu)) hk)
theorem yFF {s f j s2 f2 j2 ft:Nat} (hf:FA P s f j) (hf2:FA P s2 f2 j2) (hl:L1 P ft) {b o:Nat} {cs:List O} (hs:∀ w',S w'->kV w' b o cs) {u:O} (hu:cs[j+j2]?=some u) (hk:L u) :
  aD P S (Instr.fieldAt s (.pointer (some ⟨b,o,none⟩)) f) λq=>aD P S (Instr.fieldAt s2 q f2) λq=>aD P S (Instr.loadAt ft q) L:=by
 obtain ⟨d,hd,ha⟩:=hl;refine aD.ok (λw' _=>hf.ex w' b o) (aD.ok (λw' _=>hf2.ex w' b (o+j)) (aD.ok (λw' hw=>jX hd ha ?_) hk));have:=(hs w' hw).cell hu
 rwa [<- Nat.add_assoc] at this
theorem kM {x:Nat} {z:O} {by_:Nat} (hx:cV P x z 1 by_) {b o j:Nat} {cs:List O} (hs:kV w b o cs) (hj:j < cs.length) {u:O} (hu:cB u=true) {K':Ω->Prop} (hk:K' (w.setCell ⟨b,o+j,none⟩ u)) :
  U P (Instr.storeAt x (.pointer (some ⟨b,o+j,none⟩)) u) w λ_ w2=>K' w2:=
 U.ok (lV hx hu (hs.cell (List.getElem?_eq_getElem hj)) (hs.frozen hj)) hk
theorem OD {s f j:Nat} (hf:FA P s f j) {b o:Nat} (hk:K (.pointer (some ⟨b,o+j,none⟩)) w):V P (Instr.fieldAt s (.pointer (some ⟨b,o,none⟩)) f) w K:=V.ok (hf.ex w b o) hk
theorem XK {s f j:Nat} (hf:FA P s f j) {b o:Nat} (hk:L (.pointer (some ⟨b,o+j,none⟩))):aD P S (Instr.fieldAt s (.pointer (some ⟨b,o,none⟩)) f) L:=aD.ok (λw' _=>hf.ex w' b o) hk
theorem yR {B e sz n a:Nat} {g cap:Nat} {xs:List O} (h:w.ownsRow B e sz (.slice (some ⟨g,0,none⟩) n cap) n xs) (ha:a<=n):w.ownsRow B e sz (.slice (some ⟨g,0,none⟩) a cap) a (xs.take (a*sz)):=by
 obtain ⟨hl,h⟩:=h;rcases h with ⟨he,_⟩|⟨g',cap',cur,he,h1,h2,h3,h4,h5,h6⟩
 ·cases he
 ·cases he;have hle:a*sz<=n*sz:=Nat.mul_le_mul_right _ ha;refine ⟨by simp;omega,.inr ⟨g,cap,cur,rfl,h1,h2,by omega,h4,h5,?_⟩⟩;rw [<- h6,List.take_take,Nat.min_eq_left hle]
end
section
variable {P:Program} {w:Ω} {S:Ω->Prop} {L:O->Prop}
theorem yFE {s f j ft:Nat} (hf:FA P s f j) (hl:L1 P ft) {b o:Nat} {u:O} (hs:∀ w',S w'->∃ cs,kV w' b o cs/\cs[j]?=some u) (hk:L u) :
  aD P S (Instr.fieldAt s (.pointer (some ⟨b,o,none⟩)) f) λq=>aD P S (Instr.loadAt ft q) L:=by
 obtain ⟨d,hd,ha⟩:=hl;exact aD.ok (λw' _=>hf.ex w' b o) (aD.ok (λw' hw=>by obtain ⟨cs,h1,h2⟩:=hs w' hw;exact jX hd ha (h1.cell h2)) hk)
end
def tM (IB:Nat->Prop) (w:Ω) (R:Ω->Prop):Prop:=∀ w',Fr (λi=>¬ IB i) w w'->R w'
section
variable {IB JB:Nat->Prop} {w w':Ω} {R Q:Ω->Prop} {S:Nat->Prop}
theorem tM.now (h:tM IB w R):R w:=h w (Fr.refl _ _)
theorem tM.fr (h:tM IB w R) (f:Fr S w w') (hd:∀ i,IB i->¬ S i):tM IB w' R:=λw'' g=>h w'' ((f.mono λi hs hi=>hd i hi hs).trans g λ_ _ h=>h)
theorem tM.ext (h:tM IB w R) (hx:aG w w'):tM IB w' R:=h.fr (Fr.of_ext (S:=λ_=>False) hx) λ_ _ h=>h
theorem tM.mono (h:tM IB w R) (hs:∀ i,i < w.heap.size->IB i->JB i):tM JB w R:=λw' f=>h w' ⟨f.os,f.tape,f.output,f.size,λi hi hn=>f.block i hi λhj=>hn λhI=>hj (hs i hi hI)⟩
theorem tM.imp (h:tM IB w R) (k:∀ w',R w'->Q w'):tM IB w Q:=λw' f=>k w' (h w' f)
theorem tM.lt (h:tM IB w R):tM (λi=>IB i/\i < w.heap.size) w R:=h.mono λ_ hi h=>⟨h,hi⟩
end
theorem ZL {P:Program} {w:Ω} {t e:TypeId} {z:O} {by_:Nat} (ht:P.underlying t=some (.slice e)) (hi:cV P e z 1 by_) {v:O} {n a:Nat} {xs:List O} (ho:w.ownsRow 0 e 1 v n xs) (ha:a<=n) :
  ∃ v',(∀ w',(Instr.sliceAt t v none (some (.int .i64 (a:Int))) none).run P w'=.ok v' w')/\v'.ownBlock=v.ownBlock/\∀ w2:Ω,w2.ownsRow 0 e 1 v n xs->w2.ownsRow 0 e 1 v' a (xs.take a):=by
 rcases ho.2 with ⟨rfl,h0⟩|⟨g,cap,cur,rfl,h1,h2,h3,h4,h5,h6⟩
 ·have ea:a=0:=by omega
  subst ea;refine ⟨.slice none 0 0,λw'=>?_,rfl,λw2 _=>?_⟩
  ·simp [Instr.sliceAt,Instr.slice,run_underlying ht,dU hi,Instr.sliceBounds,Instr.sliceBound,asIntOf]
  ·rw [List.take_zero];exact World.ownsRow_nil _ _ _ _
 ·refine ⟨.slice (some ⟨g,0,none⟩) a cap,λw'=>?_,rfl,λw2 h=>?_⟩
  ·have hc:a<=cap:=by omega
   simp [Instr.sliceAt,Instr.slice,run_underlying ht,dU hi,Instr.sliceBounds,Instr.sliceBound,asIntOf,hc,gO]
  ·have:=yR h ha
   rwa [Nat.mul_one] at this
end Go.Vc
namespace Go.Proofs.YtgkkecladbmjkaaGreatDoor
open Tryz
open Go.Vc Go.Tc
structure FP where
 fb:Nat
 (lv sv pv lc cv:O)
def pf (q:FP):O:=.pointer (some ⟨q.fb,0,none⟩)
def WK (q:FP) (me:gU) (f:gV):List O:=[i64 (f.who:Int),i64 (f.mth:Int),i64 (f.pc:Int),q.pv,i64 me.result,q.lc,q.cv,q.lv,q.sv]
structure qN (w:Ω) (q:FP) (me:gU) (f:gV):Prop where
 box:kV w q.fb 0 (WK q me f)
 loc:w.ownsRow 0 21 1 q.lv f.loc.length (f.loc.map i32)
 st:w.ownsRow 0 21 1 q.sv f.st.length (f.st.map i32)
 code:w.ownsRow 0 70 3 q.cv me.code.length (jK me.code)
 db:∀ i,q.lv.ownBlock=some i\/q.sv.ownBlock=some i\/q.cv.ownBlock=some i->i≠q.fb
 dl:∀ i,q.lv.ownBlock=some i->q.sv.ownBlock≠some i
 dc:∀ i,q.cv.ownBlock=some i->q.lv.ownBlock≠some i/\q.sv.ownBlock≠some i
def FM (q:FP) (i:Nat):Prop:=i=q.fb\/q.lv.ownBlock=some i\/q.sv.ownBlock=some i
structure wJ (q q':FP) (w w':Ω):Prop where
 same:q'={ q with sv:=q'.sv }
 sv:∀ i,q'.sv.ownBlock=some i->q.sv.ownBlock=some i\/w.heap.size<=i
 fr:Fr (FM q) w w'
variable {q q1:FP} {me:gU} {f f':gV} {w w' w1:Ω}
theorem wJ.of_ext (hx:aG w w'):wJ q q w w':=⟨rfl,λ_ h=>.inl h,Fr.of_ext hx⟩
theorem wJ.fm {q':FP} (h:wJ q q' w w') {i:Nat} (hi:FM q' i):FM q i\/w.heap.size<=i:=by
 obtain ⟨fb,lv,sv,pv,lc,cv⟩:=q;have e:=h.same;rcases hi with hi|hi|hi
 ·rw [e] at hi;exact .inl (.inl hi)
 ·rw [e] at hi;exact .inl (.inr (.inl hi))
 ·rcases h.sv i hi with h1|h1
  ·exact .inl (.inr (.inr h1))
  ·exact .inr h1
theorem wJ.trans {q':FP} (h:wJ q q1 w w1) (k:wJ q1 q' w1 w'):wJ q q' w w':=by
 refine ⟨?_,λi hi=>?_,h.fr.trans k.fr λi hi hm=>?_⟩
 ·rw [k.same,h.same]
 ·rcases k.sv i hi with h1|h1
  ·exact h.sv i h1
  ·exact .inr (Nat.le_trans h.fr.size h1)
 ·rcases h.fm hm with h1|h1
  ·exact h1
  ·omega
def FGo (q:FP) (me:gU) (f':gV) (w w':Ω):Prop:=∃ q',qN w' q' me f'/\wJ q q' w w'
theorem qN.hi (h:qN w q me f):∀ i,FM q i\/q.cv.ownBlock=some i->i < w.heap.size:=by
 rintro i ((rfl|hi|hi)|hi)
 ·exact h.box.lt
 ·exact (h.loc.lt i hi).2
 ·exact (h.st.lt i hi).2
 ·exact (h.code.lt i hi).2
theorem qN.fr {S:Nat->Prop} (h:qN w q me f) (g:Fr S w w') (hn:∀ i,FM q i\/q.cv.ownBlock=some i->¬ S i):qN w' q me f:=
 ⟨g.seg h.box (hn _ (.inl (.inl rfl))),g.own h.loc λi hi=>hn i (.inl (.inr (.inl hi))),g.own h.st λi hi=>hn i (.inl (.inr (.inr hi))),g.own h.code λi hi=>hn i (.inr hi),h.db,h.dl,h.dc⟩
theorem qN.ext (h:qN w q me f) (hx:aG w w'):qN w' q me f:=h.fr (Fr.of_ext (S:=λ_=>False) hx) λ_ _ h=>h
theorem qN.setS (h:qN w q me f) {w1:Ω} {v:O} {s:List Int} (g:Fr (λi=>q.sv.ownBlock=some i) w w1) (ho:w1.ownsRow 0 21 1 v s.length (s.map i32)) (hl:∀ i,v.ownBlock=some i->q.sv.ownBlock=some i\/w.heap.size<=i) :
  qN (w1.setCell ⟨q.fb,0+8,none⟩ v) { q with sv:=v } me { f with st:=s }/\wJ q { q with sv:=v } w (w1.setCell ⟨q.fb,0+8,none⟩ v):=by
 have f2:Fr (λi=>i=q.fb) w1 (w1.setCell ⟨q.fb,0+8,none⟩ v):=Fr.of_set rfl;have hsb:∀ i,q.sv.ownBlock=some i->i≠q.fb:=λi hi=>h.db i (.inr (.inl hi));have hfb:=h.box.lt
 have hv:∀ i,v.ownBlock=some i->i≠q.fb:=λi hi=>by
  rcases hl i hi with h1|h1
  ·exact hsb i h1
  ·omega
 have box1:=(g.seg h.box λhs=>hsb _ hs rfl).set (j:=8) (by simp [WK]) v;have F:Fr (FM q) w (w1.setCell ⟨q.fb,0+8,none⟩ v):=(g.or f2).mono λi hi=>hi.elim (λh=>.inr (.inr h)) .inl;have ol:=h.loc.lt;have oc:=h.code.lt;refine ⟨⟨box1,f2.own (g.own h.loc λi hi=>h.dl i hi) λi hi hs=>h.db i (.inl hi) hs,f2.own ho λi hi=>hv i hi,f2.own (g.own h.code λi hi=>(h.dc i hi).2) λi hi hs=>h.db i (.inr (.inr hi)) hs,?_,?_,?_⟩,rfl,hl,F⟩
 ·rintro i (hi|hi|hi)
  ·exact h.db i (.inl hi)
  ·exact hv i hi
  ·exact h.db i (.inr (.inr hi))
 ·intro i hi hv';rcases hl i hv' with h1|h1
  ·exact h.dl i hi h1
  ·have:=(ol i hi).2;omega
 ·intro i hi;refine ⟨(h.dc i hi).1,λhv'=>?_⟩;rcases hl i hv' with h1|h1
  ·exact (h.dc i hi).2 h1
  ·have:=(oc i hi).2;omega
theorem FGo.of_ext {f':gV} (hx:aG w w1) (h:FGo q me f' w1 w'):FGo q me f' w w':=by
 obtain ⟨q',h1,h2⟩:=h;exact ⟨q',h1,(wJ.of_ext hx).trans h2⟩
theorem aDo (h:qN w q me f) (hl:f.st.length<=1000) {n:Int}:aC prog 134 #[pf q,i32 n] w λ_ w'=>FGo q me { f with st:=f.st++[n] } w w':=by
 apply aIn;unfold LF;refine ⟨.inl ⟨_,rfl⟩,?_⟩;refine gC cY gX h.box rfl ?_;refine mF uQ [i32 n] rfl rfl (by simp) rfl λv1 w1 ho1 x1=>?_;have h1:=h.ext x1;refine apL uQ h1.st ho1 (by decide) (by rfl) (by omega) (by unfold maxLen;omega) (Nat.zero_le _) λg' cap' w2 ho2 hg2 hlies=>?_;have f2:Fr (λi=>q.sv.ownBlock=some i) w1 w2:=Fr.of_grown hg2 λk hk=>hk;refine ⟨.inl ⟨_,rfl⟩,?_⟩;refine OD cY ?_;have hb2:=f2.seg h1.box λhs=>h.db _ (.inr (.inl hs)) rfl;refine kM qG hb2 (show 8 < 9 by decide) rfl ?_
 obtain ⟨h3,s3⟩:=h1.setS (v:=.slice (some ⟨g',0,none⟩) (f.st.length+1) cap') (s:=f.st++[n]) f2 (by simpa using ho2) λi hi=>by
  have:g'=i:=by simpa [Value.ownBlock] using hi
  subst this;rcases hlies with hl|hl
  ·exact .inl hl
  ·exact .inr (by omega)
 exact FGo.of_ext x1 ⟨_,h3,s3⟩
theorem DY (h:qN w q me f) (hl:f.st.length<=1000) {k:Nat} (hk:k<=f.st.length):aC prog 91 #[pf q,i64 (k:Int)] w λr w'=>w'.ownsRow w.heap.size 21 1 r k ((hY k f.st).map i32)/\FGo q me { f with st:=jC k f.st } w w':=by
 apply aPg;unfold SM;refine ⟨.inl ⟨_,rfl⟩,?_⟩;refine gC cY gX h.box rfl (gG bX (aB.of_own h.st) ?_);refine jV.2 ?_;rw [aX (by omega)];have ea:(f.st.length:Int) - (k:Int)=((f.st.length - k:Nat):Int):=by omega
 rw [ea];generalize hat:f.st.length - k=at';refine ⟨.inl ⟨_,rfl⟩,?_⟩;refine gC cY gX h.box rfl ?_;obtain ⟨v',hrun,hsl⟩:=vV underlying37 mC (aB.of_own h.st) (lo:=some (.int .i64 (at':Int))) (hi':=none) (a:=at') (b:=f.st.length) (.inr rfl) (.inl ⟨rfl,rfl⟩) (by omega) (Nat.le_refl _);refine V.ok (hrun _) ?_;have etk:hY k f.st=f.st.drop at':=by unfold hY;rw [hat]
 have eun:jC k f.st=f.st.take at':=by unfold jC;rw [hat]
 have hsv:aB w v' 1 k ((f.st.drop at').map i32):=by
  have:=hsl w (aB.of_own h.st);rw [show f.st.length - at'=k by omega] at this;rw [List.map_drop];have e2:((f.st.map i32).drop at').take k=(f.st.map i32).drop at':=List.take_of_length_le (by simp;omega)
  rwa [e2] at this
 rw [etk,eun];refine aC.mono (R:=λr w'=>w'.ownsRow w.heap.size 21 1 r k ((f.st.drop at').map i32)/\aG w w') ?_ λr w1 ⟨hr1,x1⟩=>?_
 ·apply aCh;unfold FN;exact EO (R:=λr w'=>w'.ownsRow w.heap.size 21 1 r k ((f.st.drop at').map i32)/\aG w w') uQ hsv (List.all_eq_true.2 λv hv=>by obtain ⟨x,_,rfl⟩:=List.mem_map.1 hv;rfl) (by omega) λv' w' g1 g2=>⟨g1,g2⟩
 have h1:=h.ext x1;refine ⟨.inl ⟨_,rfl⟩,?_⟩;refine gC cY gX h1.box rfl ?_;obtain ⟨v2,hr2,hb2,ho2⟩:=ZL underlying37 mC h1.st (a:=at') (by omega);refine V.ok (hr2 _) ?_;refine ⟨.inl ⟨_,rfl⟩,?_⟩;refine OD cY ?_;have ho:=ho2 _ h1.st;refine kM qG h1.box (show 8 < 9 by decide) (bM ho) ?_;have eta:(f.st.take at').length=at':=by simp;omega
 obtain ⟨h3,s3⟩:=h1.setS (v:=v2) (s:=f.st.take at') (Fr.refl _ _) (by rw [eta,List.map_take];exact ho) λi hi=>.inl (hb2▸hi);refine ⟨s3.fr.own hr1 λi hi hm=>?_,FGo.of_ext x1 ⟨_,h3,s3⟩⟩;have:=(hr1.lt i hi).1;have:=h.hi i (.inl hm);omega
theorem yT (h:qN w q me f) (hl:f.st.length<=1000) (hk:1<=f.st.length):aC prog 135 #[pf q] w λr w'=>r=i32 (bI (hY 1 f.st) 0)/\FGo q me { f with st:=jC 1 f.st } w w':=by
 apply aIm;unfold LD;refine (DY h hl (k:=1) hk).mono λr w1 ⟨hs,hm⟩=>?_;obtain ⟨a,ha⟩:∃ a,hY 1 f.st=[a]:=List.length_eq_one_iff.1 (oL hk);rw [ha] at hs ⊢;exact nO bX cE (aB.of_own hs) (by omega) (by omega) rfl ⟨rfl,hm⟩
def HG (op:Int) (t:List Int):Int:=if op=15\/op=16\/op=26 then unF op (bI t 0) else if op=22 then rY (bI t 0) (bI t 1) (bI t 2) else oI op (bI t 0) (bI t 1)
def vG (op:Int):Nat:=if op=15\/op=16\/op=26 then 1 else if op=22 then 3 else 2
theorem VP {op:Int} (ho:jB op\/op=15\/op=16\/op=26\/op=22) (h:qN w q me f) (hl:f.st.length<=1000) (hk:vG op<=f.st.length) (h32:iB f.st) :
  aC prog 138 #[pf q,i64 op] w λr w'=>r=i32 (HG op (hY (vG op) f.st))/\FGo q me { f with st:=jC (vG op) f.st } w w':=by
 apply aIk;suffices key:∀ R:O->Ω->Prop,(∀ w',FGo q me { f with st:=jC (vG op) f.st } w w'->R (i32 (HG op (hY (vG op) f.st))) w')->AG (pf q) (i64 op) w R from key _ λw' h1=>⟨rfl,h1⟩;intro R hR;have ht:=(xH h32 (vG op)).1;unfold AG;by_cases h15:op=15
 ·subst h15;simp only [aF,Int.reduceEq,decide_true,decide_false,aE,aA];refine (yT h hl hk).mono λr w1 ⟨hr,hg⟩=>?_;subst hr;exact aUu.mono λr w' ⟨hr,hw⟩=>hr▸hw▸hR _ hg
 by_cases h16:op=16
 ·subst h16;simp only [aF,Int.reduceEq,decide_true,decide_false,aE,aA];refine (yT h hl hk).mono λr w1 ⟨hr,hg⟩=>?_;subst hr;exact aUt.mono λr w' ⟨hr,hw⟩=>hr▸hw▸hR _ hg
 by_cases h26:op=26
 ·subst h26;simp only [aF,Int.reduceEq,decide_true,decide_false,aE,aA];refine (yT h hl hk).mono λr w1 ⟨hr,hg⟩=>?_;subst hr;refine (wEq (sC ht 0) (by unfold mV;omega)).mono λr w' ⟨hr,hw⟩=>?_;have hw:=hw.symm;subst hw;subst hr;exact hR _ hg
 by_cases h22:op=22
 ·subst h22;simp only [aF,Int.reduceEq,decide_true,decide_false,aE,aA];refine (DY h hl (k:=3) hk).mono λr w1 ⟨ho,hg⟩=>?_;have ht3:(hY 3 f.st).length=3:=oL hk;have e22:vG 22=3:=rfl;rw [e22] at hR ht
  obtain ⟨x,y,z,hxyz⟩:∃ x y z,hY 3 f.st=[x,y,z]:=by
   match hY 3 f.st,ht3 with
   | [x,y,z],_=>exact ⟨x,y,z,rfl⟩
  rw [hxyz] at ho hR ht;have hs:=aB.of_own ho;have D1:aG w1 w1.drew:=(aG.refl _).drew;refine aH.mk' (λw'=>aG w1 w') D1 ?_;refine gF bX cE hs (λw' hw=>hw) (by omega) (by omega) (u:=i32 x) rfl ?_;refine gF bX cE hs (λw' hw=>hw) (by omega) (by omega) (u:=i32 y) rfl ?_;refine gF bX cE hs (λw' hw=>hw) (by omega) (by omega) (u:=i32 z) rfl ?_;refine (aSb (ht x (by simp)) (ht y (by simp)) (ht z (by simp))).mono λr w' ⟨hr,hw⟩=>?_;have hw:=hw.symm;subst hw;subst hr;obtain ⟨q',h1,h2⟩:=hg;exact ⟨D1,hR _ ⟨q',h1.ext D1,h2.trans (wJ.of_ext D1)⟩⟩
 have hb:jB op:=ho.resolve_right (by omega);have e2:vG op=2:=by unfold vG;rw [if_neg (by omega),if_neg h22]
 rw [e2] at hR ht hk;simp only [aF,h15,h16,h26,h22,decide_false,aA];refine (DY h hl (k:=2) hk).mono λr w1 ⟨ho,hg⟩=>?_;have ht2:(hY 2 f.st).length=2:=oL hk
 obtain ⟨x,y,hxy⟩:∃ x y,hY 2 f.st=[x,y]:=by
  match hY 2 f.st,ht2 with
  | [x,y],_=>exact ⟨x,y,rfl⟩
 rw [hxy] at ho hR ht;have eN:HG op [x,y]=oI op x y:=by unfold HG;rw [if_neg (by omega),if_neg h22];rfl
 rw [eN] at hR;have hs:=aB.of_own ho;have D1:aG w1 w1.drew:=(aG.refl _).drew;refine aH.mk' (λw'=>aG w1 w') D1 ?_;refine gF bX cE hs (λw' hw=>hw) (by omega) (by omega) (u:=i32 x) rfl ?_;refine gF bX cE hs (λw' hw=>hw) (by omega) (by omega) (u:=i32 y) rfl ?_;refine (WL hb (ht x (by simp)) (ht y (by simp))).mono λr w' ⟨hr,hw⟩=>?_;have hw:=hw.symm;subst hw;subst hr;obtain ⟨q',h1,h2⟩:=hg;exact ⟨D1,hR _ ⟨q',h1.ext D1,h2.trans (wJ.of_ext D1)⟩⟩
end Go.Proofs.YtgkkecladbmjkaaGreatDoor
