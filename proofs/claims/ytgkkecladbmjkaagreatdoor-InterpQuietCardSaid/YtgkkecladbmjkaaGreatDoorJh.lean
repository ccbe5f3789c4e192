/- Rooms are made: new ones, and an applet more. -/
import Derived.Test.YtgkkecladbmjkaaGreatDoorJg
import Derived.Test.YtgkkecladbmjkaaGreatDoorJe
import Derived.Laws.StructEq
import Derived.Test.YtgkkecladbmjkaaGreatDoorJb
import Derived.WalkKit
import Derived.ProofKit
import Derived.OpenShut
import Derived.WideKeyArgs
import Derived.ChangeArms
import Derived.FnData
set_option maxHeartbeats 8000000
namespace Go.Proofs.YtgkkecladbmjkaaGreatDoor
open Tryz
open Go.Vc Go.Tc
abbrev pt (b:Nat):Z:=.pointer (some ⟨b,0,none⟩)
abbrev nl:Z:=.slice none 0 0
def pS:List bS:=[⟨-1,3,0,false,.slice none 0 0,[]⟩,⟨-1,4,0,false,.slice none 0 0,[]⟩]
theorem rM:∀ a∈pS,a.dv=.slice none 0 0/\a.data=[]:=λa ha=>by
 simp only [pS,List.mem_cons,List.not_mem_nil,or_false] at ha;rcases ha with rfl|rfl<;>exact ⟨rfl,rfl⟩
theorem mT:∀ a∈pS,a.dv.ownBlock=none:=λa ha=>by rw [(rM a ha).1];rfl
theorem GL {w:O} {size:Int} (h1:64<=size) (h2:size<=4096):aD prog 73 #[i64 size] w λr w'=>(∃ hb,r=.tuple #[.pointer (some ⟨hb,0,none⟩),i64 0]/\w.heap.size < hb/\fK w' hb w.heap.size size w.heap.size 2 pS)/\aG w w':=by
 apply aSa;unfold QE;refine aV.2 ?_;simp only [show ¬ size < 64 by omega,dI,fA,aH,reduceIte,Bool.false_eq_true,decide_false];simp only [show ¬ size > 4096 by omega,aA,decide_false];refine bld lI [(0,i64 (-1)),(1,i64 3)] rfl rfl ?_;refine bld lI [(0,i64 (-1)),(1,i64 4)] rfl rfl ?_;refine V.ok (v:=.slice (some ⟨w.heap.size,0,none⟩) 2 2) (w':=w.alloc (.cells (iL pS).toArray 127)) (by kernel_rfl) ?_;have hab:bA (w.alloc (.cells (iL pS).toArray 127)) w.heap.size (iL pS) 127:=by unfold bA;rw [heap_alloc_new]
 have hx1:aG w (w.alloc (.cells (iL pS).toArray 127)):=(aG.refl w).alloc _;generalize w.alloc (.cells (iL pS).toArray 127)=w1 at hab hx1 ⊢;refine bld aQt [(0,i64 size),(1,.slice (some ⟨w.heap.size,0,none⟩) 2 2)] rfl rfl ?_;refine uN λw2 hhb x2=>?_;have hl:=hab.lt;have hl2:=hhb.lt;refine ⟨⟨_,rfl,by omega,⟨hhb,eF (hab.ext x2) rfl (Nat.le_refl _) (by unfold maxLen;decide),λa ha=>?_,λa ha=>?_,λi j a b x hi _ hx=>?_,λa ha=>?_,by omega,by decide,by omega,λa ha=>?_⟩⟩,hx1.trans x2⟩
 ·rw [(rM a ha).1,(rM a ha).2];exact ⟨rfl,.inl ⟨rfl,rfl⟩⟩
 ·rw [(rM a ha).2];exact Nat.zero_le _
 ·rw [mT a (List.mem_of_getElem? hi)] at hx;cases hx
 iterate 2
  ·rw [mT a ha];exact λh=>by cases h
theorem vL {w:O} {size:Int} (h1:64<=size) (h2:size<=4096):aD prog 33 #[i64 size] w λr w'=>(∃ rb hb,r=.tuple #[pt rb,i64 0]/\w.heap.size < hb/\hb < rb/\bA w' rb [pt hb,nl,nl,nl,nl] 134/\fK w' hb w.heap.size size w.heap.size 2 pS)/\aG w w':=by
 apply aSv;unfold QV;refine (GL h1 h2).mono λr w1 ⟨⟨hb,hr,hbw,hh⟩,x1⟩=>?_;subst hr;refine cD.2 (cC.2 (aX.2 ?_));simp only [ne_eq,not_true_eq_false,aA,decide_false];refine bld aQw [(0,.pointer (some ⟨hb,0,none⟩))] rfl rfl ?_;refine uN λw2 hrb x2=>?_;exact ⟨⟨_,hb,rfl,hbw,hh.heap.lt,hrb,hh.ext x2⟩,x1.trans x2⟩
theorem KZ {w:O} {size:Int}:aD prog 85 #[i64 size] w λr w'=>(∃ yb,r=pt yb/\w.heap.size < yb/\bA w' yb [i64 size,.slice (some ⟨w.heap.size,0,none⟩) 2 2] 156/\bA w' w.heap.size (iL pS) 127)/\aG w w':=by
 apply aRx;unfold QC;refine bld lI [(0,i64 (-1)),(1,i64 3)] rfl rfl ?_;refine bld lI [(0,i64 (-1)),(1,i64 4)] rfl rfl ?_;refine V.ok (v:=.slice (some ⟨w.heap.size,0,none⟩) 2 2) (w':=w.alloc (.cells (iL pS).toArray 127)) (by kernel_rfl) ?_;have hab:bA (w.alloc (.cells (iL pS).toArray 127)) w.heap.size (iL pS) 127:=by unfold bA;rw [heap_alloc_new]
 have hx1:aG w (w.alloc (.cells (iL pS).toArray 127)):=(aG.refl w).alloc _;generalize w.alloc (.cells (iL pS).toArray 127)=w1 at hab hx1 ⊢;refine bld aQu [(0,i64 size),(1,.slice (some ⟨w.heap.size,0,none⟩) 2 2)] rfl rfl ?_;refine uN λw2 hhb x2=>?_;exact ⟨⟨_,rfl,hab.lt,hhb,hab.ext x2⟩,hx1.trans x2⟩
theorem KY {w:O} {size:Int}:aD prog 40 #[i64 size] w λr w'=>(∃ xb yb,r=pt xb/\w.heap.size < yb/\yb < xb/\bA w' xb [pt yb,nl,nl,nl,nl] 139/\bA w' yb [i64 size,.slice (some ⟨w.heap.size,0,none⟩) 2 2] 156/\bA w' w.heap.size (iL pS) 127)/\aG w w':=by
 apply aSr;unfold QS;refine KZ.mono λr w1 ⟨⟨yb,hr,hyw,hy,ha⟩,x1⟩=>?_;subst hr;refine bld aQv [(0,pt yb)] rfl rfl ?_;refine uN λw2 hrb x2=>?_;exact ⟨⟨_,yb,rfl,hyw,hy.lt,hrb,hy.ext x2,ha.ext x2⟩,x1.trans x2⟩
def BR (p:iP):Lb->Nat->Prop
 | .rm,i=>jF p.rp i
 | .im,i=>p.IB i
 | .fo,i=>p.rp.fv.ownBlock=some i
 | .fd,i=>FdM p.vs i
 | .mb,i=>p.rp.iv.ownBlock=some i
 | _,_=>False
structure RR (l:List bE) (p:iP) (fd:List (List Int)) (B:Nat) (w:O):Prop where
 room:kF p.rp w
 iv:∃ cs,w.ownsRow 0 46 5 p.rp.iv l.length cs/\∀ (k:Nat) i,l[k]?=some i->∃ pk:cQ,(cs.drop (k*5)).take 5=pk.cells i/\vH p.IB w λw'=>iQ w' pk i
 fv:w.ownsRow 0 37 1 p.rp.fv fd.length p.vs
 row:∀ (k:Nat) v d,p.vs[k]?=some v->fd[k]?=some d->w.ownsRow 0 21 1 v d.length (d.map i32)
 dj:∀ (j k:Nat) u v i,p.vs[j]?=some u->p.vs[k]?=some v->u.ownBlock=some i->v.ownBlock=some i->j=k
 sep:Sep (BR p) w.heap.size
 ge:∀ a i,BR p a i->B<=i
 hB:B<=w.heap.size
section
variable {l:List bE} {p:iP} {fd:List (List Int)} {B:Nat} {w w':O}
theorem RR.ext (h:RR l p fd B w) (hx:aG w w'):RR l p fd B w':=by
 obtain ⟨cs,h1,h2⟩:=h.iv;refine ⟨h.room.ext hx,⟨cs,hx.own h1,λk i hk=>?_⟩,hx.own h.fv,λk v d hk hd=>hx.own (h.row k v d hk hd),h.dj,h.sep.step hx.size .ex λa i ha=>.inl ha,h.ge,Nat.le_trans h.hB hx.size⟩;obtain ⟨pk,h3,h4⟩:=h2 k i hk;exact ⟨pk,h3,h4.ext hx⟩
theorem BF {α:Type} {sz:Nat} {cs row:List Z} {l:List α} {k:Nat} {x:α} (hl:cs.length=l.length*sz) (hk:k < l.length):((cs++row).drop (k*sz)).take sz=(cs.drop (k*sz)).take sz:=by
 have h1:k*sz+sz<=cs.length:=by
  have:=Nat.mul_le_mul_right sz (show k+1<=l.length by omega);rw [Nat.add_mul,Nat.one_mul] at this;omega
 rw [List.drop_append_of_le_length (by omega),List.take_append_of_le_length (by rw [List.length_drop];omega)]
theorem aNb {w:O} {p:cQ} {i:bE} {K:Z->O->Prop} (h1:∃ a n c,p.fv=.slice a n c) (h2:∃ a n c,p.iv=.slice a n c) (h3:∃ a n c,p.mv=.slice a n c) (h4:∃ a n c,p.xv=.slice a n c)
  (hk:∀ w1,bA w1 w.heap.size (p.cells i) 46->aG w w1->K (.slice (some ⟨w.heap.size,0,none⟩) 1 1) w1):V prog (Instr.buildSlice 24 1 #[(0,p.val i)]) w K:=by
 obtain ⟨fv,iv,mv,xv⟩:=p;obtain ⟨a1,n1,c1,rfl⟩:=h1;obtain ⟨a2,n2,c2,rfl⟩:=h2;obtain ⟨a3,n3,c3,rfl⟩:=h3;obtain ⟨a4,n4,c4,rfl⟩:=h4;refine V.ok (v:=.slice (some ⟨w.heap.size,0,none⟩) 1 1) (w':=w.alloc (.cells (cQ.cells ⟨.slice a1 n1 c1,.slice a2 n2 c2,.slice a3 n3 c3,.slice a4 n4 c4⟩ i).toArray 46)) (by kernel_rfl) ?_;exact hk _ (by unfold bA;rw [heap_alloc_new]) ((aG.refl _).alloc _)
theorem pO.shapes {B:Nat} {p:cQ} {i:bE} (h:pO B w p i):(∃ a n c,p.fv=.slice a n c)/\(∃ a n c,p.iv=.slice a n c)/\(∃ a n c,p.mv=.slice a n c)/\∃ a n c,p.xv=.slice a n c:=by
 obtain ⟨h1,h2,⟨c1,h3,_⟩,c2,h5,_⟩:=h;obtain ⟨a1,b1,e1⟩:=(aC.of_own h1).shape;obtain ⟨a2,b2,e2⟩:=(aC.of_own h3).shape;obtain ⟨a3,b3,e3⟩:=(aC.of_own h5).shape;obtain ⟨a4,b4,e4⟩:=(aC.of_own h2).shape;exact ⟨⟨_,_,_,e1⟩,⟨_,_,_,e2⟩,⟨_,_,_,e3⟩,_,_,_,e4⟩
theorem yT (h:RR l p fd B w) (hl4:l.length < 4) (hfl:fd.length=l.length) {q:cQ} {i:bE} (hA:iQ w q i) (hi:i.right) :
  aD prog 35 #[kM p.rp,q.val i] w λrv w'=>∃ p',rv=.tuple #[i64 (l.length:Int),.bool true]/\RR (l++[i]) p' (fd++[List.replicate i.fields.length 0]) B w'/\p'.rp.rb=p.rp.rb/\p'.rp.ps=p.rp.ps/\Fr (λi=>∃ a,BR p a i) w w'/\∀ a i,BR p' a i->BR p a i\/w.heap.size<=i:=by
 have hfn:=hi.1.2;obtain ⟨cs,hiv,hrows⟩:=h.iv;have hBw:=h.hB;apply aSu;suffices key:∀ R:Z->O->Prop,(∀ p' w',RR (l++[i]) p' (fd++[List.replicate i.fields.length 0]) B w'->p'.rp.rb=p.rp.rb->p'.rp.ps=p.rp.ps->Fr (λi=>∃ a,BR p a i) w w'->(∀ a i,BR p' a i->BR p a i\/w.heap.size<=i)->R (.tuple #[i64 (l.length:Int),.bool true]) w')->EF (kM p.rp) (q.val i) w R from key _ λp' w' h1 h2 h3 h4 h5=>⟨p',rfl,h1,h2,h3,h4,h5⟩;intro R hR;unfold EF;refine uN λw1 hb x1=>?_;have hb:bA w1 w.heap.size (q.cells i) 46:=hb;have lb:=hb.lt;have rm1:=h.room.room.ext x1;obtain ⟨ia,ic,hie⟩:=(aC.of_own hiv).shape;refine ⟨.inl ⟨_,rfl⟩,?_⟩;refine kU cH jC rm1 rfl (gL lO (aC.of_own (x1.own hiv)) (lT.2 ?_));simp only [show ¬ (((l.length:Nat):Int)>=4) by omega,decide_false,aA];have D1:aG w1 w1.drew:=(aG.refl _).drew;have rbl:p.rp.rb < w.heap.size:=h.room.room.lt;have oldl:∀ {a:Lb} {i:Nat},BR p a i->i < w.heap.size:=λhi=>h.sep.lt _ _ hi;have ivrb:p.rp.iv.ownBlock≠some p.rp.rb:=λhe=>by cases h.sep.dj .mb .rm _ he (.inl rfl)
 have fvrb:p.rp.fv.ownBlock≠some p.rp.rb:=λhe=>by cases h.sep.dj .fo .rm _ he (.inl rfl)
 refine aI.mk' (λw'=>Fr (λi=>p.rp.iv.ownBlock=some i) w1 w') (Fr.of_ext D1) ⟨.inl ⟨_,rfl⟩,?_⟩;refine RS cH jC (λw' hw=>hw.seg rm1 ivrb) rfl ?_;refine yA (λw' hw=>(hw.blk hb λhe=>by have:=oldl (a:=.mb) he;omega).boxed) kZ rfl ?_;refine (BO (hA.ext (x1.trans D1)) hi).mono λrv w2 ⟨p2,hrv,hO,x2⟩=>?_;subst hrv;have x12:=D1.trans x2;have s1:=x1.size;have sD:=D1.size;have s2:=x2.size;refine ⟨Fr.of_ext x12,?_⟩;obtain ⟨sh1,sh2,sh3,sh4⟩:=hO.shapes;refine aNb sh1 sh2 sh3 sh4 λw3 hb3 x3=>?_;have x13:=x12.trans x3;refine ⟨Fr.of_ext x13,?_⟩;have l3:=hb3.lt;have s3:=x3.size;have hiv3:=(x1.trans x13).own hiv;refine apZ underlying24 iN rfl (by omega) hiv3 (eF hb3 rfl (Nat.zero_le _) (by unfold maxLen;omega)) (by decide) hO.one (by omega) (by unfold maxLen;omega) (Nat.zero_le _) λg' cap' w4 ho4 hg4 hlies=>?_;have f4:Fr (λi=>p.rp.iv.ownBlock=some i) w3 w4:=Fr.of_grown hg4 λk hk=>hk;have f14:Fr (λi=>p.rp.iv.ownBlock=some i) w1 w4:=(Fr.of_ext (S:=λi=>p.rp.iv.ownBlock=some i) x13).trans f4 λ_ _ h=>h;refine ⟨f14,.inl ⟨_,rfl⟩,?_⟩;refine yFA cH ?_;have rm4:=f14.seg rm1 ivrb;refine pE OO rm4 (show 1 < 5 by decide) rfl ?_;have f5:Fr (λi=>i=p.rp.rb) w4 (w4.setCell ⟨p.rp.rb,0+1,none⟩ (.slice (some ⟨g',0,none⟩) (l.length+1) cap')):=Fr.of_set rfl;have rm5:=rm4.set (j:=1) (by simp) (.slice (some ⟨g',0,none⟩) (l.length+1) cap')
 have s4:=f4.size
 have hg':p.rp.iv.ownBlock=some g'\/w2.heap.size < g'/\g'=w3.heap.size:=by
  rcases hlies with hl|hl
  ·exact .inl hl
  ·exact .inr (by omega)
 have hgrb:g'≠p.rp.rb:=λhe=>by
  rcases hg' with h'|h'
  ·exact ivrb (he▸h')
  ·omega
 have ho5:=f5.own ho4 λi hi he=>hgrb ((show g'=i by simpa [Value.ownBlock] using hi).trans he);have hb5:bA (w4.setCell ⟨p.rp.rb,0+1,none⟩ (.slice (some ⟨g',0,none⟩) (l.length+1) cap')) w.heap.size (q.cells i) 46:=f5.blk (f14.blk hb λhe=>by have:=oldl (a:=.mb) he;omega) (by omega);generalize w4.setCell ⟨p.rp.rb,0+1,none⟩ (.slice (some ⟨g',0,none⟩) (l.length+1) cap')=w5 at f5 rm5 ho5 hb5 ⊢;have s5:=f5.size;have F15:Fr (λi=>i=p.rp.rb\/p.rp.iv.ownBlock=some i) w1 w5:=(f14.or f5).mono λi hi=>hi.symm;have rm5:lV w5 p.rp.rb 0 [.pointer (some ⟨p.rp.hb,0,none⟩),.slice (some ⟨g',0,none⟩) (l.length+1) cap',p.rp.fv,p.rp.pub,p.rp.sec]:=rm5;have D5:aG w5 w5.drew:=(aG.refl _).drew
 have hfv5:=F15.own (x1.own h.fv) λi hi hs=>by
  rcases hs with hs|hs
  ·exact fvrb (hs▸hi)
  ·cases h.sep.dj .fo .mb _ hi hs
 refine aI.mk' (λw'=>Fr (λi=>p.rp.fv.ownBlock=some i) w5 w') (Fr.of_ext D5) ⟨.inl ⟨_,rfl⟩,?_⟩;refine RS cY gU (λw' hw=>hw.seg rm5 fvrb) rfl ?_;refine dS (λw' hw=>(hw.blk hb5 λhe=>by have:=oldl (a:=.fo) he;omega).boxed) iI bB rfl ?_;obtain ⟨qa,qc,hqe⟩:=hA.fl.shape;rw [hqe];refine aB.ok (λw' _=>lD underlying42) ?_;refine xV (n:=i.fields.length) rfl underlying37 uD rfl (by omega) (by omega) λw6 hb6 x6 hs6=>?_;have x56:=D5.trans x6;refine ⟨Fr.of_ext x56,?_⟩;refine kJ KG [.slice (some ⟨w5.drew.heap.size,0,none⟩) i.fields.length i.fields.length] rfl rfl (by simp) rfl λv7 w7 ho7 x7=>?_;have x57:=x56.trans x7;refine ⟨Fr.of_ext x57,?_⟩;have sD5:=D5.size;have s6:=x6.size;have s7:=x7.size;refine apL KG (x57.own hfv5) ho7 (by decide) (by rfl) (by omega) (by unfold maxLen;omega) (Nat.zero_le _) λg2 cap2 w8 ho8 hg8 hlies8=>?_;have f8:Fr (λi=>p.rp.fv.ownBlock=some i) w7 w8:=Fr.of_grown hg8 λk hk=>hk;have f58:Fr (λi=>p.rp.fv.ownBlock=some i) w5 w8:=(Fr.of_ext (S:=λi=>p.rp.fv.ownBlock=some i) x57).trans f8 λ_ _ h=>h;refine ⟨f58,.inl ⟨_,rfl⟩,?_⟩;refine yFA cY ?_;have rm8:=f58.seg rm5 fvrb;refine pE DC rm8 (show 2 < 5 by decide) rfl ?_;have f9:Fr (λi=>i=p.rp.rb) w8 (w8.setCell ⟨p.rp.rb,0+2,none⟩ (.slice (some ⟨g2,0,none⟩) (fd.length+1) cap2)):=Fr.of_set rfl;have rm9:=rm8.set (j:=2) (by simp) (.slice (some ⟨g2,0,none⟩) (fd.length+1) cap2)
 have s8:=f8.size
 have hg2:p.rp.fv.ownBlock=some g2\/w6.heap.size < g2/\g2=w7.heap.size:=by
  rcases hlies8 with hl|hl
  ·exact .inl hl
  ·have:=ho7.lt;refine .inr ⟨?_,hl⟩;have h7:=mA ho7 (by decide);obtain ⟨g7,_,e7⟩:=h7;have:=ho7.lt g7 (by rw [e7];rfl);omega
 have hg2rb:g2≠p.rp.rb:=λhe=>by
  rcases hg2 with h'|h'
  ·exact fvrb (he▸h')
  ·omega
 have ho9:=f9.own ho8 λi hi he=>hg2rb ((show g2=i by simpa [Value.ownBlock] using hi).trans he);have rm9:lV (w8.setCell ⟨p.rp.rb,0+2,none⟩ (.slice (some ⟨g2,0,none⟩) (fd.length+1) cap2)) p.rp.rb 0 [.pointer (some ⟨p.rp.hb,0,none⟩),.slice (some ⟨g',0,none⟩) (l.length+1) cap',.slice (some ⟨g2,0,none⟩) (fd.length+1) cap2,p.rp.pub,p.rp.sec]:=rm9;generalize w8.setCell ⟨p.rp.rb,0+2,none⟩ (.slice (some ⟨g2,0,none⟩) (fd.length+1) cap2)=w9 at f9 rm9 ho9 ⊢;have s9:=f9.size;refine ⟨.inl ⟨_,rfl⟩,?_⟩;refine kU cH jC rm9 rfl (aGn.2 (jE.2 ?_));rw [show IntKind.i64.wrap (((l.length+1:Nat):Int) - 1)=(l.length:Int) from by rw [aY (by omega)];omega];have F59:Fr (λi=>i=p.rp.rb\/p.rp.fv.ownBlock=some i) w5 w9:=(f58.or f9).mono λi hi=>hi.symm
 have F19:Fr (λi=>i=p.rp.rb\/p.rp.iv.ownBlock=some i\/p.rp.fv.ownBlock=some i) w1 w9:=(F15.or F59).mono λi hi=>by
  rcases hi with (h|h)|h|h
  ·exact .inl h
  ·exact .inr (.inl h)
  ·exact .inl h
  ·exact .inr (.inr h)
 have F09:Fr (λi=>i=p.rp.rb\/p.rp.iv.ownBlock=some i\/p.rp.fv.ownBlock=some i) w w9:=(Fr.of_ext (S:=λi=>i=p.rp.rb\/p.rp.iv.ownBlock=some i\/p.rp.fv.ownBlock=some i) x1).trans F19 λ_ _ h=>h
 have no:∀ {a:Lb} {j:Nat},a≠.mb->a≠.fo->BR p a j->j≠p.rp.rb->¬ (j=p.rp.rb\/p.rp.iv.ownBlock=some j\/p.rp.fv.ownBlock=some j):=λ{a j} h1 h2 hj hr hs=>by
  rcases hs with hs|hs|hs
  ·exact hr hs
  ·exact h1 (h.sep.dj a .mb j hj hs)
  ·exact h2 (h.sep.dj a .fo j hj hs)
 have nrm:∀ {a:Lb} {j:Nat},a≠.rm->BR p a j->j≠p.rp.rb:=λ{a j} ha hj he=>ha (h.sep.dj a .rm j hj (.inl he));have hg'9:g' < w9.heap.size:=by have:=(ho5.lt g' rfl).2;omega
 have hg29:g2 < w9.heap.size:=(ho9.lt g2 rfl).2;have l6:=hb6.lt;have ho6:w6.ownsRow 0 21 1 (.slice (some ⟨w5.drew.heap.size,0,none⟩) i.fields.length i.fields.length) i.fields.length (List.replicate i.fields.length (i32 0)):=eF hb6 (by simp) (Nat.zero_le _) (by unfold maxLen;omega)
 have ho69:=f9.own (f8.own (x7.own ho6) λj hj hs=>by
   have hj:w5.drew.heap.size=j:=by simpa [Value.ownBlock] using hj
   have:=oldl (a:=.fo) hs;omega) λj hj hs=>by
   have hj:w5.drew.heap.size=j:=by simpa [Value.ownBlock] using hj
   omega
 have mu':∀ j,jF { p.rp with iv:=.slice (some ⟨g',0,none⟩) (l.length+1) cap',fv:=.slice (some ⟨g2,0,none⟩) (fd.length+1) cap2 } j↔jF p.rp j:=λj=>Iff.rfl
 have hO9:vH (λj=>w1.drew.heap.size<=j/\j < w2.heap.size) w9 λw'=>iQ w' p2 i:=by
  have d0:vH (λj=>w1.drew.heap.size<=j/\j < w2.heap.size) w2 λw'=>iQ w' p2 i:=(hO.dep.lt).imp λw' h=>h.at_;have d4:=(d0.ext x3).fr f4 λj hj hs=>by have:=oldl (a:=.mb) hs;omega
  have d5:=d4.fr f5 λj hj he=>by omega
  have d8:=(d5.ext x57).fr f8 λj hj hs=>by have:=oldl (a:=.fo) hs;omega
  exact d8.fr f9 λj hj he=>by omega
 have cls:∀ {a:Lb} {j:Nat},BR { p with rp:={ p.rp with iv:=.slice (some ⟨g',0,none⟩) (l.length+1) cap',fv:=.slice (some ⟨g2,0,none⟩) (fd.length+1) cap2 },vs:=p.vs++[.slice (some ⟨w5.drew.heap.size,0,none⟩) i.fields.length i.fields.length],IB:=λj=>p.IB j\/(w1.drew.heap.size<=j/\j < w2.heap.size) } a j ->
   (BR p a j/\j < w.heap.size)\/(a=.mb/\w2.heap.size < j/\j < w4.heap.size)\/(a=.fo/\w6.heap.size < j/\j < w9.heap.size)\/(a=.fd/\j=w5.drew.heap.size)\/(a=.im/\w1.drew.heap.size<=j/\j < w2.heap.size):=by
  intro a j hj;cases a with
  | rm=>exact .inl ⟨hj,oldl (a:=.rm) hj⟩
  | im=>
   rcases hj with hj|hj
   ·exact .inl ⟨hj,oldl (a:=.im) hj⟩
   ·exact .inr (.inr (.inr (.inr ⟨rfl,hj⟩)))
  | fo=>
   have hj:g2=j:=by simpa [BR,Value.ownBlock] using hj
   subst hj;rcases hg2 with h'|h'
   ·exact .inl ⟨h',oldl (a:=.fo) h'⟩
   ·exact .inr (.inr (.inl ⟨rfl,h'.1,hg29⟩))
  | fd=>
   obtain ⟨v,hv,hj⟩:=hj;rcases List.mem_append.1 hv with hv|hv
   ·exact .inl ⟨⟨v,hv,hj⟩,oldl (a:=.fd) ⟨v,hv,hj⟩⟩
   ·rw [List.mem_singleton] at hv;subst hv;have hj:w5.drew.heap.size=j:=by simpa [Value.ownBlock] using hj
    exact .inr (.inr (.inr (.inl ⟨rfl,hj.symm⟩)))
  | mb=>
   have hj:g'=j:=by simpa [BR,Value.ownBlock] using hj
   subst hj;rcases hg' with h'|h'
   ·exact .inl ⟨h',oldl (a:=.mb) h'⟩
   ·exact .inr (.inl ⟨rfl,h'.1,(ho4.lt g' rfl).2⟩)
  | fr=>exact hj.elim
  | ex=>exact hj.elim
 refine hR { p with rp:={ p.rp with iv:=.slice (some ⟨g',0,none⟩) (l.length+1) cap',fv:=.slice (some ⟨g2,0,none⟩) (fd.length+1) cap2 },vs:=p.vs++[.slice (some ⟨w5.drew.heap.size,0,none⟩) i.fields.length i.fields.length],IB:=λj=>p.IB j\/(w1.drew.heap.size<=j/\j < w2.heap.size) } w9 ⟨?_,?_,?_,λk v d hk hd=>?_,λj k u v x hj hk hu hv=>?_,?_,λa j hj=>?_,by omega⟩ rfl rfl (F09.mono λj hj=>?_) λa j hj=>?_
 ·-- the room's box, and the rest
  have H:=h.room;have F0:=F09;have nrb:∀ {j},jF p.rp j->j≠p.rp.rb->¬ (j=p.rp.rb\/p.rp.iv.ownBlock=some j\/p.rp.fv.ownBlock=some j):=λhm hr=>no (a:=.rm) (by intro e;cases e) (by intro e;cases e) hm hr
  exact ⟨rm9,H.h.frT F0 λj hs=>⟨λe=>nrb (.inr (.inl e)) (λe2=>H.lt (e2.symm.trans e)) hs,λe=>nrb (.inr (.inr (.inl e))) (λe2=>(H.fresh p.rp.rb (.inl rfl)).1 (e2.symm.trans e)) hs,λa ha e=>nrb (.inr (.inr (.inr (.inl ⟨a,ha,e⟩)))) (λe2=>(H.fresh p.rp.rb (.inl rfl)).2.1 a ha (e2▸e)) hs⟩,
   F0.own H.qp λj hj=>nrb (.inr (.inr (.inr (.inr (.inl hj))))) λe=>(H.fresh p.rp.rb (.inl rfl)).2.2.1 (e▸hj),F0.own H.qs λj hj=>nrb (.inr (.inr (.inr (.inr (.inr hj))))) λe=>(H.fresh p.rp.rb (.inl rfl)).2.2.2 (e▸hj),H.lp,H.ls,H.ne,H.np,H.ns,H.gp,H.gs,H.lt,H.fresh,H.two,H.sz,H.bytes⟩
 ·refine ⟨cs++p2.cells i,?_,λk x hk=>?_⟩
  ·have:=f9.own (f58.own ho5 λj hj hs=>?_) λj hj he=>?_
   ·simpa using this
   ·have hj:g'=j:=by simpa [Value.ownBlock] using hj
    subst hj;rcases hg' with h'|h'
    ·cases h.sep.dj .mb .fo _ h' hs
    ·have:=oldl (a:=.fo) hs;omega
   ·have hj:g'=j:=by simpa [Value.ownBlock] using hj
    exact hgrb (hj.trans he)
  ·by_cases hkl:k < l.length
   ·rw [List.getElem?_append_left hkl] at hk;obtain ⟨pk,e1,e2⟩:=hrows k x hk;refine ⟨pk,by rw [BF (l:=l) (x:=x) hiv.1 hkl];exact e1,?_⟩;have d1:=e2.fr F09 λj hj hs=>no (a:=.im) (by intro e;cases e) (by intro e;cases e) hj (nrm (a:=.im) (by intro e;cases e) hj) hs;exact d1.mono λj _ hj=>.inl hj
   ·have hkk:k=l.length:=by have:=(List.getElem?_eq_some_iff.1 hk).1;simp at this;omega
    subst hkk;rw [List.getElem?_concat_length] at hk;cases hk;refine ⟨p2,?_,hO9.mono λj _ hj=>.inr hj⟩;rw [<- hiv.1,List.drop_left];rfl
 ·simpa using ho9
 ·by_cases hkl:k < fd.length
  ·rw [List.getElem?_append_left hkl] at hd;have hlv:p.vs.length=fd.length:=by have:=h.fv.1;omega
   rw [List.getElem?_append_left (by omega)] at hk;have hm:=List.mem_of_getElem? hk;exact F09.own (h.row k v d hk hd) λj hj hs=>no (a:=.fd) (by intro e;cases e) (by intro e;cases e) ⟨v,hm,hj⟩ (nrm (a:=.fd) (by intro e;cases e) ⟨v,hm,hj⟩) hs
  ·have hkk:k=fd.length:=by have:=(List.getElem?_eq_some_iff.1 hd).1;simp at this;omega
   subst hkk;have hlv:p.vs.length=fd.length:=by have:=h.fv.1;omega
   rw [List.getElem?_concat_length] at hd;rw [<- hlv,List.getElem?_concat_length] at hk;cases hd;cases hk;simpa using ho69
 ·have hlv:p.vs.length=fd.length:=by have:=h.fv.1;omega
  have cls:∀ {j:Nat} {u:Z},(p.vs++[Value.slice (some ⟨w5.drew.heap.size,0,none⟩) i.fields.length i.fields.length])[j]?=some u->(p.vs[j]?=some u)\/(j=p.vs.length/\u=Value.slice (some ⟨w5.drew.heap.size,0,none⟩) i.fields.length i.fields.length):=λ{j u} hj=>by
   by_cases hjl:j < p.vs.length
   ·rw [List.getElem?_append_left hjl] at hj;exact .inl hj
   ·have hjj:j=p.vs.length:=by have:=(List.getElem?_eq_some_iff.1 hj).1;simp at this;omega
    subst hjj;rw [List.getElem?_concat_length] at hj;exact .inr ⟨rfl,(Option.some.inj hj).symm⟩
  rcases cls hj with hj|⟨hj,rfl⟩<;>rcases cls hk with hk|⟨hk,rfl⟩
  ·exact h.dj j k u v x hj hk hu hv
  ·have:=oldl (a:=.fd) ⟨u,List.mem_of_getElem? hj,hu⟩;have hv:w5.drew.heap.size=x:=by simpa [Value.ownBlock] using hv
   omega
  ·have:=oldl (a:=.fd) ⟨v,List.mem_of_getElem? hk,hv⟩;have hu:w5.drew.heap.size=x:=by simpa [Value.ownBlock] using hu
   omega
  ·omega
 ·-- apart
  refine ⟨λa b j ha hb=>?_,λa j ha=>?_⟩
  ·rcases cls ha with ⟨ha,la⟩|⟨ea,la,lb⟩|⟨ea,la,lb⟩|⟨ea,ha⟩|⟨ea,la,lb⟩<;>rcases cls hb with ⟨hb,ma⟩|⟨eb,ma,mb⟩|⟨eb,ma,mb⟩|⟨eb,hb⟩|⟨eb,ma,mb⟩
   all_goals first|exact h.sep.dj a b j ha hb|(rw [ea,eb];done)|(exfalso;omega)
  ·rcases cls ha with ⟨_,_⟩|⟨_,_⟩|⟨_,_⟩|⟨_,_⟩|⟨_,_⟩<;>omega
 ·have old:=λhx=>h.ge a j hx;cases a with
  | rm=>exact h.ge .rm j hj
  | im=>
   rcases hj with hj|hj
   ·exact h.ge .im j hj
   ·omega
  | fo=>
   have hj:g2=j:=by simpa [BR,Value.ownBlock] using hj
   subst hj;rcases hg2 with h'|h'
   ·exact h.ge .fo _ h'
   ·omega
  | fd=>
   obtain ⟨v,hv,hj⟩:=hj;rcases List.mem_append.1 hv with hv|hv
   ·exact h.ge .fd j ⟨v,hv,hj⟩
   ·rw [List.mem_singleton] at hv;subst hv;have hj:w5.drew.heap.size=j:=by simpa [Value.ownBlock] using hj
    omega
  | mb=>
   have hj:g'=j:=by simpa [BR,Value.ownBlock] using hj
   subst hj;rcases hg' with h'|h'
   ·exact h.ge .mb _ h'
   ·omega
  | fr=>exact hj.elim
  | ex=>exact hj.elim
 ·rcases hj with hj|hj|hj
  ·rw [hj];exact ⟨.rm,.inl rfl⟩
  ·exact ⟨.mb,hj⟩
  ·exact ⟨.fo,hj⟩
 ·rcases cls hj with ⟨hj,_⟩|⟨_,h2,_⟩|⟨_,h2,_⟩|⟨_,h2⟩|⟨_,h2,_⟩
  ·exact .inl hj
  all_goals exact .inr (by omega)
end
def UF (q:QP) (i:Nat):Prop:=i=q.xb\/i=q.yb
structure qG (q:QP) (w:O):Prop where
 xbox:lV w q.xb 0 [pt q.yb,q.iv,q.fv,q.pub,q.sec]
 ybox:bA w q.yb [i64 q.size,.slice (some ⟨q.g,0,none⟩) q.ar.length q.cap] 156
 list:w.ownsRow 0 127 5 (.slice (some ⟨q.g,0,none⟩) q.ar.length q.cap) q.ar.length (iL q.ar)
 data:∀ a∈q.ar,w.ownsRow 0 5 1 a.dv a.data.length (a.data.map u8)
 len:∀ a∈q.ar,a.data.length<=64
 qp:w.ownsRow 0 5 1 q.pub q.tp.length (q.tp.map u8)
 qs:w.ownsRow 0 5 1 q.sec q.ts.length (q.ts.map u8)
 lp:q.tp.length<=128
 ls:q.ts.length<=128
 xy:q.xb≠q.yb
 dj:∀ i,UF q i->¬ DP q i
 two:2<=q.ar.length
 cnt:q.ar.length<=1000
 sz:0<=q.size/\q.size<=1000
def BQ (q:QP) (vs:List Z):Lb->Nat->Prop
 | .rm,i=>UF q i\/DP q i
 | .fo,i=>q.fv.ownBlock=some i
 | .fd,i=>FdM vs i
 | .mb,i=>q.iv.ownBlock=some i
 | _,_=>False
structure RBd (l:List (cQ × bE)) (q:QP) (vs:List Z) (fd:List (List Int)) (B:Nat) (w:O):Prop where
 ref:qG q w
 iv:∃ cs,w.ownsRow 0 46 5 q.iv l.length cs/\cs.all cB=true/\∀ (k:Nat) x,l[k]?=some x->(cs.drop (k*5)).take 5=x.1.cells x.2
 one:vs.all cB=true
 fv:w.ownsRow 0 37 1 q.fv fd.length vs
 row:∀ (k:Nat) v d,vs[k]?=some v->fd[k]?=some d->w.ownsRow 0 21 1 v d.length (d.map i32)
 djv:∀ (j k:Nat) u v i,vs[j]?=some u->vs[k]?=some v->u.ownBlock=some i->v.ownBlock=some i->j=k
 sep:Sep (BQ q vs) w.heap.size
 ge:∀ a i,BQ q vs a i->B<=i
 hB:B<=w.heap.size
section
variable {q:QP} {vs:List Z} {fd:List (List Int)} {B:Nat} {w w':O} {K:Z->O->Prop} {l:List (cQ × bE)}
theorem qG.hi (h:qG q w):∀ i,UF q i\/DP q i->i < w.heap.size:=by
 intro i hm;rcases hm with (rfl|rfl)|rfl|⟨a,ha,he⟩|he|he
 ·exact h.xbox.lt
 ·exact h.ybox.lt
 ·exact (h.list.lt _ rfl).2
 ·exact ((h.data a ha).lt _ he).2
 ·exact (h.qp.lt _ he).2
 ·exact (h.qs.lt _ he).2
theorem qG.fr {S:Nat->Prop} (h:qG q w) (f:Fr S w w') (hn:∀ i,S i->¬ UF q i/\¬ DP q i):qG q w':=
 ⟨f.seg h.xbox λhs=>(hn _ hs).1 (.inl rfl),f.blk h.ybox λhs=>(hn _ hs).1 (.inr rfl),
  f.own h.list λi hi hs=>(hn i hs).2 (.inl (by simpa [Value.ownBlock] using hi.symm)),λa ha=>f.own (h.data a ha) λi hi hs=>(hn i hs).2 (.inr (.inl ⟨a,ha,hi⟩)),h.len,
  f.own h.qp λi hi hs=>(hn i hs).2 (.inr (.inr (.inl hi))),f.own h.qs λi hi hs=>(hn i hs).2 (.inr (.inr (.inr hi))),h.lp,h.ls,h.xy,h.dj,h.two,h.cnt,h.sz⟩
theorem qG.lists {w1:O} (h:qG q w) (f:Fr (λi=>i=q.xb) w w1) {iv fv:Z} (hs:lV w1 q.xb 0 [pt q.yb,iv,fv,q.pub,q.sec]):qG { q with iv:=iv,fv:=fv } w1:=by
 have no:∀ i,DP q i->i≠q.xb:=λi hi e=>h.dj q.xb (.inl rfl) (e▸hi)
 exact ⟨hs,f.blk h.ybox λe=>h.xy e.symm,f.own h.list λi hi=>no i (.inl (by simpa [Value.ownBlock] using hi.symm)),λa ha=>f.own (h.data a ha) λi hi=>no i (.inr (.inl ⟨a,ha,hi⟩)),h.len,
  f.own h.qp λi hi=>no i (.inr (.inr (.inl hi))),f.own h.qs λi hi=>no i (.inr (.inr (.inr hi))),h.lp,h.ls,h.xy,h.dj,h.two,h.cnt,h.sz⟩
theorem aNc (hk:∀ w',bA w' w.heap.size [] 46->aG w w'->K (.slice (some ⟨w.heap.size,0,none⟩) 0 0) w'):V prog (Instr.buildSlice 24 0 #[]) w K:=by
 refine V.ok (v:=.slice (some ⟨w.heap.size,0,none⟩) 0 0) (w':=w.alloc (.cells (([]:List Z)).toArray 46)) (by kernel_rfl) ?_;exact hk _ (by unfold bA;rw [heap_alloc_new]) ((aG.refl _).alloc _)
theorem aQn (hk:∀ w',bA w' w.heap.size [] 37->aG w w'->K (.slice (some ⟨w.heap.size,0,none⟩) 0 0) w'):V prog (Instr.buildSlice 132 0 #[]) w K:=by
 refine V.ok (v:=.slice (some ⟨w.heap.size,0,none⟩) 0 0) (w':=w.alloc (.cells (([]:List Z)).toArray 37)) (by kernel_rfl) ?_;exact hk _ (by unfold bA;rw [heap_alloc_new]) ((aG.refl _).alloc _)
theorem TS {a:Option Addr} {n c:Nat} (hk:∀ w',bA w' w.heap.size [.slice a n c] 37->aG w w'->K (.slice (some ⟨w.heap.size,0,none⟩) 1 1) w'):V prog (Instr.buildSlice 132 1 #[(0,.slice a n c)]) w K:=by
 refine V.ok (v:=.slice (some ⟨w.heap.size,0,none⟩) 1 1) (w':=w.alloc (.cells (([.slice a n c]:List Z)).toArray 37)) (by kernel_rfl) ?_;exact hk _ (by unfold bA;rw [heap_alloc_new]) ((aG.refl _).alloc _)
theorem aQj {b n:Nat} {v:Z} {cs:List Z} (hb:bA w b [] 46) (hv:aC w v 5 n cs) (h1:cs.all cB=true) (hn:n<=1000)
  (hk:∀ v' w',w'.ownsRow b 46 5 v' n cs->Fr (λi=>i=b) w w'->(v'.ownBlock=some b\/v'.ownBlock=some w.heap.size)->K v' w'):V prog (Builtin.append_ #[24,24] 24 #[.slice (some ⟨b,0,none⟩) 0 0,v]) w K:=by
 have ho:w.ownsRow b 46 5 (.slice (some ⟨b,0,none⟩) 0 0) 0 []:=eF hb rfl (Nat.le_refl _) (by decide);refine apG underlying24 iN rfl (by decide) ho hv h1 (by omega) (by unfold maxLen;omega) (Nat.le_of_lt hb.lt) λv' w' h2 h3 h4=>?_;refine hk v' w' (by simpa using h2) (Fr.of_grown h3 λk hk=>?_) h4;simpa [Value.ownBlock] using hk.symm
theorem cpF {b n:Nat} {v:Z} {cs:List Z} (hb:bA w b [] 37) (hv:aC w v 1 n cs) (h1:cs.all cB=true) (hn:n<=1000)
  (hk:∀ v' w',w'.ownsRow b 37 1 v' n cs->Fr (λi=>i=b) w w'->(v'.ownBlock=some b\/v'.ownBlock=some w.heap.size)->K v' w'):V prog (Builtin.append_ #[132,132] 132 #[.slice (some ⟨b,0,none⟩) 0 0,v]) w K:=by
 have ho:w.ownsRow b 37 1 (.slice (some ⟨b,0,none⟩) 0 0) 0 []:=eF hb rfl (Nat.le_refl _) (by decide);refine apG underlying132 yB rfl (by decide) ho hv h1 (by omega) (by unfold maxLen;omega) (Nat.le_of_lt hb.lt) λv' w' h2 h3 h4=>?_;refine hk v' w' (by simpa using h2) (Fr.of_grown h3 λk hk=>?_) h4;simpa [Value.ownBlock] using hk.symm
theorem UD (h:RBd l q vs fd B w) (hl4:l.length < 4) (hfl:fd.length=l.length) {p:cQ} {i:bE} (hA:iQ w p i) (hfn:i.fields.length<=64) :
  aD prog 41 #[sC q,p.val i] w λ_ w'=>∃ q' vs',RBd (l++[(p,i)]) q' vs' (fd++[List.replicate i.fields.length 0]) B w'/\q'={ q with iv:=q'.iv,fv:=q'.fv }/\Fr (λi=>i=q.xb) w w'/\∀ a i,BQ q' vs' a i->BQ q vs a i\/w.heap.size<=i:=by
 obtain ⟨cs,hiv,hcs1,hrows⟩:=h.iv;have hBw:=h.hB;have hlv:vs.length=fd.length:=by have:=h.fv.1;omega
 have oldl:∀ {a:Lb} {i:Nat},BQ q vs a i->i < w.heap.size:=λhi=>h.sep.lt _ _ hi;have xbl:q.xb < w.heap.size:=h.ref.xbox.lt;have noX:∀ {a:Lb} {j:Nat},a≠.rm->BQ q vs a j->j≠q.xb:=λ{a j} ha hj he=>ha (h.sep.dj a .rm j hj (.inl (.inl he)));obtain ⟨a1,c1,e1⟩:=hA.fl.shape;obtain ⟨_,hx2,_⟩:=hA.im;obtain ⟨a2,c2,e2⟩:=hx2.shape;obtain ⟨_,hx3,_⟩:=hA.mt;obtain ⟨a3,c3,e3⟩:=hx3.shape;obtain ⟨a4,c4,e4⟩:=hA.ex.shape;have hp1:(p.cells i).all cB=true:=by unfold cQ.cells;rw [e1,e2,e3,e4];rfl
 apply aSq;suffices key:∀ R:Z->O->Prop,(∀ rv q' vs' w',RBd (l++[(p,i)]) q' vs' (fd++[List.replicate i.fields.length 0]) B w'->q'={ q with iv:=q'.iv,fv:=q'.fv }->Fr (λi=>i=q.xb) w w'->(∀ a i,BQ q' vs' a i->BQ q vs a i\/w.heap.size<=i)->R rv w')->ED (sC q) (p.val i) w R from key _ λrv q' vs' w' h1 h2 h3 h4=>⟨q',vs',h1,h2,h3,h4⟩;intro R hR;unfold ED;refine uN λw1 hb x1=>?_;have hb:bA w1 w.heap.size (p.cells i) 46:=hb;have lb:=hb.lt;have s1:=x1.size;have xb1:=h.ref.xbox.ext x1;refine ⟨λw'=>∃ g cap,w'.ownsRow w1.heap.size 46 5 (.slice (some ⟨g,0,none⟩) (l.length+1) cap) (l.length+1) (cs++p.cells i)/\lV w' q.xb 0 [pt q.yb,.slice (some ⟨g,0,none⟩) (l.length+1) cap,q.fv,q.pub,q.sec]/\Fr (λi=>i=q.xb) w w'/\bA w' w.heap.size (p.cells i) 46,?_,?_⟩
 ·have D1:aG w1 w1.drew:=(aG.refl _).drew;have sD1:=D1.size;refine aI.mk' (λw'=>aG w1 w') D1 ⟨.inl ⟨_,rfl⟩,?_⟩;refine RS dO jC (λw' hw=>xb1.ext hw) rfl ?_;refine yA (λw' hw=>(hb.ext hw).boxed) kZ rfl ?_;have hsl:aC w1.drew q.iv 5 l.length cs:=aC.of_own ((x1.trans D1).own hiv)
  have tail:∀ {w':O} {v10:Z} {b12:Nat},aG w1 w'->w'.ownsRow w1.heap.size 46 5 v10 l.length cs->bA w' b12 (p.cells i) 46->∀ {K:Z->O->Prop},(∀ g cap w'',aG w1 w''->w''.ownsRow w1.heap.size 46 5 (.slice (some ⟨g,0,none⟩) (l.length+1) cap) (l.length+1) (cs++p.cells i)->K (.slice (some ⟨g,0,none⟩) (l.length+1) cap) w'') ->
    V prog (Builtin.append_ #[24,24] 24 #[v10,.slice (some ⟨b12,0,none⟩) 1 1]) w' K:=by
   intro w' v10 b12 x ho10 hb12 K hk;refine apZ underlying24 iN rfl (by omega) ho10 (eF hb12 rfl (Nat.zero_le _) (by unfold maxLen;omega)) (by decide) hp1 (by omega) (by unfold maxLen;omega) x.size λg cap w'' h1 h2 _=>?_;exact hk g cap w'' (x.grown h2 λk hk=>(ho10.lt k hk).1) h1
  have fin:∀ {g cap:Nat} {w':O},aG w1 w'->w'.ownsRow w1.heap.size 46 5 (.slice (some ⟨g,0,none⟩) (l.length+1) cap) (l.length+1) (cs++p.cells i) ->
    U prog (Instr.storeAt 24 (.pointer (some ⟨q.xb,0+1,none⟩)) (.slice (some ⟨g,0,none⟩) (l.length+1) cap)) w' λ_ w'=>∃ g cap,w'.ownsRow w1.heap.size 46 5 (.slice (some ⟨g,0,none⟩) (l.length+1) cap) (l.length+1) (cs++p.cells i)/\lV w' q.xb 0 [pt q.yb,.slice (some ⟨g,0,none⟩) (l.length+1) cap,q.fv,q.pub,q.sec]/\Fr (λi=>i=q.xb) w w'/\bA w' w.heap.size (p.cells i) 46:=by
   intro g cap w' x ho;refine pE OO (xb1.ext x) (show 1 < 5 by decide) rfl ?_;have f:Fr (λi=>i=q.xb) w' (w'.setCell ⟨q.xb,0+1,none⟩ (.slice (some ⟨g,0,none⟩) (l.length+1) cap)):=Fr.of_set rfl;exact ⟨g,cap,f.own ho λj hj e=>(by have:=(ho.lt j hj).1;omega),(xb1.ext x).set (j:=1) (by simp) _,(Fr.of_ext (S:=λi=>i=q.xb) (x1.trans x)).trans f λ_ _ h=>h,f.blk (hb.ext x) (by omega)⟩
  have bs:∀ {w':O} {K:Z->O->Prop},(∀ w1,bA w1 w'.heap.size (p.cells i) 46->aG w' w1->K (.slice (some ⟨w'.heap.size,0,none⟩) 1 1) w1)->V prog (Instr.buildSlice 24 1 #[(0,.agg (p.cells i).toArray)]) w' K:=λhk=>aNb (p:=p) (i:=i) ⟨_,_,_,e1⟩ ⟨_,_,_,e2⟩ ⟨_,_,_,e3⟩ ⟨_,_,_,e4⟩ hk;refine ⟨aNc λw3 hb3 x3=>?_,bs λw3 hb3 x3=>?_⟩
  ·have X3:=D1.trans x3;have s3:=x3.size;have l3:=hb3.lt;refine ⟨X3,⟨aQj hb3 (hsl.ext x3) hcs1 (by omega) λv4 w4 ho4 f4 hv4=>?_,bs λw4 hb4 x4=>?_⟩⟩
   ·have X4:aG w1 w4:=f4.ext X3 λj hj=>by omega
    refine ⟨X4,bs λw5 hb5 x5=>?_⟩;have X5:=X4.trans x5;refine ⟨X5,tail X5 (aR (x5.own ho4) (by omega)) hb5 λg cap w6 X6 ho6=>⟨X6,.inl ⟨_,rfl⟩,yFA dO (fin X6 ho6)⟩⟩
   ·have X4:=X3.trans x4;refine ⟨X4,aQj (hb3.ext x4) ((hsl.ext x3).ext x4) hcs1 (by omega) λv5 w5 ho5 f5 hv5=>?_⟩;have X5:aG w1 w5:=f5.ext X4 λj hj=>by omega
    refine ⟨X5,tail X5 (aR ho5 (by omega)) (f5.blk hb4 (by omega)) λg cap w6 X6 ho6=>⟨X6,.inl ⟨_,rfl⟩,yFA dO (fin X6 ho6)⟩⟩
  ·have X3:=D1.trans x3;have s3:=x3.size;have l3:=hb3.lt;refine ⟨X3,aNc λw4 hb4 x4=>?_⟩;have X4:=X3.trans x4;refine ⟨X4,aQj hb4 ((hsl.ext x3).ext x4) hcs1 (by omega) λv5 w5 ho5 f5 hv5=>?_⟩;have X5:aG w1 w5:=f5.ext X4 λj hj=>by omega
   refine ⟨X5,tail X5 (aR ho5 (by omega)) (f5.blk (hb3.ext x4) (by omega)) λg cap w6 X6 ho6=>⟨X6,.inl ⟨_,rfl⟩,yFA dO (fin X6 ho6)⟩⟩
 ·-- the fields
  rintro w5 ⟨g,cap,ho5,rm5,F5,hb5⟩ _;have s5:=F5.size;have lb5:=hb5.lt;have D5:aG w5 w5.drew:=(aG.refl _).drew;have sD5:=D5.size;have hfv5:w5.drew.ownsRow 0 37 1 q.fv fd.length vs:=D5.own (F5.own h.fv λj hj e=>noX (a:=.fo) (by intro e;cases e) hj e);have hfs:aC w5.drew q.fv 1 fd.length vs:=aC.of_own hfv5;have hone:=h.one;refine aI.mk' (λw'=>aG w5 w') D5 ⟨.inl ⟨_,rfl⟩,?_⟩;refine RS eO gU (λw' hw=>rm5.ext hw) rfl ?_;refine dS (λw' hw=>(hb5.ext hw).boxed) iI bB rfl ?_;rw [e1];refine aB.ok (λw' _=>lD underlying42) ?_
  have fin:∀ {w':O} {v22:Z} {b26 b27:Nat},aG w5 w'->w'.ownsRow w5.heap.size 37 1 v22 fd.length vs->bA w' b26 (List.replicate i.fields.length (i32 0)) 21->w5.heap.size<=b26->bA w' b27 [.slice (some ⟨b26,0,none⟩) i.fields.length i.fields.length] 37->(∀ j,v22.ownBlock=some j->j≠b26) ->
    V prog (Builtin.append_ #[132,132] 132 #[v22,.slice (some ⟨b27,0,none⟩) 1 1]) w' λt28 w23=>aG w5 w23/\Go.Vc.aM (sC q)/\aB prog (λw'=>aG w5 w') (Instr.fieldAt 139 (sC q) 2) λt30=>U prog (Instr.storeAt 132 t30 t28) w23 λ_ w24=>R (.tuple #[]) w24:=by
   intro w' v22 b26 b27 X ho22 hb26 h26 hb27 h2226;have l26:=hb26.lt;refine apL KG ho22 (eF hb27 rfl (Nat.zero_le _) (by unfold maxLen;omega)) (by decide) (by rfl) (by omega) (by unfold maxLen;omega) X.size λg2 cap2 w8 ho8 hg8 hlies8=>?_;have X8:aG w5 w8:=X.grown hg8 λk hk=>(ho22.lt k hk).1;refine ⟨X8,.inl ⟨_,rfl⟩,yFA eO ?_⟩;refine pE DC (rm5.ext X8) (show 2 < 5 by decide) rfl ?_;have f9:Fr (λi=>i=q.xb) w8 (w8.setCell ⟨q.xb,0+2,none⟩ (.slice (some ⟨g2,0,none⟩) (fd.length+1) cap2)):=Fr.of_set rfl;have rm9:lV (w8.setCell ⟨q.xb,0+2,none⟩ (.slice (some ⟨g2,0,none⟩) (fd.length+1) cap2)) q.xb 0 [pt q.yb,.slice (some ⟨g,0,none⟩) (l.length+1) cap,.slice (some ⟨g2,0,none⟩) (fd.length+1) cap2,q.pub,q.sec]:=(rm5.ext X8).set (j:=2) (by simp) _;have hg2:=ho8.lt g2 rfl;have hg:=ho5.lt g rfl
   have hg226:g2≠b26:=λe=>by
    rcases hlies8 with hl|hl
    ·exact h2226 _ hl e
    ·omega
   have ho9:=f9.own ho8 λj hj e=>(by have:=(ho8.lt j hj).1;omega);have ho59:=f9.own (X8.own ho5) λj hj e=>(by have:=(ho5.lt j hj).1;omega);have f8:Fr (λj=>v22.ownBlock=some j) w' w8:=Fr.of_grown hg8 λk hk=>hk;have ho26:w'.ownsRow 0 21 1 (.slice (some ⟨b26,0,none⟩) i.fields.length i.fields.length) i.fields.length (List.replicate i.fields.length (i32 0)):=eF hb26 (by simp) (Nat.zero_le _) (by unfold maxLen;omega)
   have ho269:=f9.own (f8.own ho26 λj hj e=>h2226 j e (by simpa [Value.ownBlock] using hj.symm)) λj hj e=>(by
    have hj:b26=j:=by simpa [Value.ownBlock] using hj
    omega)
   have F9:Fr (λi=>i=q.xb) w (w8.setCell ⟨q.xb,0+2,none⟩ (.slice (some ⟨g2,0,none⟩) (fd.length+1) cap2)):=(F5.trans (Fr.of_ext (S:=λi=>i=q.xb) X8) λ_ _ h=>h).trans f9 λ_ _ h=>h;have s9:=f9.size;have s8:=X8.size;have l26':b26 < w8.heap.size:=by have:=f8.size;omega
   generalize w8.setCell ⟨q.xb,0+2,none⟩ (.slice (some ⟨g2,0,none⟩) (fd.length+1) cap2)=w9 at f9 rm9 ho9 ho59 ho269 F9 s9 ⊢
   have cls:∀ {a:Lb} {j:Nat},BQ { q with iv:=.slice (some ⟨g,0,none⟩) (l.length+1) cap,fv:=.slice (some ⟨g2,0,none⟩) (fd.length+1) cap2 } (vs++[.slice (some ⟨b26,0,none⟩) i.fields.length i.fields.length]) a j ->
     (BQ q vs a j/\j < w.heap.size)\/(a=.mb/\j=g)\/(a=.fo/\j=g2)\/(a=.fd/\j=b26):=by
    intro a j hj;cases a with
    | rm=>exact .inl ⟨hj,oldl (a:=.rm) hj⟩
    | fo=>exact .inr (.inr (.inl ⟨rfl,by simpa [BQ,Value.ownBlock] using hj.symm⟩))
    | fd=>
     obtain ⟨v,hv,hj⟩:=hj;rcases List.mem_append.1 hv with hv|hv
     ·exact .inl ⟨⟨v,hv,hj⟩,oldl (a:=.fd) ⟨v,hv,hj⟩⟩
     ·rw [List.mem_singleton] at hv;subst hv;exact .inr (.inr (.inr ⟨rfl,by simpa [Value.ownBlock] using hj.symm⟩))
    | mb=>exact .inr (.inl ⟨rfl,by simpa [BQ,Value.ownBlock] using hj.symm⟩)
    | im=>exact hj.elim
    | fr=>exact hj.elim
    | ex=>exact hj.elim
   have hgw5:=hg.2;refine hR _ { q with iv:=.slice (some ⟨g,0,none⟩) (l.length+1) cap,fv:=.slice (some ⟨g2,0,none⟩) (fd.length+1) cap2 } (vs++[.slice (some ⟨b26,0,none⟩) i.fields.length i.fields.length]) w9 ⟨h.ref.lists F9 rm9,⟨cs++p.cells i,?_,?_,λk x hk=>?_⟩,?_,?_,λk v d hk hd=>?_,λj k u v x hj hk hu hv=>?_,⟨λa b j ha hb=>?_,λa j ha=>?_⟩,λa j ha=>?_,by omega⟩ rfl F9 λa j ha=>?_
   ·have:=aR ho59 (Nat.zero_le _);simpa using this
   ·rw [List.all_append,hcs1,hp1];rfl
   ·by_cases hkl:k < l.length
    ·rw [List.getElem?_append_left hkl] at hk;rw [BF (l:=l) (x:=x) hiv.1 hkl];exact hrows k x hk
    ·have hkk:k=l.length:=by have:=(List.getElem?_eq_some_iff.1 hk).1;simp at this;omega
     subst hkk;rw [List.getElem?_concat_length] at hk;cases hk;rw [<- hiv.1,List.drop_left];rfl
   ·rw [List.all_append,hone];rfl
   ·have:=aR ho9 (Nat.zero_le _);simpa using this
   ·by_cases hkl:k < fd.length
    ·rw [List.getElem?_append_left hkl] at hd;rw [List.getElem?_append_left (by omega)] at hk;have hm:=List.mem_of_getElem? hk;exact F9.own (h.row k v d hk hd) λj hj hs=>noX (a:=.fd) (by intro e;cases e) ⟨v,hm,hj⟩ hs
    ·have hkk:k=fd.length:=by have:=(List.getElem?_eq_some_iff.1 hd).1;simp at this;omega
     subst hkk;rw [List.getElem?_concat_length] at hd;rw [<- hlv,List.getElem?_concat_length] at hk;cases hd;cases hk;simpa using ho269
   ·have cls2:∀ {j:Nat} {u:Z},(vs++[Value.slice (some ⟨b26,0,none⟩) i.fields.length i.fields.length])[j]?=some u->(vs[j]?=some u)\/(j=vs.length/\u=Value.slice (some ⟨b26,0,none⟩) i.fields.length i.fields.length):=λ{j u} hj=>by
     by_cases hjl:j < vs.length
     ·rw [List.getElem?_append_left hjl] at hj;exact .inl hj
     ·have hjj:j=vs.length:=by have:=(List.getElem?_eq_some_iff.1 hj).1;simp at this;omega
      subst hjj;rw [List.getElem?_concat_length] at hj;exact .inr ⟨rfl,(Option.some.inj hj).symm⟩
    rcases cls2 hj with hj|⟨hj,rfl⟩<;>rcases cls2 hk with hk|⟨hk,rfl⟩
    ·exact h.djv j k u v x hj hk hu hv
    ·have:=oldl (a:=.fd) ⟨u,List.mem_of_getElem? hj,hu⟩;have hv:b26=x:=by simpa [Value.ownBlock] using hv
     omega
    ·have:=oldl (a:=.fd) ⟨v,List.mem_of_getElem? hk,hv⟩;have hu:b26=x:=by simpa [Value.ownBlock] using hu
     omega
    ·omega
   ·rcases cls ha with ⟨ha,la⟩|⟨ea,ha⟩|⟨ea,ha⟩|⟨ea,ha⟩<;>rcases cls hb with ⟨hb,lb⟩|⟨eb,hb⟩|⟨eb,hb⟩|⟨eb,hb⟩
    all_goals first|exact h.sep.dj a b j ha hb|(rw [ea,eb];done)|(exfalso;omega)
   ·rcases cls ha with ⟨_,_⟩|⟨_,_⟩|⟨_,_⟩|⟨_,_⟩<;>omega
   ·rcases cls ha with ⟨ha,_⟩|⟨_,_⟩|⟨_,_⟩|⟨_,_⟩
    ·exact h.ge a j ha
    all_goals omega
   ·rcases cls ha with ⟨ha,_⟩|⟨_,_⟩|⟨_,_⟩|⟨_,_⟩
    ·exact .inl ha
    all_goals exact .inr (by omega)
  have mk:∀ {w':O} {K:Z->O->Prop},(∀ w6,bA w6 w'.heap.size (List.replicate i.fields.length (i32 0)) 21->aG w' w6->K (.slice (some ⟨w'.heap.size,0,none⟩) i.fields.length i.fields.length) w6)->V prog (Instr.makeSlice 37 (i64 (i.fields.length:Int)) (i64 (i.fields.length:Int))) w' K:=λhk=>xV (n:=i.fields.length) rfl underlying37 uD rfl (by omega) (by omega) λw6 hb6 x6 _=>hk w6 hb6 x6;refine ⟨aQn λw3 hb3 x3=>?_,mk λw3 hb3 x3=>?_⟩
  ·have X3:=D5.trans x3;have s3:=x3.size;have l3:=hb3.lt;refine ⟨X3,⟨cpF hb3 (hfs.ext x3) hone (by omega) λv4 w4 ho4 f4 hv4=>?_,mk λw4 hb4 x4=>?_⟩⟩
   ·have X4:aG w5 w4:=f4.ext X3 λj hj=>by omega
    refine ⟨X4,mk λw6 hb6 x6=>?_⟩;have X6:=X4.trans x6;refine ⟨X6,TS λw7 hb7 x7=>?_⟩;have X7:=X6.trans x7;have q4:=X4.size;exact ⟨X7,fin X7 (aR (x7.own (x6.own ho4)) (by omega)) (hb6.ext x7) q4 hb7 λj hj e=>(by have:=(ho4.lt j hj).2;omega)⟩
   ·have X4:=X3.trans x4;have s4:=x4.size;have l4:=hb4.lt;refine ⟨X4,⟨cpF (hb3.ext x4) ((hfs.ext x3).ext x4) hone (by omega) λv6 w6 ho6 f6 hv6=>?_,TS λw6 hb6 x6=>?_⟩⟩
    ·have X6:aG w5 w6:=f6.ext X4 λj hj=>by omega
     refine ⟨X6,TS λw7 hb7 x7=>?_⟩;have X7:=X6.trans x7;exact ⟨X7,fin X7 (aR (x7.own ho6) (by omega)) ((f6.blk hb4 (by omega)).ext x7) (by omega) hb7 λj hj e=>(by rcases hv6 with h'|h'<;>(rw [h'] at hj;have hj:=Option.some.inj hj;omega))⟩
    ·have X6:=X4.trans x6;have s6:=x6.size;have l6:=hb6.lt;refine ⟨X6,cpF ((hb3.ext x4).ext x6) (((hfs.ext x3).ext x4).ext x6) hone (by omega) λv7 w7 ho7 f7 hv7=>?_⟩;have X7:aG w5 w7:=f7.ext X6 λj hj=>by omega
     exact ⟨X7,fin X7 (aR ho7 (by omega)) (f7.blk (hb4.ext x6) (by omega)) (by omega) (f7.blk hb6 (by omega)) λj hj e=>(by rcases hv7 with h'|h'<;>(rw [h'] at hj;have hj:=Option.some.inj hj;omega))⟩
  ·have X3:=D5.trans x3;have s3:=x3.size;have l3:=hb3.lt;refine ⟨X3,⟨aQn λw4 hb4 x4=>?_,TS λw4 hb4 x4=>?_⟩⟩
   ·have X4:=X3.trans x4;have s4:=x4.size;have l4:=hb4.lt;refine ⟨X4,⟨cpF hb4 ((hfs.ext x3).ext x4) hone (by omega) λv6 w6 ho6 f6 hv6=>?_,TS λw6 hb6 x6=>?_⟩⟩
    ·have X6:aG w5 w6:=f6.ext X4 λj hj=>by omega
     refine ⟨X6,TS λw7 hb7 x7=>?_⟩;have X7:=X6.trans x7;exact ⟨X7,fin X7 (aR (x7.own ho6) (by omega)) ((f6.blk (hb3.ext x4) (by omega)).ext x7) (by omega) hb7 λj hj e=>(by rcases hv6 with h'|h'<;>(rw [h'] at hj;have hj:=Option.some.inj hj;omega))⟩
    ·have X6:=X4.trans x6;have s6:=x6.size;have l6:=hb6.lt;refine ⟨X6,cpF (hb4.ext x6) (((hfs.ext x3).ext x4).ext x6) hone (by omega) λv7 w7 ho7 f7 hv7=>?_⟩;have X7:aG w5 w7:=f7.ext X6 λj hj=>by omega
     exact ⟨X7,fin X7 (aR ho7 (by omega)) (f7.blk ((hb3.ext x4).ext x6) (by omega)) (by omega) (f7.blk hb6 (by omega)) λj hj e=>(by rcases hv7 with h'|h'<;>(rw [h'] at hj;have hj:=Option.some.inj hj;omega))⟩
   ·have X4:=X3.trans x4;have s4:=x4.size;have l4:=hb4.lt;refine ⟨X4,aQn λw6 hb6 x6=>?_⟩;have X6:=X4.trans x6;have s6:=x6.size;have l6:=hb6.lt;refine ⟨X6,cpF hb6 (((hfs.ext x3).ext x4).ext x6) hone (by omega) λv7 w7 ho7 f7 hv7=>?_⟩;have X7:aG w5 w7:=f7.ext X6 λj hj=>by omega
    exact ⟨X7,fin X7 (aR ho7 (by omega)) (f7.blk ((hb3.ext x4).ext x6) (by omega)) (by omega) (f7.blk (hb4.ext x6) (by omega)) λj hj e=>(by rcases hv7 with h'|h'<;>(rw [h'] at hj;have hj:=Option.some.inj hj;omega))⟩
end
section
variable {q:QP} {w w':O} {K:Z->O->Prop}
structure GX (q q':QP) (w w':O):Prop where
 pe:q'.xb=q.xb/\q'.yb=q.yb/\q'.size=q.size/\q'.iv=q.iv/\q'.fv=q.fv
 mu:∀ i,DP q' i->DP q i\/w.heap.size<=i
 fr:Fr (UF q) w w'
theorem GX.trans {q1 q2:QP} {w1 w2:O} (h:GX q q1 w w1) (k:GX q1 q2 w1 w2):GX q q2 w w2:=by
 obtain ⟨⟨a1,a2,a3,a4,a5⟩,m1,f1⟩:=h;obtain ⟨⟨b1,b2,b3,b4,b5⟩,m2,f2⟩:=k;refine ⟨⟨b1.trans a1,b2.trans a2,b3.trans a3,b4.trans a4,b5.trans a5⟩,λi hi=>?_,f1.trans f2 λi hi hm=>?_⟩
 ·rcases m2 i hi with h|h
  ·exact m1 i h
  ·exact .inr (Nat.le_trans f1.size h)
 ·rcases hm with hm|hm
  ·exact .inl (hm.trans a1)
  ·exact .inr (hm.trans a2)
theorem qG.relist (h:qG q w) {w1 w2:O} {g54 c54:Nat} {dv:Z} {d':List Int} {k:Nat} {x:bS} (_:q.ar[k]?=some x) (hx:aG w w1) (h54:w1.ownsRow w.heap.size 127 5 (.slice (some ⟨g54,0,none⟩) q.ar.length c54) q.ar.length (iL (q.ar.set k { x with dv:=dv,data:=d' }))) (hdv:w1.ownsRow w.heap.size 5 1 dv d'.length (d'.map u8)) (hd:d'.length<=64)
  (f2:Fr (λi=>i=q.yb) w1 w2) (hy:bA w2 q.yb [i64 q.size,.slice (some ⟨g54,0,none⟩) q.ar.length c54] 156) :
  qG { q with g:=g54,cap:=c54,ar:=q.ar.set k { x with dv:=dv,data:=d' } } w2/\GX q { q with g:=g54,cap:=c54,ar:=q.ar.set k { x with dv:=dv,data:=d' } } w w2:=by
 have hlen:(q.ar.set k { x with dv:=dv,data:=d' }).length=q.ar.length:=by simp
 have each:∀ a∈q.ar.set k { x with dv:=dv,data:=d' },a={ x with dv:=dv,data:=d' }\/a∈q.ar:=λa ha=>(List.mem_or_eq_of_mem_set ha).symm;have nD:∀ {i},DP q i->i≠q.yb:=λhi e=>h.dj q.yb (.inr rfl) (e▸hi);have yl:q.yb < w.heap.size:=h.ybox.lt;have xl:q.xb < w.heap.size:=h.xbox.lt;refine ⟨⟨f2.seg (h.xbox.ext hx) h.xy,by rw [hlen];exact hy,?_,λa ha=>?_,λa ha=>?_,f2.own (hx.own h.qp) λi hi=>nD (.inr (.inr (.inl hi))),f2.own (hx.own h.qs) λi hi=>nD (.inr (.inr (.inr hi))),h.lp,h.ls,h.xy,λi hi hc=>?_,by rw [hlen];exact h.two,by rw [hlen];exact h.cnt,h.sz⟩,⟨rfl,rfl,rfl,rfl,rfl⟩,λi hi=>?_,?_⟩
 ·rw [hlen];exact aR (f2.own h54 λi hi e=>by have:=(h54.lt i hi).1;omega) (Nat.zero_le _)
 ·rcases each a ha with rfl|ha
  ·exact aR (f2.own hdv λi hi e=>by have:=(hdv.lt i hi).1;omega) (Nat.zero_le _)
  ·exact f2.own (hx.own (h.data a ha)) λi hi=>nD (.inr (.inl ⟨a,ha,hi⟩))
 ·rcases each a ha with rfl|ha
  ·exact hd
  ·exact h.len a ha
 ·have hl:i < w.heap.size:=h.hi i (.inl hi);rcases hc with hc|⟨a,ha,hc⟩|hc|hc
  ·have:=(h54.lt g54 rfl).1;have hc:i=g54:=hc;omega
  ·rcases each a ha with rfl|ha
   ·have:=(hdv.lt i hc).1;omega
   ·exact h.dj i hi (.inr (.inl ⟨a,ha,hc⟩))
  ·exact h.dj i hi (.inr (.inr (.inl hc)))
  ·exact h.dj i hi (.inr (.inr (.inr hc)))
 ·rcases hi with hc|⟨a,ha,hc⟩|hc|hc
  ·have hc:i=g54:=hc;exact .inr (by have:=(h54.lt g54 rfl).1;omega)
  ·rcases each a ha with rfl|ha
   ·exact .inr (hdv.lt i hc).1
   ·exact .inl (.inr (.inl ⟨a,ha,hc⟩))
  ·exact .inl (.inr (.inr (.inl hc)))
  ·exact .inl (.inr (.inr (.inr hc)))
 ·exact (Fr.of_ext (S:=UF q) hx).trans (f2.mono λi hi=>.inr hi) λ_ _ h=>h
theorem wY (h:qG q w) {k:Nat} (hk2:k < 2) {x:bS} (hk:q.ar[k]?=some x) {sv:Z} {l:List Int} (hv:gK w sv l) (hl:l.length<=64) :
  aD prog 87 #[MW q,i64 ((k:Int)+1),sv] w λ_ w'=>∃ g' cap' dv,qG { q with g:=g',cap:=cap',ar:=q.ar.set k { x with dv:=dv,data:=l } } w'/\GX q { q with g:=g',cap:=cap',ar:=q.ar.set k { x with dv:=dv,data:=l } } w w':=by
 have hkl:k < q.ar.length:=(List.getElem?_eq_some_iff.1 hk).1;have hcnt:=h.cnt;apply aRv;unfold QB;obtain ⟨sa,sc,hsv⟩:=hv.shape;rw [hsv] at hv ⊢;refine aV.2 ?_;simp only [show ¬ ((k:Int)+1 < 1) by omega,dI,fA,aH,reduceIte,Bool.false_eq_true,decide_false];simp only [show ¬ ((k:Int)+1 > 2) by omega,fA,reduceIte,Bool.false_eq_true,decide_false];refine mK.2 (dI.2 ?_);simp only [show ¬ (((l.length:Nat):Int) > 64) by omega,aA,decide_false];refine GT λw4 h49 x4 l4=>?_;refine ⟨.inl ⟨_,rfl⟩,?_⟩;refine bC (h.ybox.ext x4).boxed bV cP rfl ?_;refine OY h49 (x4.own h.list) (by omega) (by omega) (FC λa ha=>bR (h.data a ha)) x4.size λg54 c54 w5 h54 hg54 hl54 l5=>?_;have X5:aG w w5:=x4.grown hg54 λi hi=>(h49.lt i hi).1;have s5:=X5.size;refine jE.2 ?_;rw [show IntKind.i64.wrap ((k:Int)+1 - 1)=(k:Int) from by rw [aY (by omega)];omega];refine kJ lN [] rfl rfl (by simp) rfl λv1 w6 ho1 x6=>?_;have X6:=X5.trans x6;have s6:=x6.size;refine aRc ho1 (hv.ext X6) (by omega) s6 λv2 w7 ho2 hg2 hl2=>?_;have f2:Fr (λi=>v1.ownBlock=some i) w6 w7:=Fr.of_grown hg2 λi hi=>hi;have X7:aG w w7:=X6.grown hg2 λi hi=>Nat.le_trans s5 (ho1.lt i hi).1
 have h54':=f2.own (x6.own h54) λi hi e=>by
  have:g54=i:=by simpa [Value.ownBlock] using hi
  have:=(ho1.lt i e).1;omega
 have ho2':=aR ho2 s5;refine V.ok (nU (by omega) (by omega)) ?_;have e:0+((k:Nat):Int).toNat*5=k*5:=by omega
 rw [e];refine V.ok iY ?_;have hcell:=h54'.cellAt (k*5+4) (by omega);rw [jB hk (by omega:4 < 5)] at hcell;refine U.ok (kO lA (bR ho2) hcell (h54'.frozenAt _)) ?_;refine ⟨.inl ⟨_,rfl⟩,?_⟩;have f8:Fr (λi=>i=g54) w7 (w7.setCell ⟨g54,k*5+4,none⟩ v2):=Fr.of_set rfl;have row8:=(h54'.stored (k*5+4) v2).1;rw [<- xF hk v2 l] at row8
 have hne:∀ i,v2.ownBlock=some i->i≠g54:=λi hi e=>by
  have h6:=(ho2.lt i hi).1;have:=(h54.lt g54 rfl).2;omega
 have hdv8:=f8.own ho2' hne;have X8:aG w (w7.setCell ⟨g54,k*5+4,none⟩ v2):=f8.ext X7 λi hi=>by rw [hi];exact (h54.lt _ rfl).1
 generalize w7.setCell ⟨g54,k*5+4,none⟩ v2=w8 at row8 hdv8 X8 ⊢;refine V.ok pW ?_;have hy8:=h.ybox.ext X8;refine tM oX hy8 rfl (by simp) rfl ?_;obtain ⟨h9,f9⟩:=h.relist hk X8 row8 hdv8 hl (Fr.of_set rfl) (hy8.set 1 _);exact ⟨g54,c54,v2,h9,f9⟩
theorem qG.clear (h:qG q w):qG { q with pub:=.slice none 0 0,sec:=.slice none 0 0,tp:=[],ts:=[] } ((w.setCell ⟨q.xb,0+3,none⟩ (.slice none 0 0)).setCell ⟨q.xb,0+4,none⟩ (.slice none 0 0))/\Fr (λi=>i=q.xb) w ((w.setCell ⟨q.xb,0+3,none⟩ (.slice none 0 0)).setCell ⟨q.xb,0+4,none⟩ (.slice none 0 0)):=by
 have r1:=h.xbox.set (j:=3) (by simp) (.slice none 0 0);have r2:=r1.set (j:=4) (by simp) (.slice none 0 0);have f1:Fr (λi=>i=q.xb) w (w.setCell ⟨q.xb,0+3,none⟩ (.slice none 0 0)):=Fr.of_set rfl;have f:Fr (λi=>i=q.xb) w ((w.setCell ⟨q.xb,0+3,none⟩ (.slice none 0 0)).setCell ⟨q.xb,0+4,none⟩ (.slice none 0 0)):=f1.set rfl;have hM:UF q q.xb:=.inl rfl;refine ⟨⟨r2,f.blk h.ybox λe=>h.xy e.symm,f.own h.list λi hi e=>h.dj i (e▸hM) (.inl (by simpa [Value.ownBlock] using hi.symm)),λa ha=>f.own (h.data a ha) λi hi e=>h.dj i (e▸hM) (.inr (.inl ⟨a,ha,hi⟩)),h.len,⟨rfl,.inl ⟨rfl,rfl⟩⟩,⟨rfl,.inl ⟨rfl,rfl⟩⟩,by simp,by simp,h.xy,λi hi hr=>?_,h.two,h.cnt,h.sz⟩,f⟩;rcases hr with hr|hr|hr|hr
 ·exact h.dj i hi (.inl hr)
 ·exact h.dj i hi (.inr (.inl hr))
 iterate 2
  ·cases hr
theorem TV (h:qG q w) {pv qv:Z} {a b:List Int} (ha:gK w pv a) (hb:∀ w',Fr (UF q) w w'->gK w' qv b) :
  aD prog 43 #[sC q,pv,qv] w λr w'=>∃ q',r=.bool (jI q.ps a b).1/\q'.ps=(jI q.ps a b).2/\qG q' w'/\GX q q' w w':=by
 apply aSo;unfold QQ;obtain ⟨a1,c1,rfl⟩:=ha.shape;obtain ⟨b1,d1,rfl⟩:=(hb w (Fr.refl _ _)).shape;have same:GX q q w w:=⟨⟨rfl,rfl,rfl,rfl,rfl⟩,λi hi=>.inl hi,Fr.refl _ _⟩;refine mK.2 (dI.2 ?_);by_cases h1:((a.length:Nat):Int) > 64
 ·simp only [h1,jQ,aH,aE,reduceIte,decide_true];refine ⟨q,?_,?_,h,same⟩<;>unfold jI<;>rw [if_pos (.inl (by omega))]
 simp only [h1,fA,aH,reduceIte,Bool.false_eq_true,decide_false];refine mK.2 (dI.2 ?_);by_cases h2:((b.length:Nat):Int) > 64
 ·simp only [h2,aE,decide_true];refine ⟨q,?_,?_,h,same⟩<;>unfold jI<;>rw [if_pos (.inr (by omega))]
 simp only [h2,aA,decide_false];have hno:¬ (a.length > 64\/b.length > 64):=by omega
 have htwo:=h.two;obtain ⟨x,hx⟩:=bK (l:=q.ar) (j:=0) (by omega);obtain ⟨y,hy⟩:=bK (l:=q.ar) (j:=1) (by omega);refine ⟨.inl ⟨_,rfl⟩,?_⟩;refine bC h.xbox.boxed bJ dK rfl ?_;refine (wY h (k:=0) (by omega) hx ha (by omega)).mono λ_ w1 ⟨g1,c1',v1,k1,s1⟩=>?_;refine ⟨.inl ⟨_,rfl⟩,?_⟩;refine bC k1.xbox.boxed bJ dK rfl ?_;have hy1:(q.ar.set 0 { x with dv:=v1,data:=a })[1]?=some y:=by rw [List.getElem?_set_ne (by decide)];exact hy
 refine (wY k1 (k:=1) (by omega) hy1 (hb w1 s1.fr) (by omega)).mono λ_ w2 ⟨g2,c2,v2,k2,s2⟩=>?_;have S2:=s1.trans s2;refine ⟨.inl ⟨_,rfl⟩,?_⟩;refine V.ok sW ?_;refine EU lA k2.xbox rfl (by simp) rfl ?_;have r3:=k2.xbox.set (j:=3) (by simp) (.slice none 0 0);refine ⟨.inl ⟨_,rfl⟩,?_⟩;refine V.ok xL ?_;refine EU lA r3 rfl (by simp) rfl ?_;obtain ⟨k4,f4⟩:=k2.clear;refine ⟨_,?_,?_,k4,S2.trans ⟨⟨rfl,rfl,rfl,rfl,rfl⟩,λi hi=>?_,f4.mono λi hi=>.inl hi⟩⟩
 ·unfold jI;rw [if_neg hno]
 ·unfold jI;rw [if_neg hno];show (⟨q.size,((q.ar.set 0 { x with dv:=v1,data:=a }).set 1 { y with dv:=v2,data:=b }).map pa,[],[],q.tr⟩:PS)=_;rw [uQ (r:=2) hy1 (by omega),uQ (r:=1) hx (by omega)];rfl
 ·rcases hi with hm|hm|hm|hm
  ·exact .inl (.inl hm)
  ·exact .inl (.inr (.inl hm))
  iterate 2
   ·cases hm
end
section
variable {l:List bE} {p:iP} {q:QP} {vs:List Z} {fd:List (List Int)} {B:Nat} {w w':O}
theorem RR.fr {S:Nat->Prop} (h:RR l p fd B w) (f:Fr S w w') (hn:∀ a i,BR p a i->¬ S i):RR l p fd B w':=by
 obtain ⟨cs,h1,h2⟩:=h.iv;refine ⟨h.room.fr f λi hi=>hn .rm i hi,⟨cs,f.own h1 λi hi=>hn .mb i hi,λk i hk=>?_⟩,f.own h.fv λi hi=>hn .fo i hi,λk v d hk hd=>f.own (h.row k v d hk hd) λi hi=>hn .fd i ⟨v,List.mem_of_getElem? hk,hi⟩,h.dj,h.sep.step f.size .ex λa i ha=>.inl ha,h.ge,Nat.le_trans h.hB f.size⟩;obtain ⟨pk,h3,h4⟩:=h2 k i hk;exact ⟨pk,h3,h4.fr f λi hi=>hn .im i hi⟩
theorem RBd.fr {l:List (cQ × bE)} {S:Nat->Prop} (h:RBd l q vs fd B w) (f:Fr S w w') (hn:∀ a i,BQ q vs a i->¬ S i):RBd l q vs fd B w':=by
 obtain ⟨cs,h1,h2⟩:=h.iv;exact ⟨h.ref.fr f λi hs=>⟨λhm=>hn .rm i (.inl hm) hs,λhm=>hn .rm i (.inr hm) hs⟩,⟨cs,f.own h1 λi hi=>hn .mb i hi,h2⟩,h.one,f.own h.fv λi hi=>hn .fo i hi,λk v d hk hd=>f.own (h.row k v d hk hd) λi hi=>hn .fd i ⟨v,List.mem_of_getElem? hk,hi⟩,h.djv,h.sep.step f.size .ex λa i ha=>.inl ha,h.ge,Nat.le_trans h.hB f.size⟩
end
structure Two (l:List (cQ × bE)) (p:iP) (q:QP) (vs:List Z) (fd:List (List Int)) (B:Nat) (w:O):Prop where
 bld:RR (l.map (·.2)) p fd B w
 rbd:RBd l q vs fd B w
 no:∀ a b i,BR p a i->¬ BQ q vs b i
 hp:p.rp.ps=⟨p.rp.size,pS.map pa,[],[],p.rp.tr⟩
 hq:q.ps=⟨p.rp.size,pS.map pa,[],[],q.tr⟩
 fz:fd=l.map λx=>List.replicate x.2.fields.length 0
 one:∀ i,p.rp.B<=i->B<=i
theorem OC {w:O} {B e sz n g cap:Nat} {xs:List Z} (h:w.ownsRow B e sz (.slice (some ⟨g,0,none⟩) n cap) n xs):lV w g 0 xs:=by
 obtain ⟨hl,h⟩:=h;rcases h with ⟨h,_⟩|⟨g',cap',cur,e1,hB,hb,hc,hm,hs,ht⟩
 ·cases h
 ·cases e1;refine ⟨cur,e,_,hb,?_,.inl rfl,λj v hj=>?_⟩
  ·have:=Nat.mul_le_mul_right sz hc;rw [hl];omega
  ·rw [<- ht] at hj;rw [List.getElem?_take] at hj;split at hj
   ·rw [Nat.zero_add];simpa using hj
   ·cases hj
def zs (l:List (cQ × bE)):List (List Int):=l.map λx=>List.replicate x.2.fields.length 0
def ps0 (size:Int):PS:=⟨size,pS.map pa,[],[],[]⟩
def rm0 (l:List (cQ × bE)) (size:Int) (a b:List Int):Rm:=⟨(jI (ps0 size) a b).2,zs l⟩
theorem MV (l:List (cQ × bE)) (x:cQ × bE):zs (l++[x])=zs l++[List.replicate x.2.fields.length 0]:=by simp [zs]
structure Rms (l:List (cQ × bE)) (size:Int) (a b:List Int) (B:Nat) (p:iP) (q:QP) (vs:List Z) (w:O):Prop where
 rms:YS (l.map (·.2)) (λ_=>False) p (rm0 l size a b) w
 rbd:RBd l q vs (zs l) B w
 no:∀ x y i,YP p (λ_=>False) x i->¬ BQ q vs y i
 ge:∀ x i,YP p (λ_=>False) x i->B<=i
 qs:q.ps=(jI (ps0 size) a b).2
theorem AK {α:Type} {l:List α} {k:Nat} {x:α} (h:l[k]?=some x):l.take (k+1)=l.take k++[x]:=by
 rw [List.take_add_one,h];rfl
structure aRd (l:List (cQ × bE)) (size:Int) (B:Nat) (p:iP) (q:QP) (vs:List Z) (w:O):Prop where
 bld:RR (l.map (·.2)) p (zs l) B w
 rbd:RBd l q vs (zs l) B w
 no:∀ a b i,BR p a i->¬ BQ q vs b i
 hp:p.rp.ps=ps0 size
 hq:q.ps=ps0 size
theorem aQo {w2:O} {rb hb B:Nat} {size:Int} (h1:B < hb) (h2:hb < rb) (hrb:bA w2 rb [pt hb,nl,nl,nl,nl] 134) (hh:fK w2 hb B size B 2 pS) (h6:B<=w2.heap.size) (z1:64<=size) (z2:size<=1000) :
  RR [] ⟨⟨rb,hb,B,B,2,0,size,pS,nl,nl,nl,nl,nl,[],[],[]⟩,0,[],λ_=>False,0⟩ [] B w2/\∀ a i,BR ⟨⟨rb,hb,B,B,2,0,size,pS,nl,nl,nl,nl,nl,[],[],[]⟩,0,[],λ_=>False,0⟩ a i->a=.rm/\(i=rb\/i=hb\/i=B):=by
 have nob:∀ i,nl.ownBlock≠some i:=λi h=>by cases h
 have l1:=hrb.lt;have l4:=hh.heap.lt
 have mp:∀ i,jF ⟨rb,hb,B,B,2,0,size,pS,nl,nl,nl,nl,nl,[],[],[]⟩ i->i=rb\/i=hb\/i=B:=λi hi=>by
  rcases hi with hi|hi|hi|⟨a,ha,hi⟩|hi|hi
  ·exact .inl hi
  ·exact .inr (.inl hi)
  ·exact .inr (.inr hi)
  ·rw [mT a ha] at hi;cases hi
  iterate 2
   ·cases hi
 have bp:∀ a i,BR ⟨⟨rb,hb,B,B,2,0,size,pS,nl,nl,nl,nl,nl,[],[],[]⟩,0,[],λ_=>False,0⟩ a i->a=.rm/\(i=rb\/i=hb\/i=B):=λa i hi=>by
  cases a with
  | rm=>exact ⟨rfl,mp i hi⟩
  | fd=>obtain ⟨v,hv,_⟩:=hi;simp at hv
  | fo=>cases hi
  | mb=>cases hi
  | im=>exact hi.elim
  | fr=>exact hi.elim
  | ex=>exact hi.elim
 have d0:∀ a∈pS,a.data=[]:=λa ha=>(rM a ha).2
 exact ⟨⟨⟨hrb.seg,hh,World.ownsRow_nil _ _ _ _,World.ownsRow_nil _ _ _ _,Nat.zero_le _,Nat.zero_le _,λx hx=>absurd hx (nob x),λa ha x hx=>(by rw [mT a ha] at hx;cases hx),λa ha x hx=>(by rw [mT a ha] at hx;cases hx),nob _,nob _,(by show rb≠hb;omega),λx hx=>⟨(by
   have hx:x=rb\/x=hb:=hx;show x≠B;omega),λa ha=>(by rw [mT a ha];intro e;cases e),nob _,nob _⟩,(by show 2<=pS.length;decide),⟨(by show 0<=size;omega),z2⟩,λa ha=>(by rw [d0 a ha];intro b hb;simp at hb)⟩,
   ⟨[],World.ownsRow_nil _ _ _ _,λk i hk=>(by simp at hk)⟩,World.ownsRow_nil _ _ _ _,λk v d hk=>(by simp at hk),λj k u v i hj=>(by simp at hj),⟨λa b i ha hb=>(bp a i ha).1.trans (bp b i hb).1.symm,λa i ha=>(by have:=(bp a i ha).2;omega)⟩,λa i ha=>(by have:=(bp a i ha).2;omega),h6⟩,bp⟩
theorem aWy {w2:O} {rb hb xb yb B g:Nat} {size:Int} (h1:B < hb) (h2:hb < rb) (hrb:bA w2 rb [pt hb,nl,nl,nl,nl] 134) (hh:fK w2 hb B size B 2 pS) (h3:g < yb) (h4:yb < xb) (hxb:bA w2 xb [pt yb,nl,nl,nl,nl] 139) (hyb:bA w2 yb [i64 size,.slice (some ⟨g,0,none⟩) 2 2] 156) (har:bA w2 g (iL pS) 127) (h5:rb < g) (h6:B<=w2.heap.size) (z1:64<=size) (z2:size<=1000) :
  aRd [] size B ⟨⟨rb,hb,B,B,2,0,size,pS,nl,nl,nl,nl,nl,[],[],[]⟩,0,[],λ_=>False,0⟩ ⟨xb,yb,0,g,2,size,pS,nl,nl,nl,nl,nl,[],[],[]⟩ [] w2:=by
 have nob:∀ i,nl.ownBlock≠some i:=λi h=>by cases h
 have l1:=hrb.lt;have l2:=hxb.lt;have l3:=hyb.lt;have l4:=hh.heap.lt;have l5:=har.lt
 have mq:∀ i,UF ⟨xb,yb,0,g,2,size,pS,nl,nl,nl,nl,nl,[],[],[]⟩ i\/DP ⟨xb,yb,0,g,2,size,pS,nl,nl,nl,nl,nl,[],[],[]⟩ i->i=xb\/i=yb\/i=g:=λi hi=>by
  rcases hi with (hi|hi)|hi|⟨a,ha,hi⟩|hi|hi
  ·exact .inl hi
  ·exact .inr (.inl hi)
  ·exact .inr (.inr hi)
  ·rw [mT a ha] at hi;cases hi
  iterate 2
   ·cases hi
 have bp:=(aQo h1 h2 hrb hh h6 z1 z2).2
 have bq:∀ a i,BQ ⟨xb,yb,0,g,2,size,pS,nl,nl,nl,nl,nl,[],[],[]⟩ [] a i->a=.rm/\(i=xb\/i=yb\/i=g):=λa i hi=>by
  cases a with
  | rm=>exact ⟨rfl,mq i hi⟩
  | fd=>obtain ⟨v,hv,_⟩:=hi;simp at hv
  | fo=>cases hi
  | mb=>cases hi
  | im=>exact hi.elim
  | fr=>exact hi.elim
  | ex=>exact hi.elim
 have d0:∀ a∈pS,a.data=[]:=λa ha=>(rM a ha).2
 refine ⟨(aQo h1 h2 hrb hh h6 z1 z2).1,
  ⟨⟨hxb.seg,hyb,aR (eF har rfl (Nat.le_refl _) (by show pS.length<=maxLen;unfold maxLen;decide)) (Nat.zero_le _),λa ha=>(by rw [(rM a ha).1,(rM a ha).2];exact World.ownsRow_nil _ _ _ _),λa ha=>(by rw [d0 a ha];exact Nat.zero_le _),World.ownsRow_nil _ _ _ _,World.ownsRow_nil _ _ _ _,Nat.zero_le _,Nat.zero_le _,(by show xb≠yb;omega),λi hi hc=>?_,(by show 2<=pS.length;decide),(by show pS.length<=1000;decide),⟨(by show 0<=size;omega),z2⟩⟩,⟨[],World.ownsRow_nil _ _ _ _,rfl,λk x hk=>(by simp at hk)⟩,rfl,World.ownsRow_nil _ _ _ _,λk v d hk=>(by simp at hk),λj k u v i hj=>(by simp at hj),⟨λa b i ha hb=>(bq a i ha).1.trans (bq b i hb).1.symm,λa i ha=>(by have:=(bq a i ha).2;omega)⟩,λa i ha=>(by have:=(bq a i ha).2;omega),h6⟩,λa b i ha hb=>?_,rfl,rfl⟩
 ·have e1:i=xb\/i=yb:=hi
  have e2:i=g:=by
   rcases hc with hi|⟨a,ha,hi⟩|hi|hi
   ·exact hi
   ·rw [mT a ha] at hi;cases hi
   iterate 2
    ·cases hi
  omega
 ·have:=(bp a i ha).2;have:=(bq b i hb).2;omega
theorem FD {w:O} {lv av bv:Z} {l:List (cQ × bE)} {a b:List Int} {size:Int} (hl:nL w lv l) (h3:l.length<=3) (h1:0 < l.length) (z1:64<=size) (z2:size<=1000) (ha:gK w av a) (hb:gK w bv b) (oka:pR a) (okb:pR b) (la:a.length<=64) (lb:b.length<=64) :
  aD prog 9 #[i64 size,lv,av,bv] w λrv w'=>∃ p q vs,rv=.tuple #[kM p.rp,sC q]/\Rms l size a b w.heap.size p q vs w'/\aG w w':=by
 apply aVu;suffices key:∀ R:Z->O->Prop,(∀ p q vs w',Rms l size a b w.heap.size p q vs w'->aG w w'->R (.tuple #[kM p.rp,sC q]) w')->MR (i64 size) lv av bv w R from key _ λp q vs w' g1 g2=>⟨p,q,vs,rfl,g1,g2⟩;intro R hR;unfold MR;refine (vL z1 (by omega)).mono λrv w1 ⟨⟨rb,hb',hrv,hlo,hlt,hrb,hh⟩,x1⟩=>?_;subst hrv;refine cD.2 (cC.2 (aX.2 ?_));simp only [ne_eq,not_true_eq_false,fA,aH,reduceIte,Bool.false_eq_true,decide_false];refine V.ok (gF underlying26) ?_;simp only [fA,aH,reduceIte,Bool.false_eq_true]
 have hheap:∀ {K:Z->O->Prop},K (pt hb') w1->aD prog 39 #[pt rb] w1 K:=λhk=>by
  apply aSs;unfold QT;exact ⟨.inl ⟨_,rfl⟩,kU bW eG hrb.seg rfl hk⟩
 refine hheap ?_;refine V.ok (gF underlying100) ?_;simp only [aA];refine KY.mono λrv w2 ⟨⟨xb,yb,hrv,hyw,hyx,hxb,hyb,har⟩,x2⟩=>?_;subst hrv;have x12:=x1.trans x2;have s1:=x1.size;have s2:=x2.size;have lrb:=hrb.lt;have lxb:=hxb.lt;have lyb:=hyb.lt;have hh2:=hh.ext x2
 have h0:aRd [] size w.heap.size ⟨⟨rb,hb',w.heap.size,w.heap.size,2,0,size,pS,nl,nl,nl,nl,nl,[],[],[]⟩,0,[],λ_=>False,0⟩ ⟨xb,yb,0,w1.heap.size,2,size,pS,nl,nl,nl,nl,nl,[],[],[]⟩ [] w2:=by
  refine aWy hlo hlt (hrb.ext x2) hh2 hyw hyx hxb hyb har (by omega) (by omega) z1 z2
 refine ⟨λt w'=>∃ (k:Nat) (p:iP) (q:QP) (vs:List Z),t=i64 (k:Int)/\k<=l.length/\aRd (l.take k) size w.heap.size p q vs w'/\p.rp.rb=rb/\q.xb=xb/\aG w w',λt _=>l.length - (RowKit.intOf t).toNat,⟨0,_,_,_,rfl,Nat.zero_le _,h0,rfl,rfl,x12⟩,?_⟩;rintro _ w3 ⟨k,p,q,vs,rfl,hk,H,hprb,hqxb,x3⟩ _;have hl3:=hl.ext x3;refine AA lO hl3 (aV.2 (aL (λhlt=>?_) λhge=>?_))
 ·obtain ⟨x,hx⟩:=bK (l:=l) (j:=k) (by omega);obtain ⟨pv,im⟩:=x;refine ldS lO kZ hl3 hx YN λrow ⟨hrow,hA,ht⟩=>?_;have hrow:(Value.agg row.toArray)=pv.val im:=by rw [hrow];rfl
  rw [hrow];have ekl:(l.take k).length=k:=by simp;omega
  have er:(Value.pointer (some ⟨rb,0,none⟩))=kM p.rp:=by unfold kM;rw [hprb]
  have eq:(Value.pointer (some ⟨xb,0,none⟩))=sC q:=by unfold sC;rw [hqxb]
  show aD prog 35 #[pt rb,pv.val im] w3 _;rw [show pt rb=kM p.rp from er];refine (yT H.bld (by simp [];omega) (by simp [zs]) hA.at_ ht.1).mono λrv w4 ⟨p4,hrv,g4,e41,e42,F4,m4⟩=>?_;subst hrv;have X4:aG w w4:=F4.ext x3 λi ⟨a,hi⟩=>H.bld.ge a i hi;refine cD.2 (cC.2 (eU.2 ?_));simp only [Bool.not_true,aA,Bool.not_true];refine ldS lO kZ (hl.ext X4) hx YN λrow ⟨hrow,hA4,_⟩=>?_;have hrow:(Value.agg row.toArray)=pv.val im:=by rw [hrow];rfl
  rw [hrow];show aD prog 41 #[pt xb,pv.val im] w4 _;rw [show pt xb=sC q from eq];have R4:=H.rbd.fr F4 λa i hi ⟨b,hb⟩=>H.no b a i hb hi;refine (UD R4 (by rw [ekl];omega) (by simp [zs]) hA4.at_ (by have h8:((im.fields.length:Nat):Int)<=8:=ht.1.1.2;show im.fields.length<=64;omega)).mono λrv w5 ⟨q5,vs5,g5,e5,F5,m5⟩=>?_;have X5:aG w w5:=F5.ext X4 λi hi=>by rw [hi];exact H.rbd.ge .rm _ (.inl (.inl rfl))
  have noX:∀ a i,BR p4 a i->i≠q.xb:=λa i hi he=>by
   rcases m4 a i hi with h|h
   ·exact H.no a .rm i h (.inl (.inl he))
   ·have:=H.rbd.ref.xbox.lt;omega
  have g45:=g4.fr F5 λa i hi he=>noX a i hi he;refine bQ.2 ?_;rw [aY (by omega)];have s4:=F4.size;refine ⟨⟨k+1,p4,q5,vs5,by simp,by omega,⟨?_,?_,λa b i hi hj=>?_,by rw [e42];exact H.hp,?_⟩,by rw [e41];exact hprb,by rw [e5];exact hqxb,X5⟩,?_⟩
  ·rw [AK hx,List.map_append,MV];exact g45
  ·rw [AK hx,MV];exact g5
  ·rcases m5 b i hj with h|h
   ·rcases m4 a i hi with h'|h'
    ·exact H.no a b i h' h
    ·have:=H.rbd.sep.lt b i h;omega
   ·have:=g4.sep.lt a i hi;omega
  ·rw [e5];exact H.hq
  ·have e1:RowKit.intOf (i64 ((k:Int)+1))=(k:Int)+1:=rfl;have e2:RowKit.intOf (i64 (k:Int))=(k:Int):=rfl;simp only [e1,e2];omega
 ·have hkl:k=l.length:=by omega
  subst hkl;rw [List.take_length] at H;have er:(Value.pointer (some ⟨rb,0,none⟩))=kM p.rp:=by unfold kM;rw [hprb]
  have eq:(Value.pointer (some ⟨xb,0,none⟩))=sC q:=by unfold sC;rw [hqxb]
  have hbeg:(jI (ps0 size) a b).1=true:=by unfold jI;rw [if_neg (by omega)]
  show aD prog 42 #[pt rb,av,bv] w3 _;rw [show pt rb=kM p.rp from er];refine (TW H.bld.room (ha.ext x3) (λw' f=>hb.ext (f.ext x3 λi hi=>H.bld.ge .rm i hi)) oka okb).mono λrv w4 ⟨p4,hrv,e4,g4,s4⟩=>?_;subst hrv;rw [H.hp] at e4 ⊢;rw [hbeg];refine eU.2 ?_;simp only [Bool.not_true,fA,aH,reduceIte,Bool.false_eq_true,Bool.not_true];have X4:aG w w4:=s4.fr.ext x3 λi hi=>H.bld.ge .rm i hi;have R4:=H.rbd.fr s4.fr λa i hi hm=>H.no .rm a i hm hi;show aD prog 43 #[pt xb,av,bv] w4 _;rw [show pt xb=sC q from eq];refine (TV R4.ref (ha.ext X4) (λw' f=>hb.ext (f.ext X4 λi hi=>R4.ge .rm i (.inl hi)))).mono λrv w5 ⟨q5,hrv,e5,g5,s5⟩=>?_;subst hrv;rw [H.hq] at e5 ⊢;rw [hbeg];refine eU.2 ?_;simp only [Bool.not_true,aA,Bool.not_true];have X5:aG w w5:=s5.fr.ext X4 λi hi=>R4.ge .rm i (.inl hi);obtain ⟨⟨eqx,eqy,eqs,eqi,eqf⟩,mq,fq⟩:=s5;have fp:=s4.fr;have n4:=fp.size;have n5:=fq.size;have hzl:(zs l).length=l.length:=by simp [zs]
  obtain ⟨fo,fcap,hfo⟩:=mA H.bld.fv (by omega);have F35:Fr (λi=>jF p.rp i\/UF q i) w3 w5:=fp.or fq
  have nM:∀ {a:Lb} {i:Nat},a≠.rm->BR p a i->¬ (jF p.rp i\/UF q i):=λ{a i} ha hi hm=>by
   rcases hm with hm|hm
   ·exact ha (H.bld.sep.dj a .rm i hi hm)
   ·exact H.no a .rm i hi (.inl hm)
  obtain ⟨cs,hiv,hrows⟩:=H.bld.iv
  have himg3:vH (λi=>p.IB i\/p.rp.iv.ownBlock=some i) w3 λw'=>jS w' p.rp.iv (l.map (·.2)):=λw' f=>⟨cs,aC.of_own (f.own hiv λi hi hn=>hn (.inr hi)),λk i hk=>by
   obtain ⟨pk,h1,h2⟩:=hrows k i hk;exact ⟨_,rfl,pk,h1,h2 w' (f.mono λj hj hn=>hj (.inl hn))⟩⟩
  have himg5:=himg3.fr F35 λi hi=>by
   rcases hi with hi|hi
   ·exact nM (a:=.im) (by intro e;cases e) hi
   ·exact nM (a:=.mb) (by intro e;cases e) hi
  have hrw5:∀ (k:Nat) v d,p.vs[k]?=some v->(zs l)[k]?=some d->w5.ownsRow 0 21 1 v d.length (d.map i32):=λk v d hk hd=>F35.own (H.bld.row k v d hk hd) λi hi=>nM (a:=.fd) (by intro e;cases e) ⟨v,List.mem_of_getElem? hk,hi⟩;have hfv5:=F35.own H.bld.fv λi hi=>nM (a:=.fo) (by intro e;cases e) hi;have hlv:p.vs.length=(zs l).length:=by have:=H.bld.fv.1;omega
  have cls:∀ {a:Lb} {i:Nat},YP { p with rp:=p4,fo:=fo,IB:=λi=>p.IB i\/p.rp.iv.ownBlock=some i } (λ_=>False) a i->(∃ c,BR p c i/\((a≠.im/\a=c)\/(a=.im/\(c=.im\/c=.mb))))\/(a=.rm/\w3.heap.size<=i/\i < w4.heap.size):=by
   intro a i hi;cases a with
   | rm=>
    rcases s4.mu i hi with h|h
    ·exact .inl ⟨.rm,h,.inl ⟨(by intro e;cases e),rfl⟩⟩
    ·exact .inr ⟨rfl,h,g4.hi i hi⟩
   | im=>
    rcases hi with h|h
    ·exact .inl ⟨.im,h,.inr ⟨rfl,.inl rfl⟩⟩
    ·exact .inl ⟨.mb,h,.inr ⟨rfl,.inr rfl⟩⟩
   | fo=>
    have hi:i=fo:=hi;exact .inl ⟨.fo,(by show p.rp.fv.ownBlock=some i;rw [hfo,hi];rfl),.inl ⟨(by intro e;cases e),rfl⟩⟩
   | fd=>exact .inl ⟨.fd,hi,.inl ⟨(by intro e;cases e),rfl⟩⟩
   | mb=>exact hi.elim
   | fr=>exact hi.elim
   | ex=>exact hi.elim
  have clq:∀ {a:Lb} {i:Nat},BQ q5 vs a i->(BQ q vs a i/\i < w4.heap.size)\/(a=.rm/\w4.heap.size<=i/\i < w5.heap.size):=by
   intro a i hi;have old:=λh=>R4.sep.lt a i h;cases a with
   | rm=>
    rcases hi with hi|hi
    ·have:UF q i:=hi.elim (λh=>.inl (h.trans eqx)) λh=>.inr (h.trans eqy);exact .inl ⟨.inl this,old (.inl this)⟩
    ·rcases mq i hi with h|h
     ·exact .inl ⟨.inr h,old (.inr h)⟩
     ·exact .inr ⟨rfl,h,g5.hi i (.inr hi)⟩
   | fo=>
    have hi:q5.fv.ownBlock=some i:=hi;rw [eqf] at hi;exact .inl ⟨hi,old hi⟩
   | mb=>
    have hi:q5.iv.ownBlock=some i:=hi;rw [eqi] at hi;exact .inl ⟨hi,old hi⟩
   | fd=>exact .inl ⟨hi,old hi⟩
   | im=>exact hi.elim
   | fr=>exact hi.elim
   | ex=>exact hi.elim
  have nQ:∀ {a:Lb} {i:Nat},a≠.rm->BQ q vs a i->¬ UF q i:=λ{a i} ha hi hm=>ha (R4.sep.dj a .rm i hi (.inl hm));have e4:p4.ps=(jI (ps0 size) a b).2:=e4;rw [show kM p.rp=kM p4 by unfold kM;rw [s4.rb],show sC q=sC q5 by unfold sC;rw [eqx]];refine hR { p with rp:=p4,fo:=fo,IB:=λi=>p.IB i\/p.rp.iv.ownBlock=some i } q5 vs w5 ⟨⟨g4.fr fq λi hm hr=>?_,⟨congrArg PS.size e4,congrArg PS.ar e4,congrArg PS.tp e4,congrArg PS.ts e4⟩,⟨⟨fcap,?_⟩,?_,hlv,hrw5,H.bld.dj,λv hv he=>?_⟩,?_,⟨λa b i ha hb=>?_,λa i ha=>?_⟩⟩,⟨g5,?_,R4.one,?_,?_,R4.djv,⟨λa b i ha hb=>?_,λa i ha=>?_⟩,λa i ha=>?_,by have:=R4.hB;omega⟩,λa b i ha hb=>?_,λa i ha=>?_,e5⟩ X5
  ·rcases s4.mu i hm with h|h
   ·exact H.no .rm .rm i h (.inl hr)
   ·have:=H.rbd.ref.hi i (.inl hr);omega
  ·show p4.fv=_;rw [s4.fv];exact hfo
  ·rw [hfo] at hfv5;exact OC hfv5
  ·have:=H.bld.sep.dj .fd .fo fo ⟨v,hv,he⟩ (by show p.rp.fv.ownBlock=some fo;rw [hfo];rfl);cases this
  ·show vH _ w5 λw'=>jS w' p4.iv _;rw [s4.iv];exact himg5
  ·rcases cls ha with ⟨c,hc,k1⟩|⟨k1,k2,k3⟩<;>rcases cls hb with ⟨d,hd,k4⟩|⟨k4,k5,k6⟩
   ·have hcd:=H.bld.sep.dj c d i hc hd;subst hcd;rcases k1 with ⟨k1,rfl⟩|⟨rfl,k1⟩<;>rcases k4 with ⟨k4,rfl⟩|⟨rfl,k4⟩
    ·rfl
    ·rcases k4 with rfl|rfl
     ·rfl
     ·exact ha.elim
    ·rcases k1 with rfl|rfl
     ·rfl
     ·exact hb.elim
    ·rfl
   ·have:=H.bld.sep.lt c i hc;omega
   ·have:=H.bld.sep.lt d i hd;omega
   ·rw [k1,k4]
  ·rcases cls ha with ⟨c,hc,_⟩|⟨_,_,_⟩
   ·have:=H.bld.sep.lt c i hc;omega
   ·omega
  ·obtain ⟨cs',r1,r2⟩:=R4.iv;rw [eqi];exact ⟨cs',fq.own r1 λi hi=>nQ (a:=.mb) (by intro e;cases e) hi,r2⟩
  ·rw [eqf];exact fq.own R4.fv λi hi=>nQ (a:=.fo) (by intro e;cases e) hi
  ·exact λk v d hk hd=>fq.own (R4.row k v d hk hd) λi hi=>nQ (a:=.fd) (by intro e;cases e) ⟨v,List.mem_of_getElem? hk,hi⟩
  ·rcases clq ha with ⟨ha,k1⟩|⟨k1,k2,k3⟩<;>rcases clq hb with ⟨hb,k4⟩|⟨k4,k5,k6⟩
   ·exact R4.sep.dj a b i ha hb
   iterate 2
    ·omega
   ·rw [k1,k4]
  ·rcases clq ha with ⟨ha,k1⟩|⟨k1,k2,k3⟩<;>omega
  ·rcases clq ha with ⟨ha,k1⟩|⟨k1,k2,k3⟩
   ·exact R4.ge a i ha
   ·have:=R4.hB;omega
  ·rcases clq hb with ⟨hb,k4⟩|⟨k4,k5,k6⟩<;>rcases cls ha with ⟨c,hc,k1⟩|⟨k1,k2,k3⟩
   ·exact H.no c b i hc hb
   ·have:=H.rbd.sep.lt b i hb;omega
   ·have:=H.bld.sep.lt c i hc;omega
   ·omega
  ·rcases cls ha with ⟨c,hc,k1⟩|⟨k1,k2,k3⟩
   ·exact H.bld.ge c i hc
   ·have:=H.bld.hB;omega
end Go.Proofs.YtgkkecladbmjkaaGreatDoor
namespace Go.Proofs.YtgkkecladbmjkaaGreatDoor
open Tryz
open Go.Vc Go.Tc
variable {w:O} {K:Z->O->Prop}
structure Zm (w0:O) (lv:Z) (code:List fS) (d:Nat) (w:O):Prop where
 ext:aG w0 w
 at_:∃ cv,bA w w0.heap.size [cv,bF,i64 0,lv,i64 (d:Int)] 252/\w.ownsRow (w0.heap.size+1) 70 3 cv code.length (iG code)
section
variable {w0 w':O} {lv:Z} {code:List fS} {d:Nat} {loc:List Int}
theorem Zm.step (h:Zm w0 lv code d w) (hx:aG w w'):Zm w0 lv code d w':=by
 obtain ⟨x,cv,h1,h2⟩:=h;exact ⟨x.trans hx,cv,h1.ext hx,hx.own h2⟩
theorem WP (h:Zm w0 lv code d w) (hk:K (i64 0) w):aD prog 210 #[.pointer (some ⟨w0.heap.size,0,none⟩)] w K:=by
 obtain ⟨x,cv,h1,h2⟩:=h;apply RC;unfold zE;refine ⟨.inl ⟨_,rfl⟩,bC h1.boxed dY bB rfl (aGm.2 (aF.2 ?_))⟩;simp only [show (((0:Nat):Int)=0) by rfl,decide_true,aE];exact hk
theorem WI {m:Int} (hm:0 < m) (hk:K (i64 0) w):aD prog 11 #[i64 0,i64 m] w K:=by
 apply aCj;unfold EJ;refine rm hm λc hc _ _=>?_;have hc:c=0:=by rw [hc];simp
 subst hc;refine aV.2 ?_;simp only [show ¬ ((0:Int) < 0) by decide,decide_false,aA];exact hk
theorem aOq {op a b:Int} (h:Zm w0 lv code d w) (hl:code.length<=1000) (hk:∀ w',Zm w0 lv (code++[⟨op,a,b⟩]) d w'->K (.tuple #[]) w'):aD prog 132 #[.pointer (some ⟨w0.heap.size,0,none⟩),i64 op,i64 a,i64 b] w K:=by
 obtain ⟨x,cv,a1,a2⟩:=h;have sx:=a1.lt;apply RL;unfold zM;refine ⟨.inl ⟨_,rfl⟩,bC (bA.boxed a1) bN gX rfl ?_⟩;refine bld sJ [(0,i64 op),(1,i64 a),(2,i64 b)] rfl rfl ?_;refine yP underlying71 oA rfl (by decide) [.agg #[i64 op,i64 a,i64 b]] rfl rfl (by intro v hv;rw [List.mem_singleton] at hv;subst hv;rfl) (by decide) (by decide) λuv w5 ho5 x5=>?_;have s5:=x5.size;refine apG underlying71 oA rfl (by decide) (x5.own a2) (aC.of_own ho5) (by rfl) (by omega) (by unfold maxLen;omega) (by omega) λv6 w6 ho6 hg6 hl6=>?_;have a1':bA w6 w0.heap.size _ _:=(Fr.of_grown (S:=λk=>cv.ownBlock=some k) hg6 λk hk=>hk).blk (a1.ext x5) λhk=>by have:=(a2.lt _ hk).1;omega
 have x6:aG w0 w6:=(x.trans x5).grown hg6 λk hk=>by have:=(a2.lt k hk).1;omega
 have e6:iG code++[Value.agg #[i64 op,i64 a,i64 b]].flatMap (λv=>v.cells.toList)=iG (code++[⟨op,a,b⟩]):=by rw [BG];rfl
 rw [e6] at ho6;refine ⟨.inl ⟨_,rfl⟩,zT bN uC a1' (n:=5) rfl (by decide) (bT ho6) (hk _ ⟨x6.setCell (Nat.le_refl _) _,v6,a1'.set 0 _,?_⟩)⟩;rw [List.length_append];exact (Fr.of_set (S:=λi=>i=w0.heap.size) rfl).own ho6 λk hk he=>by have:=(ho6.lt k hk).1;omega
def idx (loc:List Int) (k:Int) (j:Nat):List Int:=((List.range j).filter λi=>decide (nth loc i=k)).map Int.ofNat
theorem GK (loc:List Int) (k:Int) (j:Nat):idx loc k (j+1)=idx loc k j++if nth loc j=k then [(j:Int)] else []:=by
 unfold idx;rw [List.range_succ,List.filter_append,List.map_append];by_cases h:nth loc j=k<;>simp [h]
theorem aFg (loc:List Int) (k:Int):∀ j,(idx loc k j).length<=j:=λj=>by
 unfold idx;rw [List.length_map];exact Nat.le_trans (List.length_filter_le _ _) (by simp)
theorem XB {k z:Int} (h:Zm w0 lv code d w) (hloc:aS w0 lv loc) (hll:loc.length<=100) (hz:(idx loc k loc.length)[0]?=some z) (hk:∀ w',Zm w0 lv code d w'->K (.tuple #[i64 z,.bool true]) w') :
  aD prog 211 #[.pointer (some ⟨w0.heap.size,0,none⟩),i64 k] w K:=by
 apply RB;unfold zD;refine ⟨λsv v w'=>∃ (j:Nat),v=i64 j/\j<=loc.length/\aG w w'/\w'.ownsRow w.heap.size 3 1 sv (idx loc k j).length ((idx loc k j).map i64),λ_ v _=>loc.length - (RowKit.intOf v).toNat,⟨0,rfl,Nat.zero_le _,aG.refl _,World.ownsRow_nil _ _ _ _⟩,?_⟩;rintro sv _ w1 ⟨j,rfl,hj,x1,ho⟩ _;have h1:=h.step x1;obtain ⟨x,cv,a1,a2⟩:=h1;have hloc:=hloc.ext x;have hjl:=aFg loc k j;refine ⟨.inl ⟨_,rfl⟩,bC (bA.boxed a1) dX bB rfl (gL aK hloc (aV.2 (aL (λhlt=>?_) λhge=>?_)))⟩
 ·refine ⟨.inl ⟨_,rfl⟩,bC (bA.boxed a1) dX bB rfl ?_⟩;refine mX aK aJ hloc (by omega) (by omega) (fM (qP (l:=loc) (j:=j) (by omega))) (aF.2 (aL (λhe=>?_) λhe=>?_))
  ·refine kJ bG [i64 j] rfl rfl (by simp) rfl λv2 w2 ho2 x2=>?_;refine TZ bG (x2.own ho) (aC.of_own ho2) rfl (by omega) (by unfold maxLen;omega) (x1.trans x2).size λv3 w3 ho3 hg3=>?_;refine nO (by omega) ?_;refine ⟨⟨j+1,rfl,by omega,(x1.trans x2).grown hg3 λq hq=>((x2.own ho).lt q hq).1,?_⟩,by simp only [aU];omega⟩;rw [GK,if_pos he];simpa using ho3
  ·refine nO (by omega) ?_;refine ⟨⟨j+1,rfl,by omega,x1,?_⟩,by simp only [aU];omega⟩;rw [GK,if_neg he,List.append_nil];exact ho
 have hjj:j=loc.length:=by omega
 subst hjj;have hpos:0 < (idx loc k loc.length).length:=(List.getElem?_eq_some_iff.1 hz).1;refine gL aK (aC.of_own ho) (aF.2 ?_);simp only [show ¬ (((idx loc k loc.length).length:Int)=0) by omega,decide_false,aA];refine WP ⟨x,cv,a1,a2⟩ ?_;refine gL aK (aC.of_own ho) (WI (by omega) ?_);refine aPh aK aJ ho (by omega) (by omega) (u:=i64 z) (by show ((idx loc k loc.length).map i64)[0]?=_;rw [List.getElem?_map,hz];rfl) ?_;exact hk _ ⟨x,cv,a1,a2⟩
theorem aXp {k z:Int} (h:Zm w0 lv code d w) (hl:code.length<=1000) (hloc:aS w0 lv loc) (hll:loc.length<=100) (hz:(idx loc k loc.length)[0]?=some z) (hk:∀ w',Zm w0 lv (code++[⟨2,z,0⟩]) d w'->K (.tuple #[]) w') :
  aD prog 178 #[.pointer (some ⟨w0.heap.size,0,none⟩),i64 k] w K:=by
 apply RI;unfold zJ;refine WP h (WI (by decide) ?_);refine ⟨λt w'=>t=.bool true/\w'=w,?_,?_⟩
 ·refine aF.2 ?_;simp only [decide_true,aE];exact ⟨trivial,trivial⟩
 rintro _ w1 ⟨rfl,hw⟩ _;have hw:=hw.symm;subst hw;simp only [aE];refine XB h hloc hll hz λw2 h2=>?_;refine cD.2 (cC.2 ?_);simp only [aE];exact aOq h2 hl hk
theorem aUc {d':Nat} {K':O->Prop} (h:Zm w0 lv code d w) (hk:∀ w',Zm w0 lv code d' w'->K' w'):V prog (Instr.fieldAt 252 (.pointer (some ⟨w0.heap.size,0,none⟩)) 4) w λq w1=>U prog (Instr.storeAt 3 q (i64 (d':Nat))) w1 λ_ w2=>K' w2:=by
 obtain ⟨x,cv,a1,a2⟩:=h;refine zT fP gW a1 (n:=5) rfl (by decide) rfl (hk _ ⟨x.setCell (Nat.le_refl _) _,cv,a1.set 4 _,?_⟩);exact (Fr.of_set (S:=λi=>i=w0.heap.size) rfl).own a2 λk hk he=>by have:=(a2.lt k hk).1;omega
theorem XR (h:Zm w0 lv code d w) (hk:K (i64 (d:Nat)) w):V prog (Instr.fieldAt 252 (.pointer (some ⟨w0.heap.size,0,none⟩)) 4) w λq w1=>V prog (Instr.loadAt 3 q) w1 K:=by
 obtain ⟨x,cv,a1,_⟩:=h;exact bC (bA.boxed a1) fP aJ rfl hk
theorem aWz {z:Int} (h:Zm w0 lv code 0 w) (hl:code.length<=1000) (hloc:aS w0 lv loc) (hll:loc.length<=100) (hz:(idx loc 2 loc.length)[0]?=some z) (hk:∀ w',Zm w0 lv (code++[⟨2,z,0⟩]) 0 w'->K (.tuple #[]) w') :
  aD prog 181 #[.pointer (some ⟨w0.heap.size,0,none⟩)] w K:=by
 apply RH;unfold zI;refine ⟨.inl ⟨_,rfl⟩,XR h (bQ.2 ?_)⟩;refine ⟨.inl ⟨_,rfl⟩,aUc (d':=1) h λw1 h1=>?_⟩;refine WP h1 (WI (by decide) ?_);refine ⟨λt w'=>t=i64 0/\w'=w1,⟨.inl ⟨_,rfl⟩,XR h1 (dI.2 ?_)⟩,?_⟩
 ·simp only [show ¬ (((1:Nat):Int) > 3) by decide,decide_false,aA];exact ⟨trivial,trivial⟩
 rintro _ w1' ⟨rfl,hw⟩ _;have hw:=hw.symm;subst hw;refine ⟨λw'=>Zm w0 lv (code++[⟨2,z,0⟩]) 1 w',aF.2 ?_,?_⟩
 ·simp only [decide_true,aE];refine XB h1 hloc hll hz λw2 h2=>cD.2 (cC.2 ?_);simp only [aE];exact aOq h2 hl λw3 h3=>h3
 intro w4 h4 _;refine ⟨.inl ⟨_,rfl⟩,XR h4 (jE.2 ?_)⟩;exact ⟨.inl ⟨_,rfl⟩,aUc (d':=0) h4 λw5 h5=>hk w5 h5⟩
end
def bare (m:fY) (code:List fS):Prop:=(m.result=0/\code=[⟨39,0,0⟩])\/(∃ z,(m.result=2\/m.result=3)/\(idx (m.params++m.locals) m.result (m.params++m.locals).length)[0]?=some z/\code=[⟨2,z,0⟩,⟨39,0,0⟩])
theorem aVf {rv mv iv:Z} {row:List Z} {m:fY} {code:List fS} (hr:dB w rv []) (hrow:jR w row m) (pl:m.params.length<=50) (ll:m.locals.length<=50) (hb:bare m code)
  (hk:∀ v w',w'.ownsRow w.heap.size 70 3 v code.length (iG code)->aG w w'->K v w') :
  aD prog 84 #[rv,.agg row.toArray,mv,iv] w K:=by
 obtain ⟨pv,lv,cv,rfl,hp,hl,hc⟩:=hrow;apply YY;unfold DV;refine bx λb5 w1 hb5 x1=>?_;have hb5:fL w1 b5 [pv,i64 m.result,lv,cv]:=hb5;have D1:aG w1 w1.drew:=(aG.refl _).drew;have x2:=x1.trans D1;refine aI.mk' (λw'=>aG w1.drew w') (aG.refl _) ?_;refine dS (λw' hx=>hb5.ext (D1.trans hx)) fN bB rfl ?_;refine dS (λw' hx=>hb5.ext (D1.trans hx)) oL bB rfl ?_;have hb5:=hb5.ext D1;generalize w1.drew=w2 at x2 hb5;clear D1;refine kJ bG [] rfl rfl (by simp) rfl λv3 w3 ho3 x3=>⟨x3,?_⟩;refine TZ bG ho3 (hp.ext (x2.trans x3)) (UC _) (by omega) (by unfold maxLen;omega) x3.size λv4 w4 ho4 hg4=>?_;have x4:aG w2 w4:=x3.grown hg4 λk hk=>(ho3.lt k hk).1;refine ⟨x4,TZ bG ho4 (hl.ext (x2.trans x4)) (UC _) (by omega) (by unfold maxLen;omega) x4.size λlv' w5 ho5 hg5=>?_⟩;have x5:aG w2 w5:=x4.grown hg5 λk hk=>(ho4.lt k hk).1;refine ⟨x5,qR YI [(3,lv')] rfl (by simp [bT ho5]) ?_⟩
 have hloc:aS w5 lv' (m.params++m.locals):=by
  have:=aC.of_own ho5;unfold aS;simpa using this
 clear ho3 ho4 ho5 hg4 hg5;refine uN λw6 hB6 x6=>⟨x5.trans x6,?_⟩;have hB6:bA w6 w5.heap.size [bF,bF,i64 ((0:Nat):Int),lv',i64 ((0:Nat):Int)] 252:=hB6;have x25:=x2.trans x5;have hr:=hr.ext x25;have hb5:=hb5.ext x5;have hw5:w.heap.size<=w5.heap.size:=x25.size;have h6:Zm w5 lv' [] 0 w6:=⟨x6,bF,hB6,World.ownsRow_nil _ _ _ _⟩;have hlocl:(m.params++m.locals).length<=100:=by simp;omega
 refine ⟨λv w'=>v=i64 0/\w'=w6,λ_ _=>0,⟨rfl,rfl⟩,?_⟩;rintro _ w7 ⟨rfl,hw⟩ _;have hw:=hw.symm;subst hw;refine lnR pC (hr.ext h6.ext) (aV.2 ?_);simp only [show ¬ ((0:Int) < ((List.length ([]:List Rw):Nat):Int)) by decide,aW,decide_false];refine ⟨λtv v w'=>tv=bF/\v=i64 0/\w'=w6,λ_ _ _=>0,⟨rfl,rfl,rfl⟩,?_⟩;rintro _ _ w7 ⟨rfl,rfl,hw⟩ _;have hw:=hw.symm;subst hw;refine lnR pC (hr.ext h6.ext) (aV.2 ?_);simp only [show ¬ ((0:Int) < ((List.length ([]:List Rw):Nat):Int)) by decide,aW,reduceIte,Bool.false_eq_true,decide_false];refine ⟨.inl ⟨_,rfl⟩,bC (bA.boxed hB6) bN gX rfl (aGl.2 ?_)⟩;refine kJ bG [i64 ((0:Nat):Int)] rfl rfl (by simp) rfl λv7 w7 ho7 x7=>?_;refine TZ bG (B:=w7.heap.size) (World.ownsRow_nil _ _ _ _) (aC.of_own ho7) rfl (by omega) (by unfold maxLen;omega) (Nat.le_refl _) λv8 w8 ho8 hg8=>?_;have h8:Zm w5 lv' [] 0 w8:=(h6.step x7).step ((aG.refl _).grown hg8 λk hk=>by cases hk)
 have fin:∀ {w'},Zm w5 lv' code 0 w'->Go.Vc.aM (.pointer (some ⟨w5.heap.size,0,none⟩))/\V prog (Instr.fieldAt 252 (.pointer (some ⟨w5.heap.size,0,none⟩)) 0) w' λt w=>V prog (Instr.loadAt 71 t) w K:=by
  rintro w' ⟨x,cv,a1,a2⟩;exact ⟨.inl ⟨_,rfl⟩,bC (bA.boxed a1) bN gX rfl (hk _ w' (aR a2 (by omega)) (x25.trans x))⟩
 refine ⟨λv w'=>v=i64 0/\Zm w5 lv' [] 0 w',λ_ _=>0,⟨rfl,h8⟩,?_⟩;rintro _ w9 ⟨rfl,h9⟩ _;obtain ⟨x9,cv9,b9,o9⟩:=h9;have h9:Zm w5 lv' [] 0 w9:=⟨x9,cv9,b9,o9⟩;refine ⟨.inl ⟨_,rfl⟩,bC (bA.boxed b9) bN gX rfl (gL kK (aC.of_own o9) (aV.2 ?_))⟩;simp only [show ¬ ((0:Int) < ((List.length ([]:List fS):Nat):Int)) by decide,aW,decide_false];have hmt:∀ {w'},aG w5 w'->fL w' b5 [pv,i64 m.result,lv,_]:=λhx=>hb5.ext hx;refine ⟨λw'=>∃ c,Zm w5 lv' c 0 w'/\code=c++[⟨39,0,0⟩]/\c.length<=1,?_,?_⟩
 ·refine bC (hmt x9) iZ aJ rfl (aX.2 ?_);rcases hb with ⟨h1,h2⟩|⟨z,h1,h2,h3⟩
  ·simp only [h1,ne_eq,not_true_eq_false,decide_false,aA];exact ⟨[],h9,h2,by decide⟩
  ·simp only [show m.result≠0 by omega,ne_eq,not_false_eq_true,decide_true,aE];refine bC (hmt x9) iZ aJ rfl ?_;apply RM;unfold zN;rcases h1 with h1|h1
   ·rw [h1] at h2;refine aF.2 ?_;simp only [h1,show ¬ ((2:Int)=1) by decide,decide_false,aA];refine aF.2 ?_;simp only [decide_true,aE];exact aWz h9 (by decide) hloc hlocl h2 λw' h'=>⟨_,h',by rw [h3];rfl,by simp⟩
   ·rw [h1] at h2;refine aF.2 ?_;simp only [h1,show ¬ ((3:Int)=1) by decide,decide_false,aA];refine aF.2 ?_;simp only [show ¬ ((3:Int)=2) by decide,decide_false,aA];exact aXp h9 (by decide) hloc hlocl h2 λw' h'=>⟨_,h',by rw [h3];rfl,by simp⟩
 rintro w10 ⟨c,h10,hcc,hcl⟩ _;refine aOq h10 (by omega) λw11 h11=>?_;rw [<- hcc] at h11;obtain ⟨x11,cv11,b11,o11⟩:=h11;have hlen:code.length<=2:=by rw [hcc];simp;omega
 refine ⟨.inl ⟨_,rfl⟩,bC (bA.boxed b11) bN gX rfl (gL kK (aC.of_own o11) (dI.2 ?_))⟩;simp only [show ¬ ((code.length:Int) > 120) by omega,decide_false,aA];exact fin ⟨x11,cv11,b11,o11⟩
def bc (k:Nat):List fS:=if k=0 then [⟨39,0,0⟩] else [⟨2,1,0⟩,⟨39,0,0⟩]
def YJ (s n1 n2:ByteArray):bE:=⟨s,[1,2,3,4],tE n1 n2,kI bc,[1,2]⟩
theorem aGb {code:Nat->List fS} (h:∀ k,k < 3->code k=bc k):kI code=kI bc:=by
 unfold kI;rw [h 0 (by decide),h 1 (by decide),h 2 (by decide)]
theorem aFu {code:Nat->List fS} {j:Nat} {m:fY} (h:(kI code)[j]?=some m):bare m (bc j):=by
 match j,h with
 | 0,h=>cases h;exact .inl ⟨rfl,rfl⟩
 | 1,h=>cases h;exact .inr ⟨1,.inl rfl,by kernel_rfl,rfl⟩
 | 2,h=>cases h;exact .inr ⟨1,.inr rfl,by kernel_rfl,rfl⟩
 | k+3,h=>simp [kI] at h
theorem aFz {n:Int} {rv:Z} {rl:List Rw} (hr:dB w rv rl) (_:mF w) (hT:nA w) (rn:rl.length=0)
  (hk:∀ p i w',iQ w' p i->kQ w' i->i.rg->i.methods.length=3->(∀ m∈i.methods,m.code.length<=700000)->(∀ w'',Fr (λk=>k < w.heap.size) w' w''->nA w''->iQ w'' p i/\kQ w'' i)->(∃ cs:List Z,∀ w'',Fr (λk=>k < w.heap.size) w' w''->aC w'' p.mv 4 i.methods.length cs/\∀ (k:Nat) (x:fY),i.methods[k]?=some x->jR w'' ((cs.drop (k*4)).take 4) x)->aG w w'->(∃ s n1 n2,i=YJ s n1 n2)->K (p.val i) w'):aD prog 38 #[i64 n,rv] w K:=by
 apply ZC;unfold EE;refine MO iN λw1 hB4 x1=>?_;have hlt4:=hB4.lt;have hg4:w.heap.size<=w.heap.size:=Nat.le_refl _;generalize hgg4:w.heap.size=g4 at hB4 hg4 hlt4;refine kJ bG [i64 1,i64 2,i64 3,i64 4] rfl rfl (by simp) rfl λlv w2 hol x2=>?_;refine uW λnm hnm=>?_;refine kJ bG [i64 1,i64 2,i64 3,i64 4] rfl rfl (by simp) rfl λfv w3 hof x3=>?_;refine kJ bG [i64 1,i64 2] rfl rfl (by simp) rfl λxv w4 hox x4=>?_;have o1:=bT hof;have o2:=bT hox;refine bld YH [(0,.string nm),(1,fv),(4,xv)] rfl (by simp [o1,o2,qY]) ?_;refine AC FB rfl (show ([.string nm,fv,bF,bF,xv]:List Z).all cB=true by simp [o1,o2,qY,OE]) λw5 hBi x5=>?_;have hBi:bA w5 w4.heap.size [.string nm,fv,bF,bF,xv] 46:=hBi;have s1:=x1.size;have s2:=x2.size;have s3:=x3.size;have s4:=x4.size;have s5:=x5.size;have R0:∀ {v:Z} {l:List Int} {wa wb:O},wb.ownsRow wa.heap.size 3 1 v l.length (l.map i64)->w1.heap.size<=wa.heap.size->wb.heap.size<=w4.heap.size->vT g4 w4.heap.size wb v l:=λho h1 h2=>⟨aR ho (by omega),λk hk=>by have:=(ho.lt k hk).2;omega⟩;have rl5:vT g4 w4.heap.size w5 lv [1,2,3,4]:=(R0 (l:=[1,2,3,4]) hol (by omega) (by omega)).ext ((x3.trans x4).trans x5);have rf5:vT g4 w4.heap.size w5 fv [1,2,3,4]:=(R0 (l:=[1,2,3,4]) hof (by omega) (by omega)).ext (x4.trans x5);have rx5:vT g4 w4.heap.size w5 xv [1,2]:=(R0 (l:=[1,2]) hox (by omega) (by omega)).ext x5
 clear R0 hol hof hox;have x15:=(((x2.trans x3).trans x4).trans x5);have hB4:=hB4.ext x15;have hgi4:g4≠w4.heap.size:=by omega
 have hiw:w4.heap.size < w5.heap.size:=hBi.lt;have hiw0:w.heap.size<=w4.heap.size:=by omega
 have x05:=x1.trans x15;have hr0:=hr;have hr:=hr.ext x05;generalize w4.heap.size=gi at *;have R1:∀ {v:Z} {l:List Int} {wa wb:O},wb.ownsRow wa.heap.size 3 1 v l.length (l.map i64)->w5.heap.size<=wa.heap.size->vT g4 gi wb v l:=λho h1=>⟨aR ho (by omega),λk hk=>by have:=(ho.lt k hk).1;omega⟩;refine bQ.2 (uW λn1 hn1=>?_);refine kJ bG [i64 1,i64 2] rfl rfl (by simp) rfl λq1 w6 hq1 x6=>?_;have s6:=x6.size;have rq1:vT g4 gi w6 q1 [1,2]:=R1 (l:=[1,2]) hq1 (by omega);have oq1:=bT hq1;refine bld DJ [(0,.string n1),(1,i64 0),(2,q1),(3,i64 2)] rfl (by simp [oq1,vN,qY]) ?_;refine bQ.2 (lnR pC (hr.ext x6) ?_);refine dU (by decide) (by decide) λ_ _ _=>bQ.2 (uW λn2 hn2=>?_);refine kJ bG [i64 4,i64 3] rfl rfl (by simp) rfl λq2 w7 hq2 x7=>?_;have s7:=x7.size;have rq2:vT g4 gi w7 q2 [4,3]:=R1 (l:=[4,3]) hq2 (by omega);have oq2:=bT hq2;refine bld DJ [(0,.string n2),(1,i64 1),(2,q2),(3,i64 3)] rfl (by simp [oq2,vN,qY]) ?_;refine yP underlying43 mY rfl (by decide) [.agg #[.string n1,i64 0,q1,i64 2],.agg #[.string n2,i64 1,q2,i64 3]] rfl rfl (by intro v hv;simp only [List.mem_cons,List.not_mem_nil,or_false] at hv;rcases hv with rfl|rfl<;>rfl) (by decide) (by decide) λiv w8 hoi x8=>?_;have s8:=x8.size;have hoi:w8.ownsRow w7.heap.size 180 4 iv 2 [.string n1,i64 0,q1,i64 2,.string n2,i64 1,q2,i64 3]:=hoi
 have x58:=(x6.trans x7).trans x8;refine zT cS GG (hBi.ext x58) (n:=5) rfl (by decide) (bT hoi) ?_;have hB9:bA (w8.setCell ⟨gi,2,none⟩ iv) gi [.string nm,fv,iv,bF,xv] 46:=(hBi.ext x58).set 2 iv;have f9:Fr (λk=>k=gi\/k<=g4\/w8.heap.size<=k) w8 (w8.setCell ⟨gi,2,none⟩ iv):=Fr.of_set (.inl rfl);have rl9:=(rl5.ext x58).fr f9 (Nat.le_refl _);have rf9:=(rf5.ext x58).fr f9 (Nat.le_refl _);have rx9:=(rx5.ext x58).fr f9 (Nat.le_refl _);have rq19:=(rq1.ext (x7.trans x8)).fr f9 (Nat.le_refl _);have rq29:=(rq2.ext x8).fr f9 (Nat.le_refl _);have hoi9:=f9.own hoi λk hk hS=>by have:=hoi.lt k hk;omega
 have hB49:bA (w8.setCell ⟨gi,2,none⟩ iv) g4 _ _:=(hB4.ext x58).other hgi4;have f59:aG w (w8.setCell ⟨gi,2,none⟩ iv):=(x05.trans x58).setCell hiw0 iv;have xr9:∀ {w'},Fr (λk=>k=gi\/k=g4\/w8.heap.size<=k) (w8.setCell ⟨gi,2,none⟩ iv) w'->aG w w':=λf=>f.ext f59 λk hk=>by omega
 have sz9:(w8.setCell ⟨gi,2,none⟩ iv).heap.size=w8.heap.size:=by simp
 generalize w8.setCell ⟨gi,2,none⟩ iv=w9 at *;have hoi0:=hoi;clear rl5 rf5 rx5 rq1 rq2 hoi hB4 hBi hq1 hq2 f9;have ol:=bT rl9.own;refine bld yR [(2,lv)] rfl (by simp [ol]) ?_;refine kJ bG [i64 1,i64 2] rfl rfl (by simp) rfl λp1 w10 hp1 x10=>?_;have s10:=x10.size;have rp1:vT g4 gi w10 p1 [1,2]:=R1 (l:=[1,2]) hp1 (by omega);have op1:=bT hp1;refine bld yR [(0,p1),(1,i64 2),(2,lv)] rfl (by simp [ol,op1,vN]) ?_;refine kJ bG [i64 4,i64 3] rfl rfl (by simp) rfl λp2 w11 hp2 x11=>?_;have s11:=x11.size;have rp2:vT g4 gi w11 p2 [4,3]:=R1 (l:=[4,3]) hp2 (by omega);have op2:=bT hp2;obtain ⟨lv3,urun,usl⟩:=uS underlying42 gW rl9.ints (lo:=none) (hi':=some (.int .i64 ((2:Nat):Int))) (a:=0) (b:=2) (.inl ⟨rfl,rfl⟩) (.inr rfl) (by decide) (by decide);refine V.ok (urun _) ?_;have ol3:cB lv3=true:=by obtain ⟨a,c,rfl⟩:=(usl _ rl9.ints).shape;rfl
 refine bld yR [(0,p2),(1,i64 3),(2,lv3)] rfl (by simp [ol3,op2,vN]) ?_;refine yP underlying44 lR rfl (by decide) [.agg #[bF,i64 0,lv,bF],.agg #[p1,i64 2,lv,bF],.agg #[p2,i64 3,lv3,bF]] rfl rfl (by intro v hv;simp only [List.mem_cons,List.not_mem_nil,or_false] at hv;rcases hv with rfl|rfl|rfl<;>rfl) (by decide) (by decide) λmv w12 hom x12=>?_;have s12:=x12.size;have hom:w12.ownsRow w11.heap.size 74 4 mv 3 (PI lv p1 p2 lv3 λ_=>bF):=hom
 obtain ⟨gm,cap,rfl⟩:∃ gm cap,mv=.slice (some ⟨gm,0,none⟩) 3 cap:=by
  rcases hom.2 with ⟨_,e⟩|⟨gm,cap,cur,rfl,_⟩
  ·cases e
  ·exact ⟨gm,cap,rfl⟩
 have hgm:=hom.lt gm rfl;have x9b:=x10.trans x11;have x9c:=x9b.trans x12;refine zT bP GF (hB9.ext x9c) (n:=5) rfl (by decide) rfl ?_;have hBC:bA (w12.setCell ⟨gi,3,none⟩ (.slice (some ⟨gm,0,none⟩) 3 cap)) gi [.string nm,fv,iv,.slice (some ⟨gm,0,none⟩) 3 cap,xv] 46:=(hB9.ext x9c).set 3 _;have fC:Fr (λk=>k=gi\/k=g4\/w11.heap.size<=k) w11 (w12.setCell ⟨gi,3,none⟩ (.slice (some ⟨gm,0,none⟩) 3 cap)):=(Fr.of_ext x12).set (.inl rfl);have homC:(w12.setCell ⟨gi,3,none⟩ (.slice (some ⟨gm,0,none⟩) 3 cap)).ownsRow w11.heap.size 74 4 (.slice (some ⟨gm,0,none⟩) 3 cap) 3 (PI lv p1 p2 lv3 λ_=>bF):=(Fr.of_set (S:=λk=>k=gi) rfl).own hom λk hk hS=>by have:=hom.lt k hk;omega
 have hB4C:bA (w12.setCell ⟨gi,3,none⟩ (.slice (some ⟨gm,0,none⟩) 3 cap)) g4 _ _:=(hB49.ext x9c).other hgi4;have szC:(w12.setCell ⟨gi,3,none⟩ (.slice (some ⟨gm,0,none⟩) 3 cap)).heap.size=w12.heap.size:=by simp
 generalize w12.setCell ⟨gi,3,none⟩ (.slice (some ⟨gm,0,none⟩) 3 cap)=wC at *;have hb11:aG w w11:=(aG.refl w).trans (f59.trans x9b);have hr0:∀ {w'},aG w w'->dB w' rv rl:=λhx=>(hr0:dB w rv rl).ext hx
 have hall:∀ {w'},Fr (λk=>k=gi\/k<=g4\/w11.heap.size<=k) w11 w'->aS w' fv [1,2,3,4]/\aS w' xv [1,2]/\aS w' lv [1,2,3,4]/\aS w' p1 [1,2]/\aS w' p2 [4,3]/\aS w' lv3 [1,2]/\nI w' iv (tE n1 n2):=by
  intro w' f;have hN:=Nat.le_refl w11.heap.size;have hl:=((rl9.ext x9b).fr f hN).ints;refine ⟨((rf9.ext x9b).fr f hN).ints,((rx9.ext x9b).fr f hN).ints,hl,((rp1.ext x11).fr f hN).ints,(rp2.fr f hN).ints,usl w' hl,YO (aC.of_own (f.own (x9b.own hoi9) λk hk hS=>?_)) ((rq19.ext x9b).fr f hN).ints ((rq29.ext x9b).fr f hN).ints⟩;have:=(x9b.own hoi9).lt k hk;omega
 have hallX:∀ {w'},Fr (λk=>k=gi\/k=g4\/w11.heap.size<=k) w11 w'->aG w w':=λf=>f.ext hb11 λk hS=>by omega
 have hS:∀ {w'},Fr (λk=>k=gi\/k=g4\/w11.heap.size<=k) w11 w'->Fr (λk=>k=gi\/k<=g4\/w11.heap.size<=k) w11 w':=λf=>f.mono λk hk=>by omega
 clear rl9 rf9 rx9 rq19 rq29 hoi9 rp1 rp2 hB9 hB49 hom usl urun hp1 hp2;refine lnR pC (hr0 (hallX fC)) ?_;have hgmC:gm < wC.heap.size:=by omega
 refine ⟨λv w'=>∃ (j:Nat) (c:Nat->Z) (code:Nat->List fS),v=i64 j/\j<=3/\Fr (λk=>k=gi\/k=g4\/w11.heap.size<=k) w11 w'/\wC.heap.size<=w'.heap.size/\bA w' gi [.string nm,fv,iv,.slice (some ⟨gm,0,none⟩) 3 cap,xv] 46/\bA w' g4 [.string ByteArray.empty,bF,bF,bF,bF] 46/\w'.ownsRow w11.heap.size 74 4 (.slice (some ⟨gm,0,none⟩) 3 cap) 3 (PI lv p1 p2 lv3 c)/\(∀ k,w'.ownsRow (gm+1) 70 3 (c k) (code k).length (iG (code k))/\(∀ x∈code k,x.rg)/\(code k).length<=700000)/\∀ k,k < j->code k=bc k,
  λv _=>3 - (RowKit.intOf v).toNat,⟨0,λ_=>bF,λ_=>[],rfl,Nat.zero_le _,fC,Nat.le_refl _,hBC,hB4C,homC,λk=>⟨World.ownsRow_nil _ _ _ _,λ_ h=>(by simp at h),Nat.zero_le _⟩,λk hk=>absurd hk (Nat.not_lt_zero k)⟩,?_⟩
 clear hBC hB4C homC fC;rintro _ wD ⟨j,c,code,rfl,hj,f,hsz,hBi,hB4,hom,hcs,hbc⟩ _;obtain ⟨rf,rx,rl',rp1,rp2,rl3,rim⟩:=hall (hS f);have xw:=hallX f;have hms:nG wD (.slice (some ⟨gm,0,none⟩) 3 cap) (kI code):=DN (aC.of_own hom) rl' rp1 rp2 rl3 λk _=>aC.of_own (hcs k).1;refine aV.2 (aL (λhlt=>?_) λhge=>?_)
 ·have hrD:=hr0 xw;have e1:∀ m:Nat,m<=3->V prog (binOp .mul 3 (i64 m) (i64 rl.length)) wD=V prog (binOp .mul 3 (i64 m) (i64 rl.length)) wD:=λ_ _=>rfl
  have e2:∀ m:Nat,m<=3->IntKind.i64.wrap ((m:Int)*(rl.length:Int))=((m*rl.length:Nat):Int):=λm hm=>by
   have:m*rl.length<=3*rl.length:=Nat.mul_le_mul_right _ hm;rw [<- Int.natCast_mul];exact aY (by omega)
  have e3:∀ (m d:Nat),m<=15000000000000->IntKind.i64.wrap (((m:Nat):Int).tdiv ((d:Nat):Int))=((m / d:Nat):Int):=λm d hm=>by
   have h1:((m:Nat):Int).tdiv ((d:Nat):Int)=((m / d:Nat):Int):=by
    rw [Int.tdiv_eq_ediv_of_nonneg (by omega)];rfl
   have h2:m / d<=m:=Nat.div_le_self _ _;rw [h1];clear h1;generalize m / d=q at *;exact aY (by omega)
  have e4:∀ a b:Nat,min ((a:Nat):Int) ((b:Nat):Int)=((min a b:Nat):Int):=λa b=>by omega
  have hj3:j*rl.length<=3*rl.length:=Nat.mul_le_mul_right _ hj;have hj4:(j+1)*rl.length<=3*rl.length:=Nat.mul_le_mul_right _ (by omega);refine PL.2 ?_;rw [e2 j hj];refine (CD (by decide)).2 ?_;rw [show (3:Int)=((3:Nat):Int) from rfl,e3 _ 3 (by omega)];refine V.ok vM (bQ.2 ?_);rw [e4,iW (n:=(j:Int)+1) (by omega) (by omega),cG];refine PL.2 ?_;rw [e2 (j+1) (by omega)];refine (CD (by decide)).2 ?_;rw [e3 _ 3 (by omega)];refine V.ok vM ?_;rw [e4];have hd1:j*rl.length / 3<=(j+1)*rl.length / 3:=Nat.div_le_div_right (Nat.mul_le_mul_right _ (by omega));obtain ⟨v1,r1,hs1⟩:=dB.part underlying99 tB hrD (lo:=some (.int .i64 ((min rl.length (j*rl.length / 3):Nat):Int))) (hi':=some (.int .i64 ((min rl.length ((j+1)*rl.length / 3):Nat):Int))) (.inr rfl) (.inr rfl) (by omega) (by omega);refine V.ok (r1 _) ?_;refine ⟨λv w'=>∃ l,dB wD v l/\l.length=0/\w'=wD,aF.2 (aL (λhz=>?_) λhz=>⟨_,hs1,by simp;omega,rfl⟩),?_⟩
  ·refine (CD (by decide)).2 ?_;rw [show (2:Int)=((2:Nat):Int) from rfl,e3 _ 2 (by omega)];refine V.ok vM ?_;rw [e4];obtain ⟨v2,r2,hs2⟩:=dB.part underlying99 tB hrD (lo:=none) (hi':=some (.int .i64 ((min rl.length (rl.length / 2):Nat):Int))) (a:=0) (.inl ⟨rfl,rfl⟩) (.inr rfl) (by omega) (by omega);exact V.ok (r2 _) ⟨_,hs2,by simp;omega,rfl⟩
  rintro v3 wD' ⟨l,hl,hll,hwD⟩ _;have hwD:=hwD.symm;subst hwD;have D1:aG wD wD.drew:=(aG.refl _).drew;have hBid:=hBi.ext D1;obtain ⟨m,hm⟩:=bK (l:=kI code) (j:=j) (by simp [kI];omega);refine aI.mk' (λw'=>aG wD.drew w') (aG.refl _) ?_;refine dS (λw' hx=>bA.boxed (hBid.ext hx)) bP gM rfl ?_;refine dS (λw' hx=>bA.boxed (hBid.ext hx)) bP gM rfl ?_;refine ySS iT oK (hms.ext D1) (λ_ h=>h) hm tY λrow hrow=>?_;refine dS (λw' hx=>bA.boxed (hBid.ext hx)) bP gM rfl ?_;refine dS (λw' hx=>bA.boxed (hBid.ext hx)) cS kE rfl ?_;have xwd:=xw.trans D1;have hmp:=BZ hm;have hl0:l=[]:=List.eq_nil_of_length_eq_zero hll;subst hl0;refine aVf (hl.ext D1) hrow (by omega) (by omega) (aFu hm) λv4 wE ho4 xE=>⟨xE,?_⟩;have hrg4:∀ x∈bc j,x.rg:=by intro x hx;unfold bc at hx;split at hx<;>simp only [List.mem_cons,List.not_mem_nil,or_false] at hx<;>(try rcases hx with rfl|rfl)<;>(try subst hx)<;>exact ⟨by decide,by decide⟩
  have hlen4:(bc j).length<=700000:=by unfold bc;split<;>decide
  have x3E:=D1.trans xE;refine aB.ok (λw' _=>eW underlying44 lR (by omega) (by omega)) ?_;refine aB.ok (λw' _=>FA.ex gJ w' _ _) ?_;rw [Int.toNat_natCast];refine RY underlying44 lR gJ uC (x3E.own hom) (by omega) (by decide) (bT ho4) λwF hwF hoF fF=>bQ.2 ?_;rw [aY (by omega),cG];have sE:=x3E.size;have sD:=D1.size;have sF:=fF.size;rw [PH (by omega)] at hoF;refine ⟨⟨j+1,λk=>if k=j then v4 else c k,λk=>if k=j then bc j else code k,rfl,by omega,(f.trans (Fr.of_ext x3E) λ_ _ h=>h).trans fF λk _ hk=>by omega,by omega,fF.blk (hBi.ext x3E) (by omega),fF.blk (hB4.ext x3E) (by omega),hoF,λk=>?_,λk hk=>?_⟩,by simp only [aU];omega⟩
  rotate_left
  ·by_cases hkj:k=j
   ·simp only [hkj,if_true]
   ·simp only [hkj,if_false];exact hbc k (by omega)
  by_cases hkj:k=j
  ·simp only [hkj,if_true];exact ⟨aR (fF.own ho4 λq hq hS=>by have:=(ho4.lt q hq).1;omega) (by omega),hrg4,hlen4⟩
  ·simp only [hkj,if_false];obtain ⟨c1,c2,c3⟩:=hcs k;exact ⟨fF.own (x3E.own c1) λq hq hS=>by have:=(c1.lt q hq).1;omega,c2,c3⟩
 ·refine qL (bA.boxed hBi) kZ rfl ?_;refine EV iN hB4 (l:=[.string nm,fv,iv,.slice (some ⟨gm,0,none⟩) 3 cap,xv]) rfl rfl rfl (by simp [o1,o2,bT hoi0,qY,OE]) λwE hBE hc=>?_;refine ⟨_,sH underlying46 rfl iN hBE rfl,⟨_,rfl⟩,?_⟩;have fE:Fr (λk=>k=gi\/k=g4\/w11.heap.size<=k) w11 wE:=f.trans ((mZ hc).mono λk hk=>.inr (.inl hk)) λ_ _ h=>h;have xw:=hallX fE;have hg4m:g4 < gm:=by omega
  have homE:=(mZ hc).own hom λk hk hS=>by have:=(hom.lt k hk).1;omega
  have hcsE:∀ k,wE.ownsRow (gm+1) 70 3 (c k) (code k).length (iG (code k)):=λk=>(mZ hc).own (hcs k).1 λq hq hS=>by have:=((hcs k).1.lt q hq).1;omega
  have stay:∀ w'',Fr (λk=>k < g4) wE w''->nA w''->iQ w'' ⟨fv,iv,.slice (some ⟨gm,0,none⟩) 3 cap,xv⟩ ⟨nm,[1,2,3,4],tE n1 n2,kI code,[1,2]⟩/\kQ w'' ⟨nm,[1,2,3,4],tE n1 n2,kI code,[1,2]⟩:=by
   intro w'' f'' hT'';have f3:Fr (λk=>k=gi\/k<=g4\/w11.heap.size<=k) w11 w'':=(hS fE).trans f'' λk _ hk=>by omega
   obtain ⟨rf,rx,rl',rp1,rp2,rl3,rim⟩:=hall f3;refine ⟨⟨rf,rim,DN (aC.of_own (f''.own homE λk hk hS=>by have:=(homE.lt k hk).1;omega)) rl' rp1 rp2 rl3 λk _=>aC.of_own (f''.own (hcsE k) λq hq hS=>by have:=((hcsE k).lt q hq).1;omega),rx⟩,uV hnm hT'',λx hx=>?_⟩;simp only [tE,List.mem_cons,List.not_mem_nil,or_false] at hx;rcases hx with rfl|rfl
   ·exact uV hn1 hT''
   ·exact uV hn2 hT''
  have stayM:∃ cs:List Z,∀ w'',Fr (λk=>k < g4) wE w''->aC w'' (.slice (some ⟨gm,0,none⟩) 3 cap) 4 3 cs/\∀ (k:Nat) (x:fY),(kI code)[k]?=some x->jR w'' ((cs.drop (k*4)).take 4) x:=by
   refine ⟨PI lv p1 p2 lv3 c,λw'' f''=>?_⟩;have f3:Fr (λk=>k=gi\/k<=g4\/w11.heap.size<=k) w11 w'':=(hS fE).trans f'' λk _ hk=>by omega
   obtain ⟨rf,rx,rl',rp1,rp2,rl3,rim⟩:=hall f3;exact PG (w:=w'') (aC.of_own (f''.own homE λk hk hS=>by have:=(homE.lt k hk).1;omega)) rl' rp1 rp2 rl3 λk _=>aC.of_own (f''.own (hcsE k) λq hq hS=>by have:=((hcsE k).lt q hq).1;omega)
  have hTE:=hT.ext xw;obtain ⟨hat,hnmE⟩:=stay wE (Fr.refl _ _) hTE;refine hk ⟨fv,iv,.slice (some ⟨gm,0,none⟩) 3 cap,xv⟩ ⟨nm,[1,2,3,4],tE n1 n2,kI code,[1,2]⟩ wE hat hnmE (λm hm x hx=>?_) rfl (λm hm=>?_) (by rw [hgg4];exact stay) (by rw [hgg4];exact stayM) xw ⟨nm,n1,n2,by unfold YJ;rw [aGb λk hk=>hbc k (by omega)]⟩
  ·simp only [kI,List.mem_cons,List.not_mem_nil,or_false] at hm;rcases hm with rfl|rfl|rfl
   ·exact (hcs 0).2.1 x hx
   ·exact (hcs 1).2.1 x hx
   ·exact (hcs 2).2.1 x hx
  ·simp only [kI,List.mem_cons,List.not_mem_nil,or_false] at hm;rcases hm with rfl|rfl|rfl
   ·exact (hcs 0).2.2
   ·exact (hcs 1).2.2
   ·exact (hcs 2).2.2
theorem aXe {i:bE}:∃ s,qQ i ⟨[],0,[1,2,3,4],[⟨39,0,0⟩]⟩ (some s):=
 ⟨⟨[[]],[true],[false]⟩,.inr ⟨λx hx=>(by
   rw [List.mem_singleton] at hx;subst hx;unfold gT;simp),.go (pc:=0) (s':=⟨[[]],[true],[false]⟩) (by kernel_rfl) (by kernel_rfl) (.done (by kernel_rfl))⟩⟩
theorem aXd {i:bE}:∃ s,qQ i ⟨[1,2],2,[1,2,3,4],[⟨2,1,0⟩,⟨39,0,0⟩]⟩ (some s):=
 ⟨⟨[[],[2]],[true,true],[false,false]⟩,.inr ⟨λx hx=>(by
   simp only [List.mem_cons,List.not_mem_nil,or_false] at hx;rcases hx with rfl|rfl<;>unfold gT<;>simp [fY.locs]),.go (pc:=0) (s':=⟨[[],[2]],[true,true],[false,true]⟩) (by kernel_rfl) (by kernel_rfl) (.go (pc:=1) (s':=⟨[[],[2]],[true,true],[false,false]⟩) (by kernel_rfl) (by kernel_rfl) (.done (by kernel_rfl)))⟩⟩
theorem aXc {i:bE}:∃ s,qQ i ⟨[4,3],3,[1,2],[⟨2,1,0⟩,⟨39,0,0⟩]⟩ (some s):=
 ⟨⟨[[],[3]],[true,true],[false,false]⟩,.inr ⟨λx hx=>(by
   simp only [List.mem_cons,List.not_mem_nil,or_false] at hx;rcases hx with rfl|rfl<;>unfold gT<;>simp [fY.locs]),.go (pc:=0) (s':=⟨[[],[3]],[true,true],[false,true]⟩) (by kernel_rfl) (by kernel_rfl) (.go (pc:=1) (s':=⟨[[],[3]],[true,true],[false,false]⟩) (by kernel_rfl) (by kernel_rfl) (.done (by kernel_rfl)))⟩⟩
theorem MJ (s n1 n2:ByteArray):uI (YJ s n1 n2):=by
 refine ⟨⟨⟨?_,by show (4:Int)<=8;decide⟩,⟨by show 2<=4;decide,λx hx=>?_⟩,⟨⟨by show 1<=3;decide,by show 3<=8;decide⟩,λm hm=>?_,rfl,rfl⟩,by show 2<=4;decide,λn hn=>?_⟩,λm hm=>?_⟩
 ·show kR [1,2,3,4];unfold kR;decide
 ·have hx:x∈[(⟨n1,0,[1,2],2⟩:zX),⟨n2,1,[4,3],3⟩]:=hx;simp only [List.mem_cons,List.not_mem_nil,or_false] at hx;rcases hx with rfl|rfl
  ·refine ⟨(by show (0:Int)<=0/\(0:Int) < 4;decide),⟨?_,(by show (2:Int)<=4;decide)⟩,(by show (0:Int)<=2/\(2:Int)<=4;decide)⟩;show kR [1,2];unfold kR;decide
  ·refine ⟨(by show (0:Int)<=1/\(1:Int) < 4;decide),⟨?_,(by show (2:Int)<=4;decide)⟩,(by show (0:Int)<=3/\(3:Int)<=4;decide)⟩;show kR [4,3];unfold kR;decide
 ·have hm:m∈[(⟨[],0,[1,2,3,4],[⟨39,0,0⟩]⟩:fY),⟨[1,2],2,[1,2,3,4],[⟨2,1,0⟩,⟨39,0,0⟩]⟩,⟨[4,3],3,[1,2],[⟨2,1,0⟩,⟨39,0,0⟩]⟩]:=hm;simp only [List.mem_cons,List.not_mem_nil,or_false] at hm;rcases hm with rfl|rfl|rfl<;>(unfold fY.right oV kR fS.right lim;decide)
 ·have hn:n∈[(1:Int),2]:=hn;show 0<=n/\n < (3:Int);simp only [List.mem_cons,List.not_mem_nil,or_false] at hn;omega
 ·have hm:m∈[(⟨[],0,[1,2,3,4],[⟨39,0,0⟩]⟩:fY),⟨[1,2],2,[1,2,3,4],[⟨2,1,0⟩,⟨39,0,0⟩]⟩,⟨[4,3],3,[1,2],[⟨2,1,0⟩,⟨39,0,0⟩]⟩]:=hm;simp only [List.mem_cons,List.not_mem_nil,or_false] at hm;rcases hm with rfl|rfl|rfl
  ·exact aXe
  ·exact aXd
  ·exact aXc
theorem aXq {n:Int} {rv:Z} (hr:dB w rv []) (hb:mF w) (hT:nA w) (hk:∀ p i w',tF w.heap.size w' p i->uI i->aG w w'->K (p.val i) w'):aD prog 38 #[i64 n,rv] w K:=
 aFz hr hb hT rfl λp i w' _ _ h3 h4 h5 h7 h8 h6 h9=>hk p i w' ⟨λw'' f hT''=>⟨(h7 w'' f hT'').1,(h7 w'' f hT'').2,h3,h4,λm hm=>Nat.le_trans (h5 m hm) (by decide)⟩,h8⟩ (by obtain ⟨a,b,c,rfl⟩:=h9;exact MJ a b c) h6
theorem GW {v:Z} {ll:List (List Rw)} (h:sA w v ll) (hb:mF w) (hT:nA w) (hk:∀ v' l w',nL w' v' l->l.length=min ll.length 3->(∀ x∈l,∀ w'',Fr (λk=>k < w.heap.size) w' w''->nA w''->Apl w'' x.1 x.2)->aG w w'->K v' w'):aD prog 8 #[v] w K:=by
 apply aNg;unfold MS;refine ⟨λt v w'=>∃ (j:Nat) (l:List (cQ × bE)),v=i64 j/\j<=ll.length/\j<=3/\l.length=j/\aG w w'/\w'.ownsRow w.heap.size 46 5 t l.length (GJ l)/\∀ x∈l,(∀ w'',Fr (λk=>t.ownBlock=some k\/k < w.heap.size) w' w''->nA w''->Apl w'' x.1 x.2)/\uI x.2,λ_ v _=>3 - (RowKit.intOf v).toNat,⟨0,[],rfl,Nat.zero_le _,Nat.zero_le _,rfl,aG.refl _,World.ownsRow_nil _ _ _ _,λ_ h=>by simp at h⟩,?_⟩;rintro tv _ w1 ⟨j,l,rfl,hj,hj3,hlj,x1,ho,hl⟩ _;obtain ⟨vs,hvs,hvl⟩:=h.ext x1
 have hb1:∀ {w'},aG w w'->mF w':=λhx q hq=>by
  obtain ⟨z,hz⟩:=hb q hq;exact ⟨z,hx.cell hz⟩
 refine gL MY hvs (aV.2 ?_);by_cases c0:(j:Int) < (ll.length:Int)/\(j:Int) < 3
 case neg=>
  have fin:K tv w1:=hk tv l w1 ⟨GJ l,aC.of_own ho,λk x hx=>⟨_,GI hx,rfl,(hl x (List.mem_of_getElem? hx)).1 _ (Fr.refl _ _) (hT.ext x1),(hl x (List.mem_of_getElem? hx)).2⟩⟩ (by omega) (λx hx w'' f hT''=>(hl x hx).1 w'' (f.mono λk hk=>.inr hk) hT'') x1;by_cases c1:(j:Int) < (ll.length:Int)
  ·have c2:¬ (j:Int) < 3:=λhc=>c0 ⟨c1,hc⟩;simp only [c1,c2,aW];exact fin
  ·simp only [c1,aW];exact fin
 obtain ⟨c1,c2⟩:=c0;simp only [c1,c2,aW];obtain ⟨rl,hrl⟩:=bK (l:=ll) (j:=j) (by omega);obtain ⟨ru,hru,hrr,hrn⟩:=hvl j rl hrl;refine mX MY XF hvs (by omega) (by omega) (by simpa using hru) ?_;refine aVh hrr (hb1 x1) (hT.ext x1) hrn λp2 i2 w2 ha2 hc2 x2=>?_;have hone:=(ha2.now (hT.ext (x1.trans x2))).one;refine AC FB rfl hone λw3 hB3 x3=>?_;have hB3:bA w3 w2.heap.size (p2.cells i2) 46:=hB3;have s2:=x2.size;have x13:=x2.trans x3;have hg:w1.heap.size<=w2.heap.size:=s2;have ha3:=ha2.ext x3;generalize w2.heap.size=g at *;clear ha2 x2 x3 s2 hone hc2;have hT1:∀ {w'},aG w1 w'->nA w':=λhx=>hT.ext (x1.trans hx);refine ⟨λw'=>∃ p i,bA w' g (cQ.cells p i) 46/\tF w1.heap.size w' p i/\aG w1 w'/\uI i,?_,?_⟩
 ·refine qL (bA.boxed hB3) kZ rfl ?_;have hA3:=ha3.now (hT1 x13);refine wS (p:=p2) (i:=i2) hA3.at_ hA3.nm λa b e w4 he4 x4=>?_;refine cD.2 (cC.2 ?_);refine asB VG rfl rfl λb5 w5 _ x5=>?_;have x45:=x4.trans x5;have hB5:=hB3.ext x45;have ha5:=ha3.ext x45;have x15:=x13.trans x45;refine aX.2 (aL (λhne=>?_) λheq=>⟨p2,i2,hB5,ha5,x15,he4.1 (by omega)⟩);have D1:aG w5 w5.drew:=(aG.refl _).drew;have x1d:=x15.trans D1;have hrrd:=hrr.ext x1d;obtain ⟨u6,r6,hs6⟩:=dB.part underlying99 tB hrrd (lo:=none) (hi':=some (.int .i64 ((rl.length / 2:Nat):Int))) (a:=0) (b:=rl.length / 2) (.inl ⟨rfl,rfl⟩) (.inr rfl) (by omega) (by omega);refine aI.mk' (λw'=>aG w5.drew w') (aG.refl _) ?_;refine hJ MY XF (hvs.ext x1d) (λ_ h=>h) (by omega) (by omega) (by simpa using hru) ?_;refine hJ MY XF (hvs.ext x1d) (λ_ h=>h) (by omega) (by omega) (by simpa using hru) ?_;refine aTs pC hrrd ?_;refine aB.ok (λw' _=>FF (by decide)) ?_
  have e2:IntKind.i64.wrap (((rl.length:Nat):Int).tdiv 2)=((rl.length / 2:Nat):Int):=by
   rw [Int.tdiv_eq_ediv_of_nonneg (by omega),aY (by omega)];rfl
  rw [e2];refine aB.ok (λw' _=>r6 _) ?_;refine aVh hs6 (hb1 (x1.trans x1d)) (hT.ext (x1.trans x1d)) (by simp;omega) λp7 i7 w7 ha7 _ x7=>⟨x7,?_⟩;have x17:=x1d.trans x7;have hgd:g < w5.drew.heap.size:=(hB5.ext D1).lt;have s1d:=x1d.size;refine EV iN (hB5.ext (D1.trans x7)) (l:=p7.cells i7) rfl rfl rfl (ha7.now (hT1 x17)).one λw8 hB8 hc8=>?_;have x18:aG w1 w8:=hc8.ext _ x17 hg;have ha8:tF w1.heap.size w8 p7 i7:=ha7.chg (mZ hc8) hgd s1d;refine qL (bA.boxed hB8) kZ rfl ?_;have hA8:=ha8.now (hT1 x18);refine wS (p:=p7) (i:=i7) hA8.at_ hA8.nm λa b e w9 he9 x9=>?_;refine cD.2 (cC.2 ?_);refine asB VG rfl rfl λb10 w10 _ x10=>?_;have x910:=x9.trans x10;refine aX.2 (aL (λhne2=>?_) λheq=>⟨p7,i7,hB8.ext x910,ha8.ext x910,x18.trans x910,he9.1 (by omega)⟩);have x1A:=x18.trans x910;refine aXq ⟨⟨none,0,rfl⟩,λh=>by simp at h⟩ (hb1 (x1.trans x1A)) (hT.ext (x1.trans x1A)) λp11 i11 w11 ha11 ht11 x11=>?_;have hgA:g < w10.heap.size:=(hB8.ext x910).lt;have s1A:=x1A.size;refine EV iN (hB8.ext (x910.trans x11)) (l:=p11.cells i11) rfl rfl rfl (ha11.now (hT1 (x1A.trans x11))).one λw12 hB12 hc12=>?_;exact ⟨p11,i11,hB12,ha11.chg (mZ hc12) hgA s1A,hc12.ext _ (x1A.trans x11) hg,ht11⟩
 rintro w4 ⟨p,i,hB,ha,x14,ht⟩ _;refine qL (bA.boxed hB) kZ rfl ?_;have hA:=ha.now (hT1 x14);refine wS (p:=p) (i:=i) hA.at_ hA.nm λa b e w5 he x5=>?_;refine cD.2 (cC.2 ?_);refine asB VG rfl rfl λb6 w6 _ x6=>?_;have x46:=x5.trans x6;have x16:=x14.trans x46;refine aF.2 (aL (λhz=>?_) λhz=>?_)
 ·refine qL (bA.boxed (hB.ext x46)) kZ rfl ?_;refine yP underlying24 iN rfl (by decide) [.agg (p.cells i).toArray] rfl rfl (by intro v hv;rw [List.mem_singleton] at hv;subst hv;rfl) (by decide) (by decide) λv7 w7 ho7 x7=>?_;have s7:=(x1.trans (x16.trans x7)).size;have hone7:([Value.agg (p.cells i).toArray].flatMap λv=>v.cells.toList).all cB=true:=by simpa [Value.cells] using hA.one
  refine apG underlying24 iN rfl (by decide) ((x16.trans x7).own ho) (aC.of_own ho7) hone7 (by omega) (by unfold maxLen;omega) s7 λv8 w8 ho8 hg8 hl8=>?_;have x18:aG w w8:=(x1.trans (x16.trans x7)).grown hg8 λk hk=>(ho.lt k hk).1;refine nO (by omega) ?_;refine ⟨⟨j+1,l++[(p,i)],rfl,by omega,by omega,by simp;omega,x18,?_,λx hx=>?_⟩,by simp only [aU];omega⟩
  ·have e1:GJ (l++[(p,i)])=GJ l++([Value.agg (p.cells i).toArray].flatMap λv=>v.cells.toList):=by simp [GJ,Value.cells]
   rw [e1,List.length_append];exact ho8
  ·have f8:Fr (λk=>tv.ownBlock=some k) w7 w8:=Fr.of_grown hg8 λk hk=>hk;have x17:=x16.trans x7;have s17:=x17.size
   have f78:∀ {w''},Fr (λk=>v8.ownBlock=some k\/k < w.heap.size) w8 w''->Fr (λk=>tv.ownBlock=some k\/k < w.heap.size) w7 w'':=λf=>(f8.mono λk hk=>.inl hk).trans f λk hk hk'=>by
    rcases hk' with hk'|hk'
    ·rcases hl8 with h8|h8
     ·rw [h8] at hk';exact .inl hk'
     ·rw [h8] at hk';cases hk';omega
    ·exact .inr hk'
   rcases List.mem_append.1 hx with hx|hx
   ·exact ⟨λw'' f hT''=>(hl x hx).1 w'' ((Fr.of_ext x17).trans (f78 f) λ_ _ h=>h) hT'',(hl x hx).2⟩
   ·rw [List.mem_singleton] at hx;subst hx;refine ⟨λw'' f hT''=>ha.ap w'' ((Fr.of_ext (x46.trans x7)).trans ((f78 f).mono λk hk=>?_) λ_ _ h=>h) hT'',ht⟩;have:=x1.size;rcases hk with hk|hk
    ·exact (ho.lt k hk).2
    ·omega
 ·exact absurd (he.2 ht) hz
end Go.Proofs.YtgkkecladbmjkaaGreatDoor
namespace Go.Proofs.YtgkkecladbmjkaaGreatDoor
open Tryz
open Go.Vc Go.Tc
section
variable {l:List bE} {X0:Nat->Prop} {p:iP} {fg fcap:Nat} {qs:List FP} {q:FP} {m:PM} {w w':O} {S:Nat->Prop}
def MB (p:iP) (q:FP) (fg:Nat) (qs:List FP) (i:Nat):Prop:=(∃ a,a≠Lb.ex/\WR p q (λ_=>False) a i)\/i=fg\/∃ a∈qs,qO a i
theorem WRx {X Y:Nat->Prop} {a:Lb} {i:Nat} (ha:a≠.ex) (h:WR p q X a i):WR p q Y a i:=by
 cases a with
 | ex=>exact absurd rfl ha
 | _=>exact h
theorem cO.fr (h:cO l X0 p fg fcap qs q m w) (g:Fr S w w') (hn:∀ i,MB p q fg qs i->¬ S i):cO l X0 p fg fcap qs q m w':=
 ⟨h.wh.fr g λa i ha hi=>hn i (.inl ⟨a,ha,WRx ha hi⟩),g.own h.row λi hi=>hn i (.inr (.inl (by simpa [Value.ownBlock] using hi.symm))),h.bel.fr g λa ha i hi=>hn i (.inr (.inr ⟨a,ha,hi⟩)),h.bd,h.bf,h.x0⟩
theorem cO.lt (h:cO l X0 p fg fcap qs q m w) {i:Nat} (hi:MB p q fg qs i):i < w.heap.size:=by
 rcases hi with ⟨a,ha,hi⟩|hi|hi
 ·exact h.wh.sep.lt a i (WRx ha hi)
 ·exact h.wh.sep.lt .ex i (.inr (.inl hi))
 ·exact h.wh.sep.lt .ex i (.inr (.inr hi))
def Els (p:iP) (q:FP) (fg:Nat) (qs:List FP) (n:Nat) (i:Nat):Prop:=i < n/\¬ MB p q fg qs i
theorem cO.all (h:cO l X0 p fg fcap qs q m w):cO l (Els p q fg qs w.heap.size) p fg fcap qs q m w:=by
 have H:=h.wh;refine ⟨⟨H.room,H.rps,H.fld,H.img,H.box,H.frm,⟨λa b i ha hb=>?_,λa i ha=>?_⟩⟩,h.row,h.bel,h.bd,h.bf,λi hi=>⟨λe=>hi.2 (.inr (.inl e)),λa ha e=>hi.2 (.inr (.inr ⟨a,ha,e⟩))⟩⟩
 ·have key:∀ {a:Lb},a≠.ex->WR p q (BX (Els p q fg qs w.heap.size) fg qs) a i->¬ BX (Els p q fg qs w.heap.size) fg qs i:=by
   intro a ha hi hx;rcases hx with hx|hx|hx
   ·exact hx.2 (.inl ⟨a,ha,WRx ha hi⟩)
   ·exact ha (H.sep.dj a .ex i (WRx ha hi) (.inr (.inl hx)))
   ·exact ha (H.sep.dj a .ex i (WRx ha hi) (.inr (.inr hx)))
  by_cases h1:a=.ex
  ·by_cases h2:b=.ex
   ·rw [h1,h2]
   ·subst h1;exact absurd ha (key h2 hb)
  ·by_cases h2:b=.ex
   ·subst h2;exact absurd hb (key h1 ha)
   ·exact H.sep.dj a b i (WRx h1 ha) (WRx h2 hb)
 ·by_cases h1:a=.ex
  ·subst h1;rcases ha with ha|ha|ha
   ·exact ha.1
   ·exact H.sep.lt .ex i (.inr (.inl ha))
   ·exact H.sep.lt .ex i (.inr (.inr ha))
  ·exact H.sep.lt a i (WRx h1 ha)
theorem UH.fr {e:zR} (h:UH l X0 p e w) (g:Fr S w w') (hS:∀ i,S i->i < w.heap.size->X0 i):UH l X0 p e w':=by
 obtain ⟨q,f,X,a,cap,h1,h2⟩:=h;exact ⟨q,f,X,a,cap,h1.fr g λb i hb hi hs=>hb (h1.sep.dj b .ex i hi (h2 i (hS i hs (h1.sep.lt b i hi)))),h2⟩
theorem XV (g:Fr S w w'):Fr (λi=>S i/\i < w.heap.size) w w':=⟨g.os,g.tape,g.output,g.size,λi hi hn=>g.block i hi λhs=>hn ⟨hs,hi⟩⟩
end
section
variable {w:O} {K:Z->O->Prop}
def PT (w:O) (v:Z) (ll:List (List Rw)):Prop:=(∃ a c,v=.slice a ll.length c)/\(0 < ll.length->sA w v ll)
theorem YL {a:Option Addr} {c:Nat} (hk:K bF w):aD prog 8 #[.slice a 0 c] w K:=by
 apply aNg;unfold MS;refine ⟨λt v w'=>t=bF/\v=i64 0/\w'=w,λ_ _ _=>0,⟨rfl,rfl,rfl⟩,?_⟩;rintro _ _ w1 ⟨rfl,rfl,hw⟩ _;have hw:=hw.symm;subst hw;refine aGo.2 (aV.2 ?_);simp only [show ¬ ((0:Int) < ((0:Nat):Int)) by decide,aW];exact hk
theorem YM {v:Z} {ll:List (List Rw)} (h:PT w v ll) (hb:mF w) (hT:nA w) (hk:∀ v' l w',nL w' v' l->l.length=min ll.length 3->aG w w'->K v' w'):aD prog 8 #[v] w K:=by
 by_cases h0:0 < ll.length
 ·exact GW (h.2 h0) hb hT λv' l w' h1 h2 _ h3=>hk v' l w' h1 h2 h3
 ·obtain ⟨⟨a,c,rfl⟩,_⟩:=h;have e0:ll.length=0:=by omega
  rw [e0];exact YL (hk bF [] w ⟨[],aC.nil _ _,λk x hk=>by simp at hk⟩ (by rw [e0];rfl) (aG.refl _))
theorem aQr {v:Z} {ll:List (List Rw)} (h:PT w v ll) (hb:mF w) (hT:nA w) (hk:∀ v' l w',nL w' v' l->0 < l.length->l.length<=3->aG w w'->K v' w') :
  aD prog 8 #[v] w λt24 w1=>∃ J1:NP 1,
   (V prog (Builtin.len_ #[24] 3 #[t24]) w1 λt26 w2=>V prog (do eqGuard .eql 3 (.tmp 26) (.const (i64 0)) t26 (i64 0);binOp .eql 3 t26 (i64 0)) w2 λt27 w3=>
    aO t27 (V prog (Instr.buildSlice 22 1 #[(0,bF)]) w3 λt28 w4=>aD prog 8 #[t28] w4 λt29 w5=>J1 t29 w5) (J1 t24 w3)) /\
   ∀ (t11:Z),∀ w6:O,J1 t11 w6->∀ _f:bM,K t11 w6:=by
 refine YM h hb hT λv1 l1 w1 h1 e1 x1=>?_;refine ⟨λv' w'=>∃ l,nL w' v' l/\0 < l.length/\l.length<=3/\aG w w',?_,λv' w' ⟨l,g1,g2,g3,g4⟩ _=>hk v' l w' g1 g2 g3 g4⟩;refine AA lO h1 (aF.2 (aL (λhz=>?_) λhz=>⟨l1,h1,by omega,by omega,x1⟩));refine kJ aTu [bF] rfl rfl (by simp) rfl λv2 w2 ho2 x2=>?_;have x12:=x1.trans x2
 have h2:sA w2 v2 [[]]:=⟨[bF],aC.of_own ho2,λk l hk=>⟨bF,by
  match k,hk with
  | 0,_=>rfl
  | k+1,hk=>simp at hk,by
  match k,hk with
  | 0,hk=>cases hk;exact ⟨⟨none,0,rfl⟩,λh=>by simp at h⟩
  | k+1,hk=>simp at hk,by
  match k,hk with
  | 0,hk=>cases hk;simp
  | k+1,hk=>simp at hk⟩⟩
 refine GW h2 (λq hq=>?_) (hT.ext x12) λv3 l3 w3 h3 e3 _ x3=>⟨l3,h3,by rw [e3];decide,by rw [e3];decide,x12.trans x3⟩;obtain ⟨z,hz⟩:=hb q hq;exact ⟨z,x12.cell hz⟩
theorem uF {v:Z} {l:List Int} (h:gK w v l) (hok:pR l):aD prog 10 #[v,i64 64] w λr w'=>(w'.ownsRow w.heap.size 5 1 r (l.take 64).length ((l.take 64).map u8)/\gK w' r (l.take 64)/\(l.take 64).length<=64/\pR (l.take 64))/\aG w w':=by
 refine (aPz h (k:=64) (by decide)).mono λr w' ⟨ho,x⟩=>⟨⟨ho,?_,by simp;omega,λb hb=>hok b (List.mem_of_mem_take hb)⟩,x⟩;rcases (aC.of_own ho).2 with ⟨e1,e2⟩|⟨b,off,cap,e1,_⟩
 ·exact .inl ⟨by first|exact e1|(rw [e1]),by first|exact List.eq_nil_of_length_eq_zero e2|omega⟩
 ·exact .inr ⟨_,_,e1,λ_=>aC.of_own ho⟩
theorem FI {n m:Int} (hm:0 < m) (hm2:m<=1000000) (hk:∀ k:Nat,(k:Int) < m->K (i64 (k:Int)) w):aD prog 11 #[i64 n,i64 m] w K:=
 dU hm (by omega) λk h0 h1=>by
  obtain ⟨z,rfl⟩:∃ z:Nat,k=z:=⟨k.toNat,by omega⟩;exact hk z h1
end
end Go.Proofs.YtgkkecladbmjkaaGreatDoor
namespace Go.Vc
end Go.Vc
namespace Go.Proofs.YtgkkecladbmjkaaGreatDoor
open Tryz
open Go.Vc Go.Tc
section
variable {l:List bE} {p p':iP} {q q':FP} {f f':gY} {r:Rm} {X X':Nat->Prop} {sl sl':Z} {fu st fu' st':Int} {w w':O}
def aXl (fd:List (List Int)) (k j:Nat):Z:=if k < fd.length/\j < (fd.getD k []).length then .tuple #[i32 ((fd.getD k []).getD j 0),.bool true] else .tuple #[i32 0,.bool false]
end
theorem VV {w:O} {x y:Operand} (e:sO):(do eqGuard .neq 54 x y (.agg e.cells.toArray) (.agg e.cells.toArray);binOp .neq 54 (.agg e.cells.toArray) (.agg e.cells.toArray)).run prog w=.ok (.bool false) w:=by
 have hm:prog.eqGuardType prog.depth 54=false:=by kernel_rfl
 have hp:prog.stoodInHeld 54=false:=by kernel_rfl
 have hs:prog.underlying 54=some (.struct (prog.fieldsOf 54)):=by kernel_rfl
 have key:(Op.equalIn 10000 54 (.agg e.cells.toArray) (.agg e.cells.toArray)).run prog w=.ok true w:=by
  rw [run_equalIn_struct w 9999 _ _ _ hs hp];have hd:prog.underlying 3=some (.int .i64):=underlying3;simp [Program.fieldsOf,underlying54,Op.eqFields,part,rS hd,dM gW,mU,sO.cells,run_equalIn_int _ _ _ _ _ _ _ hd]
 rw [Sem.run_bind,run_eqGuard_agg _ _ _ _ _ _ _ hm,Result.andThen_ok,run_neq_struct,key];rfl
theorem CJ:∀ {l:List sO} {k:Nat} {e:sO},l[k]?=some e->((oG l).drop (k*4)).take 4=e.cells
 | [],_,_,h=>by simp at h
 | y::l,0,e,h=>by simp at h;subst h;simp [oG,sO.cells]
 | y::l,k+1,e,h=>by
  have:=CJ (l:=l) (k:=k) (by simpa using h);simp only [oG,List.flatMap_cons] at this ⊢;rw [show (k+1)*4=4+k*4 by omega,<- List.drop_drop,List.drop_left' (by rfl)];exact this
section
variable {l:List bE} {w0 w w':O}
theorem aXa {X1 X2:Nat->Prop} {p1 p2:iP} {fg1 fc1 fg2 fc2:Nat} {qs1 qs2:List FP} {q1 q2:FP} {m1 m2:PM} {K:Z->Z->O->Prop} (hT:oE l) (hll:l.length<=1000)
  (h1:cO l X1 p1 fg1 fc1 qs1 q1 m1 w) (h2:cO l X2 p2 fg2 fc2 qs2 q2 m2 w) (o1:m1.ok l) (o2:m2.ok l) (b1:UL m1) (b2:UL m2) (hd:∀ i,MB p1 q1 fg1 qs1 i->¬ MB p2 q2 fg2 qs2 i) (x:aG w0 w) (hB1:∀ i,MB p1 q1 fg1 qs1 i->w0.heap.size<=i) (hB2:∀ i,MB p2 q2 fg2 qs2 i->w0.heap.size<=i)
  (hk:∀ e1 e2 p1' p2' Y1 Y2 w',uM l m1 e1->uM l m2 e2->e1.s≠0->e2.s≠0->UH l Y1 p1' e1 w'->UH l Y2 p2' e2 w'->pm p1'=pm p1->kM p1'.rp=kM p1.rp->pm p2'=pm p2->kM p2'.rp=kM p2.rp->aG w0 w'->K (i64 e1.s) (i64 e2.s) w') :
  aD prog 20 #[pm p1] w λr1 w1=>aD prog 20 #[pm p2] w1 λr2 w2=>K r1 r2 w2:=by
 refine (aNy hT hll h1.all o1 b1).mono λrv w1 ⟨e1,n1,s1,hr,p1',T1,mb1,rb1,F1⟩=>?_;subst hr;have in1:∀ i,(¬ Els p1 q1 fg1 qs1 w.heap.size i/\i < w.heap.size)->MB p1 q1 fg1 qs1 i:=λi ⟨hi,hl⟩=>Classical.byContradiction λhn=>hi ⟨hl,hn⟩;have g2:=h2.fr (XV F1) λi hi hs=>hd i (in1 i hs) hi;have x1:aG w0 w1:=(XV F1).ext x λi hi=>hB1 i (in1 i hi);refine (aNy hT hll g2.all o2 b2).mono λrv w2 ⟨e2,n2,s2,hr,p2',T2,mb2,rb2,F2⟩=>?_;subst hr;have in2:∀ i,(¬ Els p2 q2 fg2 qs2 w1.heap.size i/\i < w1.heap.size)->MB p2 q2 fg2 qs2 i:=λi ⟨hi,hl⟩=>Classical.byContradiction λhn=>hi ⟨hl,hn⟩;have T1':=T1.fr (XV F2) λi hi _=>⟨h2.lt (in2 i hi),λhm=>hd i hm (in2 i hi)⟩;have x2:aG w0 w2:=(XV F2).ext x1 λi hi=>hB2 i (in2 i hi);exact hk e1 e2 p1' p2' _ _ w2 n1 n2 s1 s2 T1' T2 (by unfold pm;rw [mb1]) (by unfold kM;rw [rb1]) (by unfold pm;rw [mb2]) (by unfold kM;rw [rb2]) x2
end
theorem ML {w:O} {v:Z} {l:List (cQ × bE)} (h:nL w v l):oE (l.map (·.2)):=by
 obtain ⟨cs,_,h2⟩:=h;intro i hi;obtain ⟨x,hx,rfl⟩:=List.mem_map.1 hi;obtain ⟨k,hk⟩:=List.getElem?_of_mem hx;obtain ⟨_,_,hA⟩:=h2 k x hk;exact hA.2.2
theorem UM (l:List (cQ × bE)):yY (l.map (·.2)) (zs l):=by
 refine ⟨by simp [zs],λk hk=>?_⟩;obtain ⟨x,hx⟩:=bK (l:=l) (j:=k) (by simpa using hk)
 have e1:(zs l).getD k []=List.replicate x.2.fields.length 0:=by
  rw [List.getD_eq_getElem?_getD,zs,List.getElem?_map,hx];rfl
 have e2:aP (l.map (·.2)) k=x.2:=BK (by rw [List.getElem?_map,hx];rfl)
 rw [e1,e2];refine ⟨by simp,λy hy=>?_⟩;rw [(List.mem_replicate.1 hy).2];decide
section
variable {w:O}
theorem aPa {l:List bE} {p:iP} {r:Rm} (hT:oE l) (h:YS l (λ_=>False) p r w) {who fuel:Nat} (hw:who < l.length) (hf:fuel<=16000) (hfd:yY l r.fd) :
  aD prog 13 #[kM p.rp,i64 (who:Int),i64 (fuel:Int)] w λrv w'=>∃ p' fg fcap q,rv=.tuple #[pm p',i64 0]/\cO l (λ_=>False) p' fg fcap [] q (qU l who fuel r) w'/\(qU l who fuel r).ok l/\UL (qU l who fuel r)/\kM p'.rp=kM p.rp/\aG w w'/\∀ i,MB p' q fg [] i->(∃ a,YP p (λ_=>False) a i)\/w.heap.size<=i:=by
 refine (aXh hT h hw (by omega)).mono λrv w' ⟨p',fg,fcap,q,hr,hM,hrb,x,hfg,hmb⟩=>⟨p',fg,fcap,q,hr,hM,RX hT hw hfd,?_,by unfold kM;rw [hrb],x,λi hi=>?_⟩
 ·show ([]:List sO).length+5*fuel<=80000;simp;omega
 ·rcases hi with ⟨a,ha,hi⟩|rfl|⟨a,ha,_⟩
  ·rcases hmb a i ha hi with ⟨b,_,hb⟩|hb
   ·exact .inl ⟨b,hb⟩
   ·exact .inr hb
  ·exact .inr hfg
  ·simp at ha
end
theorem VU {P:Program} {w:O} {s e:TypeId} (hs:P.underlying s=some (.pointer e)) {x y:Operand} {a:Addr} :
  (do eqGuard .neq s x y (.pointer (some a)) (.pointer none);binOp .neq s (.pointer (some a)) (.pointer none)).run P w=.ok (.bool true) w:=by
 simp [eqGuard,binOp,mC,WE hs]
theorem RR.rms {l:List bE} {p:iP} {fd:List (List Int)} {B:Nat} {w:O} (H:RR l p fd B w) (h0:0 < fd.length):∃ p',p'.rp=p.rp/\YS l (λ_=>False) p' ⟨p.rp.ps,fd⟩ w/\∀ a i,YP p' (λ_=>False) a i->B<=i:=by
 obtain ⟨fo,fcap,hfo⟩:=mA H.fv h0;obtain ⟨cs,hiv,hrows⟩:=H.iv;have hlv:p.vs.length=fd.length:=by have:=H.fv.1;omega
 have himg:vH (λi=>p.IB i\/p.rp.iv.ownBlock=some i) w λw'=>jS w' p.rp.iv l:=λw' f=>⟨cs,aC.of_own (f.own hiv λi hi hn=>hn (.inr hi)),λk i hk=>by
  obtain ⟨pk,h1,h2⟩:=hrows k i hk;exact ⟨_,rfl,pk,h1,h2 w' (f.mono λj hj hn=>hj (.inl hn))⟩⟩
 have cls:∀ {a:Lb} {i:Nat},YP { p with fo:=fo,IB:=λi=>p.IB i\/p.rp.iv.ownBlock=some i } (λ_=>False) a i->∃ c,BR p c i/\((a≠.im/\a=c)\/(a=.im/\(c=.im\/c=.mb))):=by
  intro a i hi;cases a with
  | rm=>exact ⟨.rm,hi,.inl ⟨(by intro e;cases e),rfl⟩⟩
  | im=>
   rcases hi with h|h
   ·exact ⟨.im,h,.inr ⟨rfl,.inl rfl⟩⟩
   ·exact ⟨.mb,h,.inr ⟨rfl,.inr rfl⟩⟩
  | fo=>
   have hi:i=fo:=hi;exact ⟨.fo,(by show p.rp.fv.ownBlock=some i;rw [hfo,hi];rfl),.inl ⟨(by intro e;cases e),rfl⟩⟩
  | fd=>exact ⟨.fd,hi,.inl ⟨(by intro e;cases e),rfl⟩⟩
  | mb=>exact hi.elim
  | fr=>exact hi.elim
  | ex=>exact hi.elim
 have hfv:=H.fv;rw [hfo] at hfv;refine ⟨{ p with fo:=fo,IB:=λi=>p.IB i\/p.rp.iv.ownBlock=some i },rfl,⟨H.room,⟨rfl,rfl,rfl,rfl⟩,⟨⟨fcap,hfo⟩,OC hfv,hlv,H.row,H.dj,λv hv he=>?_⟩,himg,⟨λa b i ha hb=>?_,λa i ha=>?_⟩⟩,λa i ha=>?_⟩
 ·have:=H.sep.dj .fd .fo fo ⟨v,hv,he⟩ (by show p.rp.fv.ownBlock=some fo;rw [hfo];rfl);cases this
 ·obtain ⟨c,hc,k1⟩:=cls ha;obtain ⟨d,hd,k4⟩:=cls hb;have hcd:=H.sep.dj c d i hc hd;subst hcd;rcases k1 with ⟨k1,rfl⟩|⟨rfl,k1⟩<;>rcases k4 with ⟨k4,rfl⟩|⟨rfl,k4⟩
  ·rfl
  ·rcases k4 with rfl|rfl
   ·rfl
   ·exact ha.elim
  ·rcases k1 with rfl|rfl
   ·rfl
   ·exact hb.elim
  ·rfl
 ·obtain ⟨c,hc,_⟩:=cls ha;exact H.sep.lt c i hc
 ·obtain ⟨c,hc,_⟩:=cls ha;exact H.ge c i hc
def knC:List fS:=[⟨1,1,0⟩,⟨1,0,0⟩,⟨17,0,0⟩,⟨4,0,0⟩,⟨39,0,0⟩]
def UJ:bE:=⟨{ data:=#[97] },[1],[],[⟨[],0,[1],knC⟩],[]⟩
theorem knT:uI UJ:=by
 refine ⟨by unfold bE.right oV kR fY.right zX.right fS.right lim oV kR;decide,λm hm=>?_⟩;have hm:m=⟨[],0,[1],knC⟩:=List.mem_singleton.1 hm;subst hm;refine ⟨⟨[[],[1],[1,1],[1],[]],[true,true,true,true,true],[false,false,false,false,false]⟩,.inr ⟨by unfold gT;decide,?_⟩⟩
 exact .go (pc:=0) (s':=⟨[[],[1],[],[],[]],[true,true,false,false,false],[false,true,false,false,false]⟩) (by kernel_rfl) (by kernel_rfl)
  (.go (pc:=1) (s':=⟨[[],[1],[1,1],[],[]],[true,true,true,false,false],[false,false,true,false,false]⟩) (by kernel_rfl) (by kernel_rfl)
  (.go (pc:=2) (s':=⟨[[],[1],[1,1],[1],[]],[true,true,true,true,false],[false,false,false,true,false]⟩) (by kernel_rfl) (by kernel_rfl)
  (.go (pc:=3) (s':=⟨[[],[1],[1,1],[1],[]],[true,true,true,true,true],[false,false,false,false,true]⟩) (by kernel_rfl) (by kernel_rfl)
  (.go (pc:=4) (s':=⟨[[],[1],[1,1],[1],[]],[true,true,true,true,true],[false,false,false,false,false]⟩) (by kernel_rfl) (by kernel_rfl) (.done (by kernel_rfl))))))
def knS:PM:=qU [UJ] 0 99 ⟨ps0 200,[[0]]⟩
def aQf:PM->Nat->Int × Nat
 | _,0=>(0,0)
 | m,k+1=>match kC [UJ] m with
  | .run m'=>aQf m' k
  | .fin s _ f _=>(s,f)
theorem OW {s:Int} {f:Nat}:∀ {k:Nat} {m:PM} {e:zR},aQf m k=(s,f)->s≠0->uM [UJ] m e->e.s=s/\e.fuel=f
 | 0,m,e,h,hs,_=>by cases h;exact absurd rfl hs
 | k+1,m,e,h,hs,he=>by
  unfold aQf at h;cases he with
  | fin h1=>rw [h1] at h;cases h;exact ⟨rfl,rfl⟩
  | go h1 h2=>rw [h1] at h;exact OW h hs h2
theorem knE {e:zR} (h:uM [UJ] knS e):e.s=28419/\e.fuel=96:=OW (k:=5) (by kernel_rfl) (by decide) h
theorem aUz {w:O} {v:Z} (hv:oD w v knC):aD prog 44 #[i64 99,v] w λrv w'=>∃ p rmv X q f r sl,rv=.tuple #[pm p,rmv]/\Wh [UJ] p q f r X sl ((96:Nat):Int) 28419 w'/\aG w w':=by
 apply aSn;suffices key:∀ R:Z->O->Prop,(∀ p rmv X q f r sl w',Wh [UJ] p q f r X sl ((96:Nat):Int) 28419 w'->aG w w'->R (.tuple #[pm p,rmv]) w')->EC (i64 99) v w R from key _ λp rmv X q f r sl w' h1 h2=>⟨p,rmv,X,q,f,r,sl,rfl,h1,h2⟩;intro R hR;unfold EC;refine (vL (by decide) (by decide)).mono λrv w1 ⟨⟨rb,hb',hrv,hlo,hlt,hrb,hh⟩,x1⟩=>?_;subst hrv;refine cD.2 (cC.2 (aX.2 ?_));simp only [ne_eq,not_true_eq_false,fA,aH,reduceIte,Bool.false_eq_true,decide_false];refine V.ok (gF underlying26) ?_;simp only [aA];have s1:=x1.size;obtain ⟨B0,_⟩:=aQo hlo hlt hrb hh s1 (by decide) (by decide);refine kJ bG [i64 1] rfl rfl (by simp) rfl λfv w2 ho2 x2=>?_;refine kJ bG [i64 1] rfl rfl (by simp) rfl λlv w3 ho3 x3=>?_;have o2:=bT ho2;have o3:=bT ho3;have x13:=(x1.trans x2).trans x3;obtain ⟨va,vc,hvs⟩:=hv.shape;have ov:cB v=true:=by rw [hvs];rfl
 refine bld yR [(2,lv),(3,v)] rfl (by simp [o3,ov]) ?_;refine yP underlying44 lR rfl (by decide) [.agg #[bF,i64 0,lv,v]] rfl rfl (by intro x hx;rw [List.mem_singleton] at hx;subst hx;rfl) (by decide) (by decide) λmv w4 hom x4=>?_;have hom:w4.ownsRow w3.heap.size 74 4 mv 1 [bF,i64 0,lv,v]:=hom;have om:=bT hom;refine bld YH [(0,.string { data:=#[97] }),(1,fv),(3,mv)] rfl (by simp [o2,om,qY]) ?_;have x14:=x13.trans x4
 have hA:iQ w4 ⟨fv,bF,mv,bF⟩ UJ:=by
  refine ⟨aC.of_own ((x3.trans x4).own ho2),⟨[],aC.nil _ _,λk x hk=>by simp [UJ] at hk⟩,⟨_,aC.of_own hom,λk x hk=>?_⟩,aC.nil _ _⟩
  match k,hk with
  | 0,hk=>cases hk;exact ⟨_,rfl,bF,lv,v,rfl,aC.nil _ _,aC.of_own (x4.own ho3),hv.ext x14⟩
  | k+1,hk=>simp [UJ] at hk
 refine (yT (B0.ext ((x2.trans x3).trans x4)) (by decide) rfl hA knT.1).mono λrv w5 ⟨p5,hrv,B5,e51,e52,F5,_⟩=>?_;have X5:aG w w5:=F5.ext x14 λi ⟨a,hi⟩=>B0.ge a i hi;obtain ⟨p6,e61,R6,g6⟩:=B5.rms (by decide);have hps:p5.rp.ps=ps0 200:=e52;rw [hps] at R6;have hrm:pt rb=kM p6.rp:=by unfold kM;rw [e61,e51]
 rw [hrm];have hT1:oE [UJ]:=λi hi=>by rw [List.mem_singleton] at hi;subst hi;exact knT
 refine (aPa (l:=[UJ]) hT1 R6 (who:=0) (fuel:=99) (by decide) (by decide) ⟨rfl,λk hk=>?_⟩).mono λrv w7 ⟨m,fg,fc,q,hr,M,ok,bd,hrmm,x7,mb⟩=>?_
 ·have hk:k=0:=by simpa using hk
  subst hk;exact ⟨rfl,λy hy=>by rw [List.mem_singleton.1 (show y∈[(0:Int)] from hy)];decide⟩
 subst hr;refine cD.2 (cC.2 (aX.2 ?_));simp only [ne_eq,not_true_eq_false,fA,aH,reduceIte,Bool.false_eq_true,decide_false];refine V.ok (gF underlying33) ?_;simp only [aA];have X7:=X5.trans x7;have s5:=X5.size;refine (aNy hT1 (by decide) M.all ok bd).mono λrv w8 ⟨e,n1,_,hr,p8,T,mb8,rb8,F8⟩=>?_;subst hr
 have in8:∀ i,(¬ Els m q fg [] w7.heap.size i/\i < w7.heap.size)->w.heap.size<=i:=λi ⟨hi,hl⟩=>by
  have hM:MB m q fg [] i:=Classical.byContradiction λhn=>hi ⟨hl,hn⟩;rcases mb i hM with ⟨a,ha⟩|h
  ·exact g6 a i ha
  ·omega
 have X8:aG w w8:=(XV F8).ext X7 in8;obtain ⟨q8,f8,Z8,a8,c8,H8,_⟩:=T;obtain ⟨k1,k2⟩:=knE n1;rw [k1,k2] at H8;rw [show pm m=pm p8 by unfold pm;rw [mb8]];exact hR p8 _ Z8 q8 f8 e.r _ w8 H8 X8
theorem aPk (w:O):aD prog 12 #[] w λv w'=>v=.bool true/\aG w w':=by
 apply aTg;suffices key:∀ R:Z->O->Prop,(∀ w',aG w w'->R (.bool true) w')->EI w R from key _ λw' h=>⟨rfl,h⟩;intro R hR;unfold EI;refine bld sJ [(0,i64 1),(1,i64 1)] rfl rfl ?_;refine bld sJ [(0,i64 1)] rfl rfl ?_;refine bld sJ [(0,i64 17)] rfl rfl ?_;refine bld sJ [(0,i64 4)] rfl rfl ?_;refine bld sJ [(0,i64 39)] rfl rfl ?_;refine yP underlying71 oA rfl (by decide) [.agg #[i64 1,i64 1,i64 0],.agg #[i64 1,i64 0,i64 0],.agg #[i64 17,i64 0,i64 0],.agg #[i64 4,i64 0,i64 0],.agg #[i64 39,i64 0,i64 0]] rfl rfl (by intro v hv;simp only [List.mem_cons,List.not_mem_nil,or_false] at hv;rcases hv with rfl|rfl|rfl|rfl|rfl<;>rfl) (by decide) (by decide) λcv w1 ho x1=>?_;refine (aUz (aC.of_own ho)).mono λrv w2 ⟨p,rmv,X,q,f,r,sl,hr,H,x2⟩=>?_;subst hr;refine cD.2 (cC.2 ?_);refine V.ok (VU underlying33) ?_;simp only [DF,aH,reduceIte];refine (aDm H).mono λrv w' ⟨hr,hw⟩=>?_;subst hr;have hw:=hw.symm;subst hw;refine aF.2 ?_;simp only [DF,aH,reduceIte,decide_true];refine (XU H).mono λrv w' ⟨hr,hw⟩=>?_;subst hr;have hw:=hw.symm;subst hw;refine aF.2 ?_;simp only [show (((96:Nat):Int)=96) from rfl,decide_true];exact hR _ (x1.trans x2)
theorem UW {l:List (cQ × bE)} (hT:oE (l.map (·.2))) {who fuel:Nat} (hw:who < (l.map (·.2)).length) {size:Int} (hs:size<=5000) {a b b':List Int} (hb:b'.length=b.length) (la:a.length<=64) (lb:b.length<=64) :
  LoM (l.map (·.2)) (qU (l.map (·.2)) who fuel (rm0 l size a b)) (qU (l.map (·.2)) who fuel (rm0 l size a b')):=by
 have e:∀ c:List Int,c.length<=64->(rm0 l size a c).ps=⟨size,[⟨-1,3,0,false,a⟩,⟨-1,4,0,false,c⟩],[],[],[]⟩:=λc hc=>by
  unfold rm0 jI;rw [if_neg (by omega)];rfl
 have hTw:=hT _ (fT hw);have hi:=hTw.1.2.2.1;have h0:((aP (l.map (·.2)) who).meth 0).params=[]:=hi.2.2.1
 have hm0:(aP (l.map (·.2)) who).meth 0∈(aP (l.map (·.2)) who).methods:=by
  unfold bE.meth;rw [List.getD_eq_getElem?_getD,List.getElem?_eq_getElem (by have:=hi.1.1;show 0 < _;omega)];exact List.getElem_mem _
 have hR:oN (aP (l.map (·.2)) who) ((aP (l.map (·.2)) who).meth 0) 0 []:=oN.first hTw.1 (hi.2.1 _ hm0) (hTw.2 _ hm0)
 refine ⟨⟨[],hR,rfl,rfl,rfl,trivial,?_⟩,trivial,rfl,⟨?_,λk hk=>?_,?_,?_⟩⟩
 ·show iS _ ((aP (l.map (·.2)) who).meth 0).locs ([]++List.replicate ((aP (l.map (·.2)) who).meth 0).locals.length 0) ([]++List.replicate ((aP (l.map (·.2)) who).meth 0).locals.length 0)
  have e1:((aP (l.map (·.2)) who).meth 0).locs=((aP (l.map (·.2)) who).meth 0).locals:=by unfold fY.locs;rw [h0];rfl
  rw [e1,List.nil_append];exact iS.rep
 ·show LoP { (rm0 l size a b).ps with tr:=[] } { (rm0 l size a b').ps with tr:=[] };rw [e b lb,e b' (by omega)];refine ⟨rfl,⟨rfl,λj x y hx hy=>?_⟩,rfl,rfl,rfl⟩
  match j,hx,hy with
  | 0,hx,hy=>cases hx;cases hy;exact ⟨rfl,rfl,rfl,rfl,rfl,λ_=>rfl⟩
  | 1,hx,hy=>cases hx;cases hy;exact ⟨rfl,rfl,rfl,rfl,hb,λh=>absurd (show (4:Int)=3 from h) (by decide)⟩
  | j+2,hx,_=>simp at hx
 ·have h1:=(UM l).row k hk;show iS _ (aP (l.map (·.2)) k).fields ((zs l).getD k []) ((zs l).getD k [])
  obtain ⟨x,hx⟩:=bK (l:=l) (j:=k) (by simpa using hk)
  have e1:(zs l).getD k []=List.replicate x.2.fields.length 0:=by
   rw [List.getD_eq_getElem?_getD,zs,List.getElem?_map,hx];rfl
  have e2:aP (l.map (·.2)) k=x.2:=BK (by rw [List.getElem?_map,hx];rfl)
  rw [e1,e2];exact iS.rep
 ·show MU (rm0 l size a b).ps.ar;rw [e b lb];exact ⟨⟨_,rfl,rfl⟩,_,rfl,rfl⟩
 ·show (rm0 l size a b).ps.size<=5000;rw [e b lb];exact hs
section
variable {p q:RP} {w:O}
theorem aUd (h:bX p w) (h':bX q w) (he:q.tr=p.tr) (hl:p.tr.length<=100000):aD prog 25 #[qJ p,qJ q] w λrv w'=>rv=i64 (-1)/\aG w w':=by
 apply aSy;suffices key:∀ R:Z->O->Prop,(∀ w',aG w w'->R (i64 (-1)) w')->EG (qJ p) (qJ q) w R from key _ λw' hx=>⟨rfl,hx⟩;intro R hR;unfold EG;refine (EQ h).mono λrv w' ⟨hr,hw⟩=>?_;subst hr;have hw:=hw.symm;subst hw;refine (EQ h').mono λrv w' ⟨hr,hw⟩=>?_;subst hr;have hw:=hw.symm;subst hw;rw [he];refine V.ok vM ?_;rw [show min ((p.tr.length:Nat):Int) ((p.tr.length:Nat):Int)=((p.tr.length:Nat):Int) by omega];refine ⟨λx w'=>∃ j:Nat,x=i64 (j:Int)/\j<=p.tr.length/\aG w w',λx _=>p.tr.length - (RowKit.intOf x).toNat,⟨0,rfl,Nat.zero_le _,aG.refl _⟩,?_⟩;rintro _ w1 ⟨j,rfl,hj,x1⟩ _;refine aV.2 (aL (λhlt=>?_) λhge=>?_)
 ·have D:aG w1 w1.drew:=(aG.refl _).drew;have h1:=h.ext x1;have h1':=h'.ext x1;obtain ⟨x,hx⟩:=bK (l:=p.tr) (j:=j) (by omega);have hx':q.tr[j]?=some x:=by rw [he];exact hx
  refine aI.mk' (λw'=>aG w1 w') D ⟨.inl ⟨_,rfl⟩,?_⟩;refine dS (λw' hw=>(h1.ext hw).tbox.boxed) dG qM rfl ?_;refine yxA wP OL (l:=x.cells) (aC.of_own h1.trow) (λw' hw=>aC.of_own (h1.ext hw).trow) (by omega) (by omega) (by rw [Int.toNat_natCast];exact CJ hx) rfl ⟨.inl ⟨_,rfl⟩,?_⟩;refine dS (λw' hw=>(h1'.ext hw).tbox.boxed) dG qM rfl ?_;refine yxA wP OL (l:=x.cells) (aC.of_own h1'.trow) (λw' hw=>aC.of_own (h1'.ext hw).trow) (by omega) (by rw [he];omega) (by rw [Int.toNat_natCast];exact CJ hx') rfl ?_;refine aB.ok (λw' _=>VV x) (aA.2 (bQ.2 ?_));rw [aY (by omega),cG];exact ⟨⟨j+1,rfl,by omega,x1.trans D⟩,by simp only [aU];omega⟩
 ·refine aF.2 ?_;simp only [aE,decide_true];exact hR _ x1
end
theorem aFx {w:O} {v:Z} {l:List Int} (h:gK w v l) {K:Z->O->Prop} {j:Nat} {x:Int} (hx:l[j]?=some x) (hk:K (u8 x) w):V prog (Instr.indexAt 23 v (i64 (j:Int))) w λp w1=>V prog (Instr.loadAt 5 p) w1 K:=by
 have hj:=(List.getElem?_eq_some_iff.1 hx).1;rcases h with ⟨_,rfl⟩|⟨ad,c,rfl,h⟩
 ·simp at hj
 ·exact mX gS uB (h (by omega)) (by omega) (by omega) (u:=u8 x) (by rw [Int.toNat_natCast,List.getElem?_map,hx];rfl) hk
theorem aEf {w:O} {v0 v1 v2 v3:Z} {n4 n5:Int} {ll:List (List Rw)} {a b c:List Int} (h:PT w v0 ll) (hbin:mF w) (hT:nA w) (ha:gK w v1 a) (hb:gK w v2 b) (hc:gK w v3 c) (oka:pR a) (okb:pR b) (okc:pR c) (known:∀ w,aD prog 12 #[] w λv w'=>v=.bool true/\aG w w') :
  aD prog 5 #[v0,v1,v2,v3,i64 n4,i64 n5] w λr w'=>r=.bool true/\aG w w':=by
 apply aVv;suffices key:∀ R:Z->O->Prop,(∀ w',aG w w'->R (.bool true) w')->MT v0 v1 v2 v3 (i64 n4) (i64 n5) w R from key _ λw' hx=>⟨rfl,hx⟩;intro R hR;unfold MT;refine aQr h hbin hT λlv l w1 hA h0 h3 x1=>?_;refine (uF (hb.ext x1) okb).mono λc1 w2 ⟨⟨ho1,a1,la,oka1⟩,x2⟩=>?_;refine (uF a1 oka1).mono λc2 w3 ⟨⟨ho2,a2,la2,oka2⟩,x3⟩=>?_;have e64:(b.take 64).take 64=b.take 64:=List.take_of_length_le la;rw [e64] at ho2 a2 la2 oka2;obtain ⟨c2a,c2c,e2⟩:=a2.shape;obtain ⟨c3a,c3c,e3⟩:=hc.shape;have s2:=x2.size;have s1:=x1.size;have s3:=x3.size;refine ⟨λt w'=>∃ (j:Nat) (b':List Int),t=i64 (j:Int)/\j<=(b.take 64).length/\b'.length=(b.take 64).length/\pR b'/\w'.ownsRow w2.heap.size 5 1 c2 b'.length (b'.map u8)/\Fr (λi=>c2.ownBlock=some i) w3 w',λt _=>(b.take 64).length - (RowKit.intOf t).toNat,⟨0,b.take 64,rfl,Nat.zero_le _,rfl,oka1,ho2,Fr.refl _ _⟩,?_⟩;rintro _ w4 ⟨j,b',rfl,hj,hbl,okb',ho4,F4⟩ _;have x24:aG w2 w4:=F4.ext x3 λi hi=>(ho2.lt i hi).1;have x04:=(x1.trans x2).trans x24;have hc4:=hc.ext x04;have len2:V prog (Builtin.len_ #[23] 3 #[c2]) w4=V prog (Builtin.len_ #[23] 3 #[c2]) w4:=rfl;clear len2;refine gL gS (aC.of_own ho4) (aV.2 ?_);by_cases c0:(j:Int) < (b'.length:Int)/\(j:Int) < (c.length:Int)
 ·obtain ⟨k1,k2⟩:=c0;simp only [k1,aW,Int.reduceNeg];rw [e3];refine mK.2 (aV.2 ?_);simp only [k2,aW,Int.reduceNeg];obtain ⟨x,hx⟩:=bK (l:=c) (j:=j) (by omega);rw [e3] at hc4;refine aFx hc4 hx ?_;refine stO gS mR ho4 (by omega) (by omega) rfl λw5 ho5 hg5=>bQ.2 ?_;rw [aY (by omega),cG];have f5:Fr (λi=>c2.ownBlock=some i) w4 w5:=Fr.of_grown hg5 λk hk=>hk;refine ⟨⟨j+1,b'.set j x,rfl,by omega,by simpa using hbl,λy hy=>?_,?_,F4.trans f5 λ_ _ h=>h⟩,by simp only [aU];omega⟩
  ·rcases List.mem_or_eq_of_mem_set hy with hy|rfl
   ·exact okb' y hy
   ·exact okc _ (List.mem_of_getElem? hx)
  ·rw [List.length_set,List.map_set];simpa using ho5
 suffices main:aD prog 10 #[v1,i64 64] w4 λt63 w22=>_ by
  by_cases k1:(j:Int) < (b'.length:Int)
  ·have k2:¬ (j:Int) < (c.length:Int):=λhk=>c0 ⟨k1,hk⟩;simp only [k1,aW,Int.reduceNeg];rw [e3];refine mK.2 (aV.2 ?_);simp only [k2,aW,Int.reduceNeg];exact main
  ·simp only [k1,aW,Int.reduceNeg];exact main
 clear c0
 have hsec2:gK w4 c2 b':=by
  rcases (aC.of_own ho4).2 with ⟨q1,q2⟩|⟨b0,off,cap,q1,_⟩
  ·exact .inl ⟨by rw [q1],List.eq_nil_of_length_eq_zero q2⟩
  ·exact .inr ⟨_,_,q1,λ_=>aC.of_own ho4⟩
 refine (uF (ha.ext x04) oka).mono λc4 w5 ⟨⟨_,a4,la4,oka4⟩,x5⟩=>?_;have x25:=x24.trans x5;refine (FD (hA.ext (x2.trans x25)) h3 h0 (by decide) (by decide) a4 (a1.ext x25) oka4 oka1 la4 la).mono λrv w6 ⟨p1,q1,vs1,hr,R1,x6⟩=>?_;subst hr;refine cD.2 (cC.2 ?_);have x46:=x5.trans x6;refine (uF (ha.ext (x04.trans x46)) oka).mono λc5 w7 ⟨⟨_,a5,la5,oka5⟩,x7⟩=>?_;have x47:=x46.trans x7;have x27:=x24.trans x47;refine (FD (hA.ext (x2.trans x27)) h3 h0 (by decide) (by decide) a5 (hsec2.ext x47) oka5 okb' la5 (by omega)).mono λrv w8 ⟨p2,q2,vs2,hr,R2,x8⟩=>?_;subst hr;refine cD.2 (cC.2 ?_);have x48:=x47.trans x8;have X8:=x04.trans x48;refine AA lO (hA.ext (x2.trans (x24.trans x48))) ?_;refine FI (by omega) (by omega) λwho hwho=>?_;refine FI (by decide) (by decide) λn hn=>?_;refine (known w8).mono λrv w9 ⟨hr,x9⟩=>?_;subst hr;refine eU.2 ?_;simp only [Bool.not_true,fA,aH,reduceIte,Bool.false_eq_true,Bool.not_true];refine V.ok (gF underlying26) ?_;simp only [fA,aH,reduceIte,Bool.false_eq_true];refine V.ok (gF underlying26) ?_;simp only [fA,aH,reduceIte,Bool.false_eq_true];refine V.ok (gF underlying27) ?_;simp only [fA,aH,reduceIte,Bool.false_eq_true];refine V.ok (gF underlying27) ?_;simp only [aA];have hTT:=ML hA;have hw0:who < (l.map (·.2)).length:=by simp;omega
 have hll:(l.map (·.2)).length<=1000:=by simp;omega
 have s4:=x04.size;have s5:=x5.size;have s6:=x6.size;have s7:=x7.size;have s8:=x8.size;have s9:=x9.size;refine (aPa hTT (R1.rms.ext ((x7.trans x8).trans x9)) hw0 (by omega) (UM l)).mono λrv w10 ⟨m1,fg1,fc1,k1,hr,M1,ok1,bd1,hrm1,x10,mb1⟩=>?_;subst hr;refine cD.2 (cC.2 ?_);have s10:=x10.size;refine (aPa hTT (R2.rms.ext (x9.trans x10)) hw0 (by omega) (UM l)).mono λrv w11 ⟨m2,fg2,fc2,k2,hr,M2,ok2,bd2,hrm2,x11,mb2⟩=>?_;subst hr;refine cD.2 (cC.2 (aX.2 ?_));simp only [ne_eq,not_true_eq_false,aX,fA,aH,reduceIte,Bool.false_eq_true,decide_false];refine V.ok (gF underlying33) ?_;simp only [fA,aH,reduceIte,Bool.false_eq_true];refine V.ok (gF underlying33) ?_;simp only [aA];have M1':=M1.fr (Fr.of_ext (S:=λ_=>False) x11) λ_ _ h=>h;have l1:∀ i,MB m1 k1 fg1 [] i->i < w10.heap.size:=λi hi=>M1.lt hi
 have lo1:∀ i,MB m1 k1 fg1 [] i->w5.heap.size<=i/\(i < w6.heap.size\/w9.heap.size<=i):=λi hi=>by
  rcases mb1 i hi with ⟨a,ha⟩|hge
  ·exact ⟨R1.ge a i ha,.inl (R1.rms.sep.lt a i ha)⟩
  ·exact ⟨by omega,.inr hge⟩
 have lo2:∀ i,MB m2 k2 fg2 [] i->w7.heap.size<=i/\(i < w8.heap.size\/w10.heap.size<=i):=λi hi=>by
  rcases mb2 i hi with ⟨a,ha⟩|hge
  ·exact ⟨R2.ge a i ha,.inl (R2.rms.sep.lt a i ha)⟩
  ·exact ⟨by omega,.inr hge⟩
 refine aXa hTT hll M1' M2 ok1 ok2 bd1 bd2 (λi h1 h2=>?_) (((X8.trans x9).trans x10).trans x11) (λi hi=>by have:=lo1 i hi;omega) (λi hi=>by have:=lo2 i hi;omega) λe1 e2 p1' p2' Y1 Y2 w12 n1 n2 ss1 ss2 T1 T2 hp1 hr1 hp2 hr2 x12=>?_
 ·have:=l1 i h1;have:=lo1 i h1;have:=lo2 i h2;omega
 obtain ⟨qq1,ff1,Z1,aa1,cc1,H1,_⟩:=T1;obtain ⟨qq2,ff2,Z2,aa2,cc2,H2,_⟩:=T2;have tr1:p1'.rp.tr=e1.r.ps.tr:=congrArg PS.tr H1.rps;have tr2:p2'.rp.tr=e2.r.ps.tr:=congrArg PS.tr H2.rps;have tl1:=aFm n1 bd1;obtain ⟨L1,L2,L3,L4⟩:=aEx hTT n1 ok1 ok2 (UW hTT hw0 (by decide) hbl la4 la) n2;have etr:p2'.rp.tr=p1'.rp.tr:=by rw [tr1,tr2];exact L4.tr
 have etp:p2'.rp.tp=p1'.rp.tp:=by
  have u1:p1'.rp.tp=e1.r.ps.tp:=congrArg PS.tp H1.rps;have u2:p2'.rp.tp=e2.r.ps.tp:=congrArg PS.tp H2.rps;rw [u1,u2];exact L4.tp
 have ets:p2'.rp.ts.length=p1'.rp.ts.length:=by
  have u1:p1'.rp.ts=e1.r.ps.ts:=congrArg PS.ts H1.rps;have u2:p2'.rp.ts=e2.r.ps.ts:=congrArg PS.ts H2.rps;rw [u1,u2];exact L4.ts
 rw [<- hp1,<- hp2,<- hrm1,<- hrm2,<- hr1,<- hr2];refine (EP H1.room).mono λrv w13 ⟨⟨t1,t2,hr,b1,b2⟩,x13⟩=>?_;subst hr;refine cD.2 (cC.2 ?_);refine (EP (H2.room.ext x13)).mono λrv w14 ⟨⟨t3,t4,hr,b3,b4⟩,x14⟩=>?_;subst hr;refine cD.2 (cC.2 ?_);have H1:=(H1.ext x13).ext x14;have H2:=(H2.ext x13).ext x14;have X14:=(x12.trans x13).trans x14;refine aF.2 ?_;simp only [L1,show e1.s≠0 from ss1,ne_eq,not_false_eq_true,aX,DF,aH,reduceIte,decide_true];refine (XU H1).mono λrv w' ⟨hr,hw⟩=>?_;subst hr;have hw:=hw.symm;subst hw;refine (XU H2).mono λrv w' ⟨hr,hw⟩=>?_;subst hr;have hw:=hw.symm;subst hw;refine aF.2 ?_;simp only [L3,DF,aH,reduceIte,decide_true];refine (UQ H1).mono λrv w' ⟨hr,hw⟩=>?_;subst hr;have hw:=hw.symm;subst hw;refine (UQ H2).mono λrv w' ⟨hr,hw⟩=>?_;subst hr;have hw:=hw.symm;subst hw;refine (aUd H1.room H2.room etr (by rw [tr1];omega)).mono λrv w15 ⟨hr,x15⟩=>?_;subst hr;refine aF.2 ?_;simp only [DF,aH,reduceIte,decide_true];refine V.ok (NS underlying23 underlying5 underlying9 ((b1.ext x14).ext x15)) ?_;refine V.ok (NS underlying23 underlying5 underlying9 (b3.ext x15)) ?_;rw [etp];refine V.ok tT ?_;simp only [beq_self_eq_true,DF,aH,reduceIte];refine gL gS ((b2.ext x14).ext x15) (gL gS (b4.ext x15) (aF.2 ?_));simp only [ets,decide_true]
 exact hR _ (X14.trans x15)
end Go.Proofs.YtgkkecladbmjkaaGreatDoor
namespace Go.Vc
open Go.ChangeShapes Go.WideShapes Go.ChangeAt Go.RowKit
variable {H:Type} {enc:TypeId × Z->H} {P:Program}
theorem FH {f:Func} {s:ChangeSpec} {apart fresh handsOn again:Bool} {W W':O} {args:Array Z} {v:Z} {ds gs:List (DataW H)} {pa pv:List MemPlace}
  (hW:DataW.Whole enc P f.params.toList s.vars apart W args.toList ds gs (pa++pv)) (hx:aG W W')
  (hr:∀ b sp hd,DataW.TrodAll enc P W' b sp hd f.resultTypes.toList (v.resultList f.resultTypes.size) (s.fn H (ds++gs)).results [])
  (ha:∀ sp:Nat->Bool,(∀ p∈pa++pv,sp p.block=true)->DataW.TrodAll enc P W' 0 sp true f.params.toList args.toList (s.fn H (ds++gs)).args pa)
  (hv:∀ sp:Nat->Bool,(∀ p∈pa++pv,sp p.block=true)->DataW.TrodVars enc P W' sp s.vars (s.fn H (ds++gs)).vars pv)
  (hok:∀ (j:Nat) (t:TypeId) (r:Z),f.resultTypes[j]?=some t->(v.resultList f.resultTypes.size)[j]?=some r->Value.okWide P W' .any 0 t r) :
  s.post enc P f apart fresh handsOn again W args v W':=by
 have hlt:=hW.lt;have hall:∀ p∈pa++pv,(λb=>decide (b < W.heap.size)) p.block=true:=λp hp=>decide_eq_true (hlt p hp);have hk:=hx.below.frame (·∈pa++pv)
 refine ⟨ds,gs,pa++pv,[],pa,pv,hW,hr _ _ _,ha _ hall,hv _ hall,World.keptBut_mono (λp hp=>⟨hp,.inr (by simpa using hp)⟩) hk,λ_=>?_⟩;obtain ⟨_,_,_,_,_,hz,hn⟩:=hW;have h2:=trodAll_append (ha (λ_=>true) λ_ _=>rfl) (hr 0 (λ_=>true) true);refine ⟨hok,_,_,pa++pv,⟨pa,pv,(by simpa using h2),hv _ λ_ _=>rfl,rfl,λb off hp=>?_,hn⟩,λp hp _=>hp⟩;rw [hx.below.frozen (hlt _ hp)];exact hz b off hp
theorem BW (hl:laidOutB P=true) {W W':O} (hx:aG W W') {sp:Nat->Bool}:∀ {ts:List TypeId} {vs:List Z} {ds:List (DataW H)} {p:List MemPlace},(ts.all λt=>P.readableRec t&&decide (t < P.types.size))=true ->
  DataW.TrodAll enc P W 0 (λ_=>true) true ts vs ds p->(∀ x∈p,x.block < W.heap.size)->(∀ x∈p,sp x.block=true)->DataW.TrodAll enc P W' 0 sp true ts vs ds p
 | [],vs,ds,p,_,h,_,_=>by
  obtain ⟨rfl,rfl,rfl⟩:=trodAll_nil h;exact trodAll_mk0
 | t::ts,vs,ds,p,hr,h,hlt,hs=>by
  simp only [List.all_cons,Bool.and_eq_true,decide_eq_true_eq] at hr;obtain ⟨v,vs',d,ds',p1,p2,rfl,rfl,rfl,h1,h2⟩:=trodAll_cons h
  exact trodAll_cons_mk (WideElems.Trod_stays hl hr.1.1 hr.1.2 h1 (λx hx'=>hx.below.same (hlt x (by simp [hx']))) λx hx'=>hs x (by simp [hx']))
   (BW hl hx (by simpa using hr.2) h2 (λx hx'=>hlt x (by simp [hx'])) λx hx'=>hs x (by simp [hx']))
end Go.Vc
namespace Go.Vc
open Go.ChangeShapes
variable {P:Program} {W:O} {x:String} {ds:List (DataW Unit)} {i m:Nat} {k:IntKind} {laid:List (String × DataW Unit)}
theorem uZ {P:Program} {W:O} {x:String} {ds:List (DataW Unit)} {g t e m:Nat} (hg:P.globalNamed x=some g) (ht:(P.globals[g]?).map (·.type)=some t) (hu:P.underlying t=some (.array m e)) {i:Nat} (hi:i < m) :
  ∀ {laid:List (String × DataW Unit)} {ps:List MemPlace},DataW.LaidVars P W laid ps->(x,.agg ds)∈laid->∃ (fuel:Nat) (q:List MemPlace) (cs:List Z) (d:DataW Unit),ds[i]?=some d/\DataW.trod (λ_=>()) P W 0 (λ_=>true) false fuel e ((cs.drop (i*P.cellsOf e)).take (P.cellsOf e))=some (d,q)/\∀ j:Nat,W.cell? ⟨g,j,none⟩=cs[j]?
 | [],_,_,hm=>by cases hm
 | (n',d')::r,ps,h,hm=>by
  obtain ⟨g',t',cs,fuel,p,q,h1,h2,h3,h4,h5,_⟩:=h;rcases List.mem_cons.1 hm with e1|e1
  ·cases e1;obtain rfl:=Option.some.inj (hg.symm.trans h1);obtain rfl:=Option.some.inj (ht.symm.trans h2);obtain ⟨xs,m',_,ex,_,hxl,hel⟩:=DataW.trod_array hu h4;have hE:=hel i hi;rw [List.getElem?_eq_getElem (by omega)] at hE;refine ⟨m',(xs[i]'(by omega)).2,cs.toList,(xs[i]'(by omega)).1,?_,hE,λj=>by rw [World.var?_cell hg h3 j,<- Array.getElem?_toList]⟩;have:ds=xs.map (·.1):=by have:=congrArg Prod.fst ex;simpa using this
   rw [this,List.getElem?_map,List.getElem?_eq_getElem (by omega)];rfl
  ·exact uZ hg ht hu hi h5 e1
theorem FT {g t e:Nat} {ps:List MemPlace} (hg:P.globalNamed x=some g) (ht:(P.globals[g]?).map (·.type)=some t) (hu:P.underlying t=some (.array m e)) (he:P.underlying e=some (.int k)) (c1:P.cellsOf e=1)
  (h:DataW.LaidVars P W laid ps) (hm:(x,.agg ds)∈laid) (hi:i < m):∃ z,ds[i]?=some (.lit (.int k z))/\W.cell? ⟨g,i,none⟩=some (.int k z):=by
 obtain ⟨fuel,q,cs,d,h1,h2,h3⟩:=uZ hg ht hu hi h hm;rw [c1,Nat.mul_one] at h2;obtain ⟨z,e1,e2,_⟩:=DataW.trod_int he h2;cases e2;refine ⟨z,h1,?_⟩;rw [h3 i];have h0:((cs.drop i).take 1)[0]?=some (.int k z):=by rw [e1];rfl
 simpa using h0
theorem FU {g t e c f o u:Nat} {fs:Array Field} {ps:List MemPlace} (hg:P.globalNamed x=some g) (ht:(P.globals[g]?).map (·.type)=some t) (hu:P.underlying t=some (.array m e)) (he:P.underlying e=some (.struct fs)) (hc:P.cellsOf e=c)
  (hf:(fs[f]?).map (λy=>(y.type,y.offset))=some (u,o)) (hk:P.underlying u=some (.int k)) (c1:P.cellsOf u=1) (ho:o < c)
  (h:DataW.LaidVars P W laid ps) (hm:(x,.agg ds)∈laid) (hi:i < m):∃ l z,ds[i]?=some (.agg l)/\l[f]?=some (.lit (.int k z))/\W.cell? ⟨g,i*c+o,none⟩=some (.int k z):=by
 obtain ⟨fuel,q,cs,d,h1,h2,h3⟩:=uZ hg ht hu hi h hm;rw [hc] at h2;obtain ⟨xs,n,_,ex,_,hxl,hel⟩:=DataW.trod_struct he h2;obtain ⟨fd,hfd,hfe⟩:=Option.map_eq_some_iff.1 hf;have h4:=hel f fd hfd;have hlt:f < fs.size:=(Array.getElem?_eq_some_iff.1 hfd).1;simp only [Prod.mk.injEq] at hfe;obtain ⟨rfl,rfl⟩:=hfe;rw [c1,List.getElem?_eq_getElem (by omega)] at h4;obtain ⟨z,e1,e2,_⟩:=DataW.trod_int hk h4;have e3:d=.agg (xs.map (·.1)):=congrArg Prod.fst ex
 refine ⟨_,z,by rw [h1,e3],by rw [List.getElem?_map,List.getElem?_eq_getElem (by omega)];simp [e2],?_⟩;rw [h3];have h0:((((cs.drop (i*c)).take c).drop fd.offset).take 1)[0]?=some (.int k z):=by rw [e1];rfl
 simpa [List.getElem?_take,List.getElem?_drop,ho] using h0
end Go.Vc
