/- A frame of the machine in memory: its stack. -/
import Derived.Test.YtgkkecladbmjkaaGreatDoorJf
set_option maxHeartbeats 4000000
namespace Go.Vc
def vH (IB:Nat->Prop) (w:O) (R:O->Prop):Prop:=∀ w',Fr (λi=>¬ IB i) w w'->R w'
section
variable {IB JB:Nat->Prop} {w w':O} {R Q:O->Prop} {S:Nat->Prop}
theorem vH.now (h:vH IB w R):R w:=h w (Fr.refl _ _)
theorem vH.fr (h:vH IB w R) (f:Fr S w w') (hd:∀ i,IB i->¬ S i):vH IB w' R:=λw'' g=>h w'' ((f.mono λi hs hi=>hd i hi hs).trans g λ_ _ h=>h)
theorem vH.ext (h:vH IB w R) (hx:aG w w'):vH IB w' R:=h.fr (Fr.of_ext (S:=λ_=>False) hx) λ_ _ h=>h
theorem vH.mono (h:vH IB w R) (hs:∀ i,i < w.heap.size->IB i->JB i):vH JB w R:=λw' f=>h w' ⟨f.os,f.tape,f.output,f.size,λi hi hn=>f.block i hi λhj=>hn λhI=>hj (hs i hi hI)⟩
theorem vH.imp (h:vH IB w R) (k:∀ w',R w'->Q w'):vH IB w Q:=λw' f=>k w' (h w' f)
theorem vH.lt (h:vH IB w R):vH (λi=>IB i/\i < w.heap.size) w R:=h.mono λ_ hi h=>⟨h,hi⟩
end
theorem aOt {P:Program} {w:O} {t e:TypeId} {z:Z} {by_:Nat} (ht:P.underlying t=some (.slice e)) (hi:cT P e z 1 by_) {v:Z} {n a:Nat} {xs:List Z} (ho:w.ownsRow 0 e 1 v n xs) (ha:a<=n) :
  ∃ v',(∀ w',(Instr.sliceAt t v none (some (.int .i64 (a:Int))) none).run P w'=.ok v' w')/\v'.ownBlock=v.ownBlock/\∀ w2:O,w2.ownsRow 0 e 1 v n xs->w2.ownsRow 0 e 1 v' a (xs.take a):=by
 rcases ho.2 with ⟨rfl,h0⟩|⟨g,cap,cur,rfl,h1,h2,h3,h4,h5,h6⟩
 ·have ea:a=0:=by omega
  subst ea;refine ⟨.slice none 0 0,λw'=>?_,rfl,λw2 _=>?_⟩
  ·simp [Instr.sliceAt,Instr.slice,run_underlying ht,dM hi,Instr.sliceBounds,Instr.sliceBound,asIntOf]
  ·rw [List.take_zero];exact World.ownsRow_nil _ _ _ _
 ·refine ⟨.slice (some ⟨g,0,none⟩) a cap,λw'=>?_,rfl,λw2 h=>?_⟩
  ·have hc:a<=cap:=by omega
   simp [Instr.sliceAt,Instr.slice,run_underlying ht,dM hi,Instr.sliceBounds,Instr.sliceBound,asIntOf,hc,fR]
  ·have:=FL h ha
   rwa [Nat.mul_one] at this
end Go.Vc
namespace Go.Proofs.YtgkkecladbmjkaaGreatDoor
open Tryz
open Go.Vc Go.Tc
structure FP where
 fb:Nat
 (lv sv pv lc cv:Z)
def pf (q:FP):Z:=.pointer (some ⟨q.fb,0,none⟩)
def TT (q:FP) (me:fY) (f:gY):List Z:=[i64 (f.who:Int),i64 (f.mth:Int),i64 (f.pc:Int),q.pv,i64 me.result,q.lc,q.cv,q.lv,q.sv]
structure pQ (w:O) (q:FP) (me:fY) (f:gY):Prop where
 box:lV w q.fb 0 (TT q me f)
 loc:w.ownsRow 0 21 1 q.lv f.loc.length (f.loc.map i32)
 st:w.ownsRow 0 21 1 q.sv f.st.length (f.st.map i32)
 code:w.ownsRow 0 70 3 q.cv me.code.length (iG me.code)
 db:∀ i,q.lv.ownBlock=some i\/q.sv.ownBlock=some i\/q.cv.ownBlock=some i->i≠q.fb
 dl:∀ i,q.lv.ownBlock=some i->q.sv.ownBlock≠some i
 dc:∀ i,q.cv.ownBlock=some i->q.lv.ownBlock≠some i/\q.sv.ownBlock≠some i
def FM (q:FP) (i:Nat):Prop:=i=q.fb\/q.lv.ownBlock=some i\/q.sv.ownBlock=some i
structure vG (q q':FP) (w w':O):Prop where
 same:q'={ q with sv:=q'.sv }
 sv:∀ i,q'.sv.ownBlock=some i->q.sv.ownBlock=some i\/w.heap.size<=i
 fr:Fr (FM q) w w'
variable {q q1:FP} {me:fY} {f f':gY} {w w' w1:O}
theorem vG.of_ext (hx:aG w w'):vG q q w w':=⟨rfl,λ_ h=>.inl h,Fr.of_ext hx⟩
theorem vG.fm {q':FP} (h:vG q q' w w') {i:Nat} (hi:FM q' i):FM q i\/w.heap.size<=i:=by
 obtain ⟨fb,lv,sv,pv,lc,cv⟩:=q;have e:=h.same;rcases hi with hi|hi|hi
 ·rw [e] at hi;exact .inl (.inl hi)
 ·rw [e] at hi;exact .inl (.inr (.inl hi))
 ·rcases h.sv i hi with h1|h1
  ·exact .inl (.inr (.inr h1))
  ·exact .inr h1
theorem vG.trans {q':FP} (h:vG q q1 w w1) (k:vG q1 q' w1 w'):vG q q' w w':=by
 refine ⟨?_,λi hi=>?_,h.fr.trans k.fr λi hi hm=>?_⟩
 ·rw [k.same,h.same]
 ·rcases k.sv i hi with h1|h1
  ·exact h.sv i h1
  ·exact .inr (Nat.le_trans h.fr.size h1)
 ·rcases h.fm hm with h1|h1
  ·exact h1
  ·omega
def YX (q:FP) (me:fY) (f':gY) (w w':O):Prop:=∃ q',pQ w' q' me f'/\vG q q' w w'
theorem pQ.hi (h:pQ w q me f):∀ i,FM q i\/q.cv.ownBlock=some i->i < w.heap.size:=by
 rintro i ((rfl|hi|hi)|hi)
 ·exact h.box.lt
 ·exact (h.loc.lt i hi).2
 ·exact (h.st.lt i hi).2
 ·exact (h.code.lt i hi).2
theorem pQ.fr {S:Nat->Prop} (h:pQ w q me f) (g:Fr S w w') (hn:∀ i,FM q i\/q.cv.ownBlock=some i->¬ S i):pQ w' q me f:=
 ⟨g.seg h.box (hn _ (.inl (.inl rfl))),g.own h.loc λi hi=>hn i (.inl (.inr (.inl hi))),g.own h.st λi hi=>hn i (.inl (.inr (.inr hi))),g.own h.code λi hi=>hn i (.inr hi),h.db,h.dl,h.dc⟩
theorem pQ.ext (h:pQ w q me f) (hx:aG w w'):pQ w' q me f:=h.fr (Fr.of_ext (S:=λ_=>False) hx) λ_ _ h=>h
theorem pQ.setS (h:pQ w q me f) {w1:O} {v:Z} {s:List Int} (g:Fr (λi=>q.sv.ownBlock=some i) w w1) (ho:w1.ownsRow 0 21 1 v s.length (s.map i32)) (hl:∀ i,v.ownBlock=some i->q.sv.ownBlock=some i\/w.heap.size<=i) :
  pQ (w1.setCell ⟨q.fb,0+8,none⟩ v) { q with sv:=v } me { f with st:=s }/\vG q { q with sv:=v } w (w1.setCell ⟨q.fb,0+8,none⟩ v):=by
 have f2:Fr (λi=>i=q.fb) w1 (w1.setCell ⟨q.fb,0+8,none⟩ v):=Fr.of_set rfl;have hsb:∀ i,q.sv.ownBlock=some i->i≠q.fb:=λi hi=>h.db i (.inr (.inl hi));have hfb:=h.box.lt
 have hv:∀ i,v.ownBlock=some i->i≠q.fb:=λi hi=>by
  rcases hl i hi with h1|h1
  ·exact hsb i h1
  ·omega
 have box1:=(g.seg h.box λhs=>hsb _ hs rfl).set (j:=8) (by simp [TT]) v;have F:Fr (FM q) w (w1.setCell ⟨q.fb,0+8,none⟩ v):=(g.or f2).mono λi hi=>hi.elim (λh=>.inr (.inr h)) .inl;have ol:=h.loc.lt;have oc:=h.code.lt;refine ⟨⟨box1,f2.own (g.own h.loc λi hi=>h.dl i hi) λi hi hs=>h.db i (.inl hi) hs,f2.own ho λi hi=>hv i hi,f2.own (g.own h.code λi hi=>(h.dc i hi).2) λi hi hs=>h.db i (.inr (.inr hi)) hs,?_,?_,?_⟩,rfl,hl,F⟩
 ·rintro i (hi|hi|hi)
  ·exact h.db i (.inl hi)
  ·exact hv i hi
  ·exact h.db i (.inr (.inr hi))
 ·intro i hi hv';rcases hl i hv' with h1|h1
  ·exact h.dl i hi h1
  ·have:=(ol i hi).2;omega
 ·intro i hi;refine ⟨(h.dc i hi).1,λhv'=>?_⟩;rcases hl i hv' with h1|h1
  ·exact (h.dc i hi).2 h1
  ·have:=(oc i hi).2;omega
theorem YX.of_ext {f':gY} (hx:aG w w1) (h:YX q me f' w1 w'):YX q me f' w w':=by
 obtain ⟨q',h1,h2⟩:=h;exact ⟨q',h1,(vG.of_ext hx).trans h2⟩
theorem aEh (h:pQ w q me f) (hl:f.st.length<=1000) {n:Int}:aD prog 134 #[pf q,i32 n] w λ_ w'=>YX q me { f with st:=f.st++[n] } w w':=by
 apply aLh;unfold JP;refine ⟨.inl ⟨_,rfl⟩,?_⟩;refine kU cZ mP h.box rfl ?_;refine kJ MX [i32 n] rfl rfl (by simp) rfl λv1 w1 ho1 x1=>?_;have h1:=h.ext x1;refine apL MX h1.st ho1 (by decide) (by rfl) (by omega) (by unfold maxLen;omega) (Nat.zero_le _) λg' cap' w2 ho2 hg2 hlies=>?_;have f2:Fr (λi=>q.sv.ownBlock=some i) w1 w2:=Fr.of_grown hg2 λk hk=>hk;refine ⟨.inl ⟨_,rfl⟩,?_⟩;refine fdA cZ ?_;have hb2:=f2.seg h1.box λhs=>h.db _ (.inr (.inl hs)) rfl;refine pE yB hb2 (show 8 < 9 by decide) rfl ?_
 obtain ⟨h3,s3⟩:=h1.setS (v:=.slice (some ⟨g',0,none⟩) (f.st.length+1) cap') (s:=f.st++[n]) f2 (by simpa using ho2) λi hi=>by
  have:g'=i:=by simpa [Value.ownBlock] using hi
  subst this;rcases hlies with hl|hl
  ·exact .inl hl
  ·exact .inr (by omega)
 exact YX.of_ext x1 ⟨_,h3,s3⟩
theorem CT (h:pQ w q me f) (hl:f.st.length<=1000) {k:Nat} (hk:k<=f.st.length):aD prog 91 #[pf q,i64 (k:Int)] w λr w'=>w'.ownsRow w.heap.size 21 1 r k ((gO k f.st).map i32)/\YX q me { f with st:=iU k f.st } w w':=by
 apply aRq;unfold PX;refine ⟨.inl ⟨_,rfl⟩,?_⟩;refine kU cZ mP h.box rfl (gL fZ (aC.of_own h.st) ?_);refine jE.2 ?_;rw [aY (by omega)];have ea:(f.st.length:Int) - (k:Int)=((f.st.length - k:Nat):Int):=by omega
 rw [ea];generalize hat:f.st.length - k=at';refine ⟨.inl ⟨_,rfl⟩,?_⟩;refine kU cZ mP h.box rfl ?_;obtain ⟨v',hrun,hsl⟩:=uS underlying37 uD (aC.of_own h.st) (lo:=some (.int .i64 (at':Int))) (hi':=none) (a:=at') (b:=f.st.length) (.inr rfl) (.inl ⟨rfl,rfl⟩) (by omega) (Nat.le_refl _);refine V.ok (hrun _) ?_;have etk:gO k f.st=f.st.drop at':=by unfold gO;rw [hat]
 have eun:iU k f.st=f.st.take at':=by unfold iU;rw [hat]
 have hsv:aC w v' 1 k ((f.st.drop at').map i32):=by
  have:=hsl w (aC.of_own h.st);rw [show f.st.length - at'=k by omega] at this;rw [List.map_drop];have e2:((f.st.map i32).drop at').take k=(f.st.map i32).drop at':=List.take_of_length_le (by simp;omega)
  rwa [e2] at this
 rw [etk,eun];refine aD.mono (R:=λr w'=>w'.ownsRow w.heap.size 21 1 r k ((f.st.drop at').map i32)/\aG w w') ?_ λr w1 ⟨hr1,x1⟩=>?_
 ·apply aSi;unfold QJ;exact MC (R:=λr w'=>w'.ownsRow w.heap.size 21 1 r k ((f.st.drop at').map i32)/\aG w w') MX hsv (List.all_eq_true.2 λv hv=>by obtain ⟨x,_,rfl⟩:=List.mem_map.1 hv;rfl) (by omega) λv' w' g1 g2=>⟨g1,g2⟩
 have h1:=h.ext x1;refine ⟨.inl ⟨_,rfl⟩,?_⟩;refine kU cZ mP h1.box rfl ?_;obtain ⟨v2,hr2,hb2,ho2⟩:=aOt underlying37 uD h1.st (a:=at') (by omega);refine V.ok (hr2 _) ?_;refine ⟨.inl ⟨_,rfl⟩,?_⟩;refine fdA cZ ?_;have ho:=ho2 _ h1.st;refine pE yB h1.box (show 8 < 9 by decide) (bR ho) ?_;have eta:(f.st.take at').length=at':=by simp;omega
 obtain ⟨h3,s3⟩:=h1.setS (v:=v2) (s:=f.st.take at') (Fr.refl _ _) (by rw [eta,List.map_take];exact ho) λi hi=>.inl (hb2▸hi);refine ⟨s3.fr.own hr1 λi hi hm=>?_,YX.of_ext x1 ⟨_,h3,s3⟩⟩;have:=(hr1.lt i hi).1;have:=h.hi i (.inl hm);omega
theorem xQ (h:pQ w q me f) (hl:f.st.length<=1000) (hk:1<=f.st.length):aD prog 135 #[pf q] w λr w'=>r=i32 (nth (gO 1 f.st) 0)/\YX q me { f with st:=iU 1 f.st } w w':=by
 apply aLg;unfold JO;refine (CT h hl (k:=1) hk).mono λr w1 ⟨hs,hm⟩=>?_;obtain ⟨a,ha⟩:∃ a,gO 1 f.st=[a]:=List.length_eq_one_iff.1 (oH hk);rw [ha] at hs ⊢;exact mX fZ eZ (aC.of_own hs) (by omega) (by omega) rfl ⟨rfl,hm⟩
def FQ (op:Int) (t:List Int):Int:=if op=15\/op=16\/op=26 then UI op (nth t 0) else if op=22 then qW (nth t 0) (nth t 1) (nth t 2) else oY op (nth t 0) (nth t 1)
def tW (op:Int):Nat:=if op=15\/op=16\/op=26 then 1 else if op=22 then 3 else 2
theorem TC {op:Int} (ho:iF op\/op=15\/op=16\/op=26\/op=22) (h:pQ w q me f) (hl:f.st.length<=1000) (hk:tW op<=f.st.length) (h32:gP f.st) :
  aD prog 138 #[pf q,i64 op] w λr w'=>r=i32 (FQ op (gO (tW op) f.st))/\YX q me { f with st:=iU (tW op) f.st } w w':=by
 apply aLe;suffices key:∀ R:Z->O->Prop,(∀ w',YX q me { f with st:=iU (tW op) f.st } w w'->R (i32 (FQ op (gO (tW op) f.st))) w')->zK (pf q) (i64 op) w R from key _ λw' h1=>⟨rfl,h1⟩;intro R hR;have ht:=(DD h32 (tW op)).1;unfold zK;by_cases h15:op=15
 ·subst h15;simp only [aF,Int.reduceEq,decide_true,decide_false,aE,aA];refine (xQ h hl hk).mono λr w1 ⟨hr,hg⟩=>?_;subst hr;exact aWs.mono λr w' ⟨hr,hw⟩=>hr▸hw▸hR _ hg
 by_cases h16:op=16
 ·subst h16;simp only [aF,Int.reduceEq,decide_true,decide_false,aE,aA];refine (xQ h hl hk).mono λr w1 ⟨hr,hg⟩=>?_;subst hr;exact aWr.mono λr w' ⟨hr,hw⟩=>hr▸hw▸hR _ hg
 by_cases h26:op=26
 ·subst h26;simp only [aF,Int.reduceEq,decide_true,decide_false,aE,aA];refine (xQ h hl hk).mono λr w1 ⟨hr,hg⟩=>?_;subst hr;refine (wEq (tX ht 0) (by unfold mL;omega)).mono λr w' ⟨hr,hw⟩=>?_;have hw:=hw.symm;subst hw;subst hr;exact hR _ hg
 by_cases h22:op=22
 ·subst h22;simp only [aF,Int.reduceEq,decide_true,decide_false,aE,aA];refine (CT h hl (k:=3) hk).mono λr w1 ⟨ho,hg⟩=>?_;have ht3:(gO 3 f.st).length=3:=oH hk;have e22:tW 22=3:=rfl;rw [e22] at hR ht
  obtain ⟨x,y,z,hxyz⟩:∃ x y z,gO 3 f.st=[x,y,z]:=by
   match gO 3 f.st,ht3 with
   | [x,y,z],_=>exact ⟨x,y,z,rfl⟩
  rw [hxyz] at ho hR ht;have hs:=aC.of_own ho;have D1:aG w1 w1.drew:=(aG.refl _).drew;refine aI.mk' (λw'=>aG w1 w') D1 ?_;refine hJ fZ eZ hs (λw' hw=>hw) (by omega) (by omega) (u:=i32 x) rfl ?_;refine hJ fZ eZ hs (λw' hw=>hw) (by omega) (by omega) (u:=i32 y) rfl ?_;refine hJ fZ eZ hs (λw' hw=>hw) (by omega) (by omega) (u:=i32 z) rfl ?_;refine (aTw (ht x (by simp)) (ht y (by simp)) (ht z (by simp))).mono λr w' ⟨hr,hw⟩=>?_;have hw:=hw.symm;subst hw;subst hr;obtain ⟨q',h1,h2⟩:=hg;exact ⟨D1,hR _ ⟨q',h1.ext D1,h2.trans (vG.of_ext D1)⟩⟩
 have hb:iF op:=ho.resolve_right (by omega);have e2:tW op=2:=by unfold tW;rw [if_neg (by omega),if_neg h22]
 rw [e2] at hR ht hk;simp only [aF,h15,h16,h26,h22,decide_false,aA];refine (CT h hl (k:=2) hk).mono λr w1 ⟨ho,hg⟩=>?_;have ht2:(gO 2 f.st).length=2:=oH hk
 obtain ⟨x,y,hxy⟩:∃ x y,gO 2 f.st=[x,y]:=by
  match gO 2 f.st,ht2 with
  | [x,y],_=>exact ⟨x,y,rfl⟩
 rw [hxy] at ho hR ht;have eN:FQ op [x,y]=oY op x y:=by unfold FQ;rw [if_neg (by omega),if_neg h22];rfl
 rw [eN] at hR;have hs:=aC.of_own ho;have D1:aG w1 w1.drew:=(aG.refl _).drew;refine aI.mk' (λw'=>aG w1 w') D1 ?_;refine hJ fZ eZ hs (λw' hw=>hw) (by omega) (by omega) (u:=i32 x) rfl ?_;refine hJ fZ eZ hs (λw' hw=>hw) (by omega) (by omega) (u:=i32 y) rfl ?_;refine (TU hb (ht x (by simp)) (ht y (by simp))).mono λr w' ⟨hr,hw⟩=>?_;have hw:=hw.symm;subst hw;subst hr;obtain ⟨q',h1,h2⟩:=hg;exact ⟨D1,hR _ ⟨q',h1.ext D1,h2.trans (vG.of_ext D1)⟩⟩
end Go.Proofs.YtgkkecladbmjkaaGreatDoor
namespace Go.Vc
theorem MA {P:Program} {w:O} {t e by_ sz:Nat} {z:Z} (ht:P.underlying t=some (.slice e)) (hi:cT P e z sz by_) (hz:(z.cells.size == sz)=true) (hsz:0 < sz) (hb0:∀ w,(Instr.buildSlice t 0 #[]).run P w=.ok (.slice (some ⟨w.heap.size,0,none⟩) 0 0) (w.alloc (.cells #[] e)))
  {v:Z} {n:Nat} {cs:List Z} (hs:aC w v sz n cs) (h1:cs.all cB=true) (hb:n*by_<=140737488355328) (hm:n<=maxLen) {x y:Operand} {R:Z->O->Prop} (hk:∀ v' w',w'.ownsRow w.heap.size e sz v' n cs->aG w w'->R v' w') :
  V P (do eqGuard .eql t x y v (Value.slice none 0 0);binOp .eql t v (Value.slice none 0 0)) w λt4 w1=>
   aO t4 (R (Value.slice none 0 0) w1) (V P (Instr.buildSlice t 0 #[]) w1 λt5 w2=>V P (Builtin.append_ #[t,t] t #[t5,v]) w2 λt7 w3=>R t7 w3):=by
 rcases hs.2 with ⟨rfl,h0⟩|⟨b,off,cap,rfl,hc1,hc2,hc⟩
 ·refine V.ok (lE ht) (aE.2 (hk _ _ ?_ (aG.refl w)));have hl:=hs.1;rw [h0,Nat.zero_mul] at hl;rw [List.eq_nil_of_length_eq_zero hl,h0];exact World.ownsRow_nil _ _ _ _
 ·refine V.ok (lE ht) (aA.2 (V.ok (hb0 w) ?_));have hb1:bA (w.alloc (.cells (([]:List Z)).toArray e)) w.heap.size [] e:=by unfold bA;rw [heap_alloc_new]
  have x1:aG w (w.alloc (.cells (([]:List Z)).toArray e)):=(aG.refl _).alloc _;have e0:(([]:List Z)).toArray=#[]:=rfl;rw [e0] at hb1 x1;generalize w.alloc (.cells #[] e)=w1 at hb1 x1 ⊢;have ho1:w1.ownsRow w.heap.size e sz (.slice (some ⟨w.heap.size,0,none⟩) 0 0) 0 []:=eF hb1 (by simp) (Nat.le_refl _) (by unfold maxLen;omega);refine apA ht hi hz hsz ho1 (hs.ext x1) h1 (by simpa using hb) (by omega) x1.size λv2 w2 ho2 hg=>?_;rw [Nat.zero_add,List.nil_append] at ho2;exact hk v2 w2 ho2 (x1.grown hg λk hk=>(ho1.lt k hk).1)
end Go.Vc
namespace Go.Proofs.YtgkkecladbmjkaaGreatDoor
open Tryz
open Go.Vc Go.Tc
theorem aMx {l:List Int} {j:Nat} (h:j < l.length):(l.map i32)[j]?=some (i32 (l.getD j 0)):=by
 rw [List.getElem?_map,List.getD_eq_getElem?_getD,List.getElem?_eq_getElem h];rfl
structure tI (w:O) (fv:Z) (fo:Nat) (vs:List Z) (fd:List (List Int)):Prop where
 eq:∃ cap,fv=.slice (some ⟨fo,0,none⟩) fd.length cap
 out:lV w fo 0 vs
 len:vs.length=fd.length
 row:∀ (k:Nat) v d,vs[k]?=some v->fd[k]?=some d->w.ownsRow 0 21 1 v d.length (d.map i32)
 dj:∀ (j k:Nat) u v i,vs[j]?=some u->vs[k]?=some v->u.ownBlock=some i->v.ownBlock=some i->j=k
 ne:∀ v∈vs,v.ownBlock≠some fo
variable {w w':O} {fv:Z} {fo:Nat} {vs:List Z} {fd:List (List Int)}
def FdM (vs:List Z) (i:Nat):Prop:=∃ v∈vs,v.ownBlock=some i
theorem tI.fr {S:Nat->Prop} (h:tI w fv fo vs fd) (f:Fr S w w') (hn:¬ S fo) (hm:∀ i,FdM vs i->¬ S i):tI w' fv fo vs fd:=
 ⟨h.eq,f.seg h.out hn,h.len,λk v d hk hd=>f.own (h.row k v d hk hd) λi hi=>hm i ⟨v,List.mem_of_getElem? hk,hi⟩,h.dj,h.ne⟩
theorem tI.get (h:tI w fv fo vs fd) {k:Nat} (hk:k < fd.length):∃ v,vs[k]?=some v/\w.ownsRow 0 21 1 v (fd.getD k []).length ((fd.getD k []).map i32):=by
 obtain ⟨v,hv⟩:=bK (l:=vs) (j:=k) (by have:=h.len;omega);refine ⟨v,hv,h.row k v _ hv ?_⟩;rw [List.getD_eq_getElem?_getD,List.getElem?_eq_getElem hk];rfl
theorem tI.set (h:tI w fv fo vs fd) {k j:Nat} {n:Int} {v:Z} {w1:O} (hv:vs[k]?=some v) (hk:k < fd.length) (ho:w1.ownsRow 0 21 1 v (fd.getD k []).length (((fd.getD k []).map i32).set j (i32 n))) (f:Fr (λi=>v.ownBlock=some i) w w1) :
  tI w1 fv fo vs (fd.set k ((fd.getD k []).set j n)):=by
 refine ⟨by simpa using h.eq,f.seg h.out λhs=>h.ne v (List.mem_of_getElem? hv) hs,by simpa using h.len,λq u d hq hd=>?_,h.dj,h.ne⟩;by_cases hqk:k=q
 ·subst hqk;rw [List.getElem?_set_self hk] at hd;cases hd;rw [hv] at hq;cases hq;rw [List.length_set,List.map_set];exact ho
 ·rw [List.getElem?_set_ne hqk] at hd;exact f.own (h.row q u d hq hd) λi hi hs=>hqk (h.dj k q v u i hv hq hs hi)
section
variable {rb hb:Nat} {iv pub sec:Z}
theorem GP (hr:lV w rb 0 [.pointer (some ⟨hb,0,none⟩),iv,fv,pub,sec]) (h:tI w fv fo vs fd) {k j:Nat} (hk:k < fd.length) (hj:j < (fd.getD k []).length) :
  aD prog 37 #[.pointer (some ⟨rb,0,none⟩),i64 (k:Int),i64 (j:Int)] w λr w'=>r=.tuple #[i32 ((fd.getD k []).getD j 0),.bool true]/\w'=w:=by
 obtain ⟨cap,hfv⟩:=h.eq;subst hfv;obtain ⟨v,hv,ho⟩:=h.get hk;apply aSt;unfold QU;refine aV.2 ?_;simp only [show ¬ ((k:Int) < 0) by omega,fA,aH,reduceIte,Bool.false_eq_true,decide_false];refine ⟨.inl ⟨_,rfl⟩,?_⟩;refine kU cY gU hr rfl (YR.2 (lT.2 ?_));simp only [show ¬ ((k:Int)>=((fd.length:Nat):Int)) by omega,aV,fA,aH,reduceIte,Bool.false_eq_true,decide_false];simp only [show ¬ ((j:Int) < 0) by omega,fA,reduceIte,Bool.false_eq_true,decide_false];refine ⟨.inl ⟨_,rfl⟩,?_⟩;refine kU cY gU hr rfl ?_;refine aPg KH mP h.out (by omega) (by omega) (u:=v) (by simpa using hv) ?_;refine gL fZ (aC.of_own ho) (lT.2 ?_);simp only [show ¬ ((j:Int)>=(((fd.getD k []).length:Nat):Int)) by omega,aA,decide_false];refine ⟨.inl ⟨_,rfl⟩,?_⟩;refine kU cY gU hr rfl ?_;refine aPg KH mP h.out (by omega) (by omega) (u:=v) (by simpa using hv) ?_;refine mX fZ eZ (aC.of_own ho) (by omega) (by omega) (u:=i32 ((fd.getD k []).getD j 0)) ?_ ⟨rfl,rfl⟩;rw [Int.toNat_natCast];exact aMx hj
theorem EX (hr:lV w rb 0 [.pointer (some ⟨hb,0,none⟩),iv,fv,pub,sec]) (h:tI w fv fo vs fd) {k j:Nat} (hk:k < fd.length) (hj:j < (fd.getD k []).length) {n:Int} :
  aD prog 137 #[.pointer (some ⟨rb,0,none⟩),i64 (k:Int),i64 (j:Int),i32 n] w λr w'=>r=.bool true/\tI w' fv fo vs (fd.set k ((fd.getD k []).set j n))/\Fr (FdM vs) w w':=by
 have h0:=h;obtain ⟨cap,hfv⟩:=h.eq;subst hfv;obtain ⟨v,hv,ho⟩:=h.get hk;apply aLf;unfold JN;refine (GP hr h hk hj).mono λr w' ⟨hr',hw⟩=>?_;subst hr';have hw:=hw.symm;subst hw;refine cD.2 (cC.2 (eU.2 (aA.2 ⟨.inl ⟨_,rfl⟩,?_⟩)));refine kU cY gU hr rfl ?_;refine aPg KH mP h.out (by omega) (by omega) (u:=v) (by simpa using hv) ?_;refine stO fZ uD ho (by omega) (by omega) rfl λw2 ho2 hg=>?_;have f:Fr (λi=>v.ownBlock=some i) w w2:=Fr.of_grown hg λk hk=>hk;exact ⟨rfl,h.set hv hk (by simpa using ho2) f,f.mono λi hi=>⟨v,List.mem_of_getElem? hv,hi⟩⟩
end
def yX (w:O) (row:List Z) (i:bE):Prop:=∃ p:cQ,row=p.cells i/\iQ w p i
theorem yX.len {w:O} {row:List Z} {i:bE} (h:yX w row i):row.length=5:=by obtain ⟨p,rfl,_⟩:=h;rfl
def jS (w:O) (v:Z) (l:List bE):Prop:=dL yX 5 w v l
theorem yX.ext {w w':O} {row:List Z} {i:bE} (h:yX w row i) (hx:aG w w'):yX w' row i:=by obtain ⟨p,h1,h2⟩:=h;exact ⟨p,h1,h2.ext hx⟩
theorem jS.ext {w w':O} {v:Z} {l:List bE} (h:jS w v l) (hx:aG w w'):jS w' v l:=dL.ext (λh k=>h.ext k) h hx
def yV (B:Nat) (w:O) (row:List Z) (m:fY):Prop:=∃ pv lv cv,row=[pv,i64 m.result,lv,cv]/\w.ownsRow B 3 1 pv m.params.length (m.params.map i64)/\w.ownsRow B 3 1 lv m.locals.length (m.locals.map i64)/\w.ownsRow B 70 3 cv m.code.length (iG m.code)
def yW (B:Nat) (w:O) (row:List Z) (x:zX):Prop:=∃ pv,row=[.string x.name,i64 x.exp,pv,i64 x.result]/\w.ownsRow B 3 1 pv x.params.length (x.params.map i64)
def MP {α:Type} (T:List Z->α->Prop) (sz:Nat) (cs:List Z) (l:List α):Prop:=∀ (k:Nat) x,l[k]?=some x->T ((cs.drop (k*sz)).take sz) x
structure pO (B:Nat) (w:O) (p:cQ) (i:bE):Prop where
 fl:w.ownsRow B 3 1 p.fv i.fields.length (i.fields.map i64)
 ex:w.ownsRow B 3 1 p.xv i.exports.length (i.exports.map i64)
 im:∃ cs,w.ownsRow B 180 4 p.iv i.imports.length cs/\MP (yW B w) 4 cs i.imports
 mt:∃ cs,w.ownsRow B 74 4 p.mv i.methods.length cs/\MP (yV B w) 4 cs i.methods
theorem yV.at_ {B:Nat} {row:List Z} {m:fY} (h:yV B w row m):jR w row m:=by
 obtain ⟨pv,lv,cv,h1,h2,h3,h4⟩:=h;exact ⟨pv,lv,cv,h1,aC.of_own h2,aC.of_own h3,aC.of_own h4⟩
theorem yW.at_ {B:Nat} {row:List Z} {m:zX} (h:yW B w row m):rO w row m:=by
 obtain ⟨pv,h1,h2⟩:=h;exact ⟨pv,h1,aC.of_own h2⟩
theorem pO.at_ {B:Nat} {p:cQ} {i:bE} (h:pO B w p i):iQ w p i:=by
 obtain ⟨h1,h2,⟨c1,h3,h4⟩,c2,h5,h6⟩:=h;exact ⟨aC.of_own h1,⟨c1,aC.of_own h3,λk x hx=>⟨_,rfl,(h4 k x hx).at_⟩⟩,⟨c2,aC.of_own h5,λk x hx=>⟨_,rfl,(h6 k x hx).at_⟩⟩,aC.of_own h2⟩
theorem yV.fr {B:Nat} {row:List Z} {m:fY} {S:Nat->Prop} (h:yV B w row m) (f:Fr S w w') (hS:∀ i,B<=i->¬ S i):yV B w' row m:=by
 obtain ⟨pv,lv,cv,h1,h2,h3,h4⟩:=h;exact ⟨pv,lv,cv,h1,f.own h2 λi hi=>hS i (h2.lt i hi).1,f.own h3 λi hi=>hS i (h3.lt i hi).1,f.own h4 λi hi=>hS i (h4.lt i hi).1⟩
theorem yW.fr {B:Nat} {row:List Z} {m:zX} {S:Nat->Prop} (h:yW B w row m) (f:Fr S w w') (hS:∀ i,B<=i->¬ S i):yW B w' row m:=by
 obtain ⟨pv,h1,h2⟩:=h;exact ⟨pv,h1,f.own h2 λi hi=>hS i (h2.lt i hi).1⟩
theorem pO.fr {B:Nat} {p:cQ} {i:bE} {S:Nat->Prop} (h:pO B w p i) (f:Fr S w w') (hS:∀ i,B<=i->¬ S i):pO B w' p i:=by
 obtain ⟨h1,h2,⟨c1,h3,h4⟩,c2,h5,h6⟩:=h;exact ⟨f.own h1 λi hi=>hS i (h1.lt i hi).1,f.own h2 λi hi=>hS i (h2.lt i hi).1,⟨c1,f.own h3 λi hi=>hS i (h3.lt i hi).1,λk x hx=>(h4 k x hx).fr f hS⟩,c2,f.own h5 λi hi=>hS i (h5.lt i hi).1,λk x hx=>(h6 k x hx).fr f hS⟩
theorem pO.dep {B:Nat} {p:cQ} {i:bE} (h:pO B w p i):vH (λi=>B<=i) w λw'=>pO B w' p i:=λ_ f=>h.fr f λ_ hi hn=>hn hi
end Go.Proofs.YtgkkecladbmjkaaGreatDoor
namespace Go.Proofs.YtgkkecladbmjkaaGreatDoor
open Tryz
open Go.Vc Go.Tc
variable {w w':O}
variable {B B' n sz:Nat} {cs row:List Z} {m:fY}
theorem ES {α:Type} {T:List Z->α->Prop} {l:List α} (hl:cs.length=l.length*sz) (hsz:0 < sz) (hr:MP T sz cs l) (h1:∀ row x,T row x->row.all cB=true):cs.all cB=true:=by
 rw [List.all_eq_true];intro v hv;obtain ⟨j,hj⟩:=List.getElem?_of_mem hv;have hlt:=(List.getElem?_eq_some_iff.1 hj).1;have hk:j / sz < l.length:=by rw [Nat.div_lt_iff_lt_mul hsz];omega
 obtain ⟨x,hx⟩:=bK (l:=l) (j:=j / sz) hk;have hrow:=h1 _ _ (hr _ _ hx);rw [List.all_eq_true] at hrow;refine hrow v (List.mem_of_getElem? (i:=j % sz) ?_);rw [List.getElem?_take,if_pos (Nat.mod_lt _ hsz),List.getElem?_drop,Nat.mul_comm,Nat.div_add_mod];exact hj
theorem CL {v:Z} (h:aC w v sz n cs):cB v=true:=by
 obtain ⟨a,c,rfl⟩:=h.shape;rfl
theorem jR.one (h:jR w row m):row.all cB=true:=by
 obtain ⟨pv,lv,cv,rfl,h1,h2,h3⟩:=h;simp [CL h1,CL h2,CL h3];rfl
theorem rO.one {m:zX} (h:rO w row m):row.all cB=true:=by
 obtain ⟨pv,rfl,h1⟩:=h;simp [CL h1];exact ⟨rfl,rfl,rfl⟩
theorem XL (l:List Int):(l.map i64).all cB=true:=List.all_eq_true.2 λv hv=>by obtain ⟨x,_,rfl⟩:=List.mem_map.1 hv;rfl
theorem pM {v:Z} {l:List Int} (h:aS w v l) (hl:l.length<=1000000):aD prog 122 #[v] w λr w'=>w'.ownsRow w.heap.size 3 1 r l.length (l.map i64)/\aG w w':=by
 apply aLp;unfold JV;exact MC (R:=λr w'=>w'.ownsRow w.heap.size 3 1 r l.length (l.map i64)/\aG w w') bG h (XL l) (by omega) λv' w' g1 g2=>⟨g1,g2⟩
theorem TP {v:Z} {l:List fS} (h:oD w v l) (hl:l.length<=1000000):aD prog 125 #[v] w λr w'=>w'.ownsRow w.heap.size 70 3 r l.length (iG l)/\aG w w':=by
 apply aLm;unfold JS;exact MA (R:=λr w'=>w'.ownsRow w.heap.size 70 3 r l.length (iG l)/\aG w w') underlying71 oA rfl (by omega) (λw=>by kernel_rfl) h (XN l) (by omega) (by unfold maxLen;omega) λv' w' g1 g2=>⟨g1,g2⟩
theorem TN {v:Z} (h:aC w v 4 n cs) (h1:cs.all cB=true) (hl:n<=1000000):aD prog 123 #[v] w λr w'=>w'.ownsRow w.heap.size 180 4 r n cs/\aG w w':=by
 apply aLo;unfold JU;exact MA (R:=λr w'=>w'.ownsRow w.heap.size 180 4 r n cs/\aG w w') underlying43 mY rfl (by omega) (λw=>by kernel_rfl) h h1 (by omega) (by unfold maxLen;omega) λv' w' g1 g2=>⟨g1,g2⟩
theorem TO {v:Z} (h:aC w v 4 n cs) (h1:cs.all cB=true) (hl:n<=1000000):aD prog 124 #[v] w λr w'=>w'.ownsRow w.heap.size 74 4 r n cs/\aG w w':=by
 apply aLn;unfold JT;exact MA (R:=λr w'=>w'.ownsRow w.heap.size 74 4 r n cs/\aG w w') underlying44 lR rfl (by omega) (λw=>by kernel_rfl) h h1 (by omega) (by unfold maxLen;omega) λv' w' g1 g2=>⟨g1,g2⟩
def aVm {α:Type} (T U:List Z->α->Prop) (j sz:Nat) (cs:List Z) (l:List α):Prop:=∀ (k:Nat) x,l[k]?=some x->(k < j->U ((cs.drop (k*sz)).take sz) x)/\(j<=k->T ((cs.drop (k*sz)).take sz) x)
theorem yV.mono (h:yV B w row m) (hB:B'<=B):yV B' w row m:=by
 obtain ⟨pv,lv,cv,h1,h2,h3,h4⟩:=h;exact ⟨pv,lv,cv,h1,aR h2 hB,aR h3 hB,aR h4 hB⟩
theorem yW.mono {m:zX} (h:yW B w row m) (hB:B'<=B):yW B' w row m:=by
 obtain ⟨pv,h1,h2⟩:=h;exact ⟨pv,h1,aR h2 hB⟩
theorem mA {e:Nat} {v:Z} {xs:List Z} (h:w.ownsRow B e sz v n xs) (hn:0 < n):∃ g cap,v=.slice (some ⟨g,0,none⟩) n cap:=by
 rcases h.2 with ⟨_,h0⟩|⟨g,cap,cur,e,_⟩
 ·omega
 ·exact ⟨g,cap,e⟩
theorem BO {p:cQ} {i:bE} (h:iQ w p i) (hi:i.right):aD prog 78 #[p.val i] w λr w'=>∃ p':cQ,r=p'.val i/\pO w.heap.size w' p' i/\aG w w':=by
 obtain ⟨⟨fk,fl⟩,⟨iml,imr⟩,⟨⟨_,mtl⟩,mtr,_⟩,exl,_⟩:=hi;apply aRz;suffices key:∀ R:Z->O->Prop,(∀ p' w',pO w.heap.size w' p' i->aG w w'->R (p'.val i) w')->DW (p.val i) w R from key _ λp' w' h1 h2=>⟨p',rfl,h1,h2⟩;intro R hR;unfold DW;refine uN λw1 hb1 x1=>?_;refine MO iN λw2 hz2 x2=>?_;have hb1:bA w1 w.heap.size [.string i.name,p.fv,p.iv,p.mv,p.xv] 46:=hb1;have hb2:=hb1.ext x2;have s1:=x1.size;have s2:=x2.size;have l1:=hb1.lt;have l2:=hz2.lt;have x02:=x1.trans x2;generalize hb:w.heap.size=b at *;generalize hc:w1.heap.size=c at *;have D2:aG w2 w2.drew:=(aG.refl _).drew;refine aI.mk' (λw'=>aG w2 w') D2 ?_;refine dS (λw' hw=>(hb2.ext hw).boxed) iI bB rfl ?_;refine dS (λw' hw=>(hb2.ext hw).boxed) iH bB rfl ?_;refine (pM (h.fl.ext (x02.trans D2)) (by omega)).mono λfv4 w4 ⟨of4,x4⟩=>?_;have x24:=D2.trans x4;refine ⟨x24,?_⟩;refine aB.ok (λw' _=>SP) ?_;refine (pM (h.ex.ext (x02.trans x24)) (by omega)).mono λxv5 w5 ⟨ox5,x5⟩=>?_;have x25:=x24.trans x5;refine ⟨x25,?_⟩;have hb5:=hb2.ext x25;have of5:=x5.own of4;have s4:=x4.size;have s5:=x5.size;have sD:=D2.size;refine tM iV hb5 rfl (by simp) (bR of5) ?_;have hb6:=hb5.set 1 fv4;have f6:Fr (λi=>i=b) w5 (w5.setCell ⟨b,1,none⟩ fv4):=Fr.of_set rfl;generalize w5.setCell ⟨b,1,none⟩ fv4=w6 at hb6 f6 ⊢
 refine ⟨(λw'=>w'=w6),rfl,?_⟩;refine aB.ok (λw' _=>SM) ?_;refine tM iV hb6 rfl (by simp) (bR ox5) ?_;have hb7:=hb6.set 4 xv5;have f7:Fr (λi=>i=b) w5 (w6.setCell ⟨b,4,none⟩ xv5):=f6.set rfl;generalize w6.setCell ⟨b,4,none⟩ xv5=w7 at hb7 f7 ⊢;have hb7:bA w7 b [.string i.name,fv4,p.iv,p.mv,xv5] 46:=hb7;have of7:=f7.own of5 λk hk he=>by have:=(of5.lt k hk).1;omega
 have ox7:=f7.own ox5 λk hk he=>by have:=(ox5.lt k hk).1;omega
 have x07:aG w w7:=f7.ext (x02.trans x25) λk hk=>by omega
 have hz7:=f7.blk (hz2.ext x25) (by omega);have s7:=f7.size;clear hb6 f6 f7 hb5 of5 ox5 of4 hb2 hz2;have D7:aG w7 w7.drew:=(aG.refl _).drew;obtain ⟨ci,hci,hri⟩:=h.im;obtain ⟨cm,hcm,hrm⟩:=h.mt;have hri':MP (rO w) 4 ci i.imports:=λk x hx=>by obtain ⟨row,e,hrow⟩:=hri k x hx;rw [e];exact hrow
 have hrm':MP (jR w) 4 cm i.methods:=λk x hx=>by obtain ⟨row,e,hrow⟩:=hrm k x hx;rw [e];exact hrow
 refine aI.mk' (λw'=>aG w7 w') D7 ?_;refine dS (λw' hw=>(hb7.ext hw).boxed) cS kE rfl ?_;refine dS (λw' hw=>(hb7.ext hw).boxed) bP gM rfl ?_;refine (TN (hci.ext (x07.trans D7)) (ES hci.1 (by decide) hri' λrow x hx=>hx.one) (by omega)).mono λiv8 w8 ⟨oi8,x8⟩=>?_;have x78:=D7.trans x8;refine ⟨x78,?_⟩;refine aB.ok (λw' _=>SO) ?_;refine (TO (hcm.ext ((x07.trans D7).trans x8)) (ES hcm.1 (by decide) hrm' λrow x hx=>hx.one) (by omega)).mono λmv9 w9 ⟨om9,x9⟩=>?_;have x79:=x78.trans x9;refine ⟨x79,?_⟩;have hb9:=hb7.ext x79;have oi9:=x9.own oi8;have sD7:=D7.size;have s8:=x8.size;have s9:=x9.size;refine tM GG hb9 rfl (by simp) (bR oi9) ?_;have hb10:=hb9.set 2 iv8;have f10:Fr (λi=>i=b) w9 (w9.setCell ⟨b,2,none⟩ iv8):=Fr.of_set rfl;generalize w9.setCell ⟨b,2,none⟩ iv8=w10 at hb10 f10 ⊢;refine ⟨(λw'=>w'=w10),rfl,?_⟩;refine aB.ok (λw' _=>SN) ?_;refine tM GF hb10 rfl (by simp) (bR om9) ?_;have hb11:=hb10.set 3 mv9;have f11:Fr (λi=>i=b) w9 (w10.setCell ⟨b,3,none⟩ mv9):=f10.set rfl;generalize w10.setCell ⟨b,3,none⟩ mv9=w11 at hb11 f11 ⊢;have hb11:bA w11 b [.string i.name,fv4,iv8,mv9,xv5] 46:=hb11;have oi11:=f11.own oi9 λk hk he=>by have:=(oi9.lt k hk).1;omega
 have om11:=f11.own om9 λk hk he=>by have:=(om9.lt k hk).1;omega
 have x011:aG w w11:=f11.ext (x07.trans x79) λk hk=>by omega
 have of11:=f11.own (x79.own of7) λk hk he=>by have:=(of7.lt k hk).1;omega
 have ox11:=f11.own (x79.own ox7) λk hk he=>by have:=(ox7.lt k hk).1;omega
 have hz11:=f11.blk (hz7.ext x79) (by omega);have s11:=f11.size;have li:∀ k,iv8.ownBlock=some k->c < k/\k < w11.heap.size:=λk hk=>by have:=(oi8.lt k hk).1;have:=(oi11.lt k hk).2;omega
 have lm:∀ k,mv9.ownBlock=some k->c < k/\k < w11.heap.size:=λk hk=>by have:=(om9.lt k hk).1;have:=(om11.lt k hk).2;omega
 have hne:∀ k,iv8.ownBlock=some k->mv9.ownBlock≠some k:=λk hk hm=>by have:=(om9.lt k hm).1;have:=(oi8.lt k hk).2;omega
 have hfi:∀ k,fv4.ownBlock=some k->c < k/\iv8.ownBlock≠some k/\mv9.ownBlock≠some k:=λk hk=>by
  have a1:=of7.lt k hk;exact ⟨by omega,λhe=>by have:=(oi8.lt k he).1;omega,λhe=>by have:=(om9.lt k he).1;omega⟩
 have hxi:∀ k,xv5.ownBlock=some k->c < k/\iv8.ownBlock≠some k/\mv9.ownBlock≠some k:=λk hk=>by
  have a1:=ox7.lt k hk;exact ⟨by omega,λhe=>by have:=(oi8.lt k he).1;omega,λhe=>by have:=(om9.lt k he).1;omega⟩
 clear oi9 om9 hb9 hb10 f10 f11 hb7 hz7 of7 ox7 oi8 x78 x79 x8 x9;refine bC hb11.boxed cS kE rfl (gL mN (aC.of_own oi11) ?_);have oib:=aR oi11 (show 0<=_ from Nat.zero_le _);have omb:=aR om11 (show 0<=_ from Nat.zero_le _)
 refine ⟨λv w'=>∃ (j:Nat) (cs:List Z),v=i64 j/\j<=i.imports.length/\Fr (λk=>iv8.ownBlock=some k) w11 w'/\w'.ownsRow 0 180 4 iv8 i.imports.length cs/\aVm (rO w) (yW w11.heap.size w') j 4 cs i.imports,
  λv _=>i.imports.length - (RowKit.intOf v).toNat,⟨0,ci,rfl,Nat.zero_le _,Fr.refl _ _,oib,λk x hx=>⟨λhk=>absurd hk (Nat.not_lt_zero _),λ_=>hri' k x hx⟩⟩,?_⟩
 rintro _ wa ⟨j,cs,rfl,hj,fa,oa,ra⟩ _;have hba:=fa.blk hb11 λhe=>by have:=li b he;omega
 have x0a:aG w wa:=fa.ext x011 λk hk=>by have:=li k hk;omega
 refine aV.2 (aL (λhlt=>?_) λhge=>?_)
 ·have hj':j < i.imports.length:=by omega
  obtain ⟨g,cap,hg⟩:=mA oa (by omega);obtain ⟨x,hx⟩:=bK hj';obtain ⟨pv,hrow,hpv⟩:=(ra j x hx).2 (Nat.le_refl _);have Da:aG wa wa.drew:=(aG.refl _).drew;have hlx:=(imr x (List.mem_of_getElem? hx)).2.1.2
  have hcell:∀ (o:Nat) u,o < 4->[Value.string x.name,i64 x.exp,pv,i64 x.result][o]?=some u->cs[j*4+o]?=some u:=λo u ho hu=>by
   rw [<- hrow,List.getElem?_take,if_pos ho,List.getElem?_drop] at hu;exact hu
  subst hg;refine aI.mk' (λw'=>aG wa w') Da ?_;refine dS (λw' hw=>(hba.ext hw).boxed) cS kE rfl ?_;refine dS (λw' hw=>(hba.ext hw).boxed) cS kE rfl ?_;refine aB.ok (λw' _=>NU (by omega) (by omega)) ?_;refine aB.ok (λw' _=>xK) ?_;refine aB.ok (λw' hw=>CP (v:=pv) ?_) ?_
  ·have:=(hw.own oa).cells (g:=g) rfl (j*4+2) pv (hcell 2 pv (by decide) rfl);rw [fR] at this;rw [Int.toNat_natCast];simpa [Nat.add_assoc] using this
  refine (pM (hpv.ext (x0a.trans Da)) (by omega)).mono λpv2 wb ⟨ob,xb⟩=>?_;have xab:=Da.trans xb;refine ⟨xab,?_⟩;refine aB.ok (λw' _=>NU (by omega) (by omega)) ?_;refine aB.ok (λw' _=>xK) ?_;rw [Int.toNat_natCast];have hsa:=fa.size;have hsD:=Da.size;refine RY underlying43 mY cL iV (xab.own oa) hj' (by decide) (bR ob) λwc _ oc fc=>?_;refine nO (by omega) ?_;have hgl:=li g rfl;refine ⟨⟨j+1,_,rfl,by omega,(fa.trans (Fr.of_ext (S:=λ_=>False) xab) λ_ _ h=>h.elim).trans (fc.mono λk hk=>by show Value.ownBlock _=_;rw [hk];rfl) λ_ _ h=>h,oc,λk y hy=>?_⟩,by simp only [aU];omega⟩
  have hr4:=wA (q:=j) (o:=2) (v:=pv2) (show (cs.drop (k*4)).take 4=(cs.drop (k*4)).take 4 from rfl) (by
   have hkl:=(List.getElem?_eq_some_iff.1 hy).1;have:=oa.1;rw [List.length_take,List.length_drop];omega) (by decide)
  by_cases hkj:k=j
  ·subst hkj;rw [hx] at hy;cases hy;refine ⟨λ_=>?_,λhh=>by omega⟩;rw [hr4,if_pos rfl,hrow];exact ⟨pv2,rfl,aR (fc.own ob λq hq he=>by have:=(ob.lt q hq).1;omega) (by omega)⟩
  ·rw [hr4,if_neg hkj];refine ⟨λhh=>?_,λhh=>(ra k y hy).2 (by omega)⟩;exact (((ra k y hy).1 (by omega)).fr (Fr.of_ext (S:=λ_=>False) xab) λ_ _ h=>h.elim).fr fc λq hq he=>by omega
 have hjn:j=i.imports.length:=by omega
 have ra:MP (yW w11.heap.size wa) 4 cs i.imports:=λk x hx=>(ra k x hx).1 (by have:=(List.getElem?_eq_some_iff.1 hx).1;omega);have oma:=fa.own omb λk hk he=>hne k he hk;have hsa:=fa.size;refine bC hba.boxed bP gM rfl (gL iT (aC.of_own oma) ?_)
 refine ⟨λv w'=>∃ (j:Nat) (cs:List Z),v=i64 j/\j<=i.methods.length/\Fr (λk=>mv9.ownBlock=some k) wa w'/\w'.ownsRow 0 74 4 mv9 i.methods.length cs/\aVm (jR w) (yV wa.heap.size w') j 4 cs i.methods,
  λv _=>i.methods.length - (RowKit.intOf v).toNat,⟨0,cm,rfl,Nat.zero_le _,Fr.refl _ _,oma,λk x hx=>⟨λhk=>absurd hk (Nat.not_lt_zero _),λ_=>hrm' k x hx⟩⟩,?_⟩
 rintro _ wd ⟨jm,cs2,rfl,hjm,fd,od,rd⟩ _;have hbd:=fd.blk hba λhe=>by have:=lm b he;omega
 have x0d:aG w wd:=fd.ext x0a λk hk=>by have:=lm k hk;omega
 refine aV.2 (aL (λhlt=>?_) λhge=>?_)
 ·have hj':jm < i.methods.length:=by omega
  obtain ⟨g,cap,hg⟩:=mA od (by omega);obtain ⟨x,hx⟩:=bK hj';obtain ⟨pv,lv,cv,hrow,hpv,hlv,hcv⟩:=(rd jm x hx).2 (Nat.le_refl _);have hmr:=mtr x (List.mem_of_getElem? hx);obtain ⟨⟨_,hp1⟩,_,⟨_,hp2⟩,⟨_,hp3⟩,_⟩:=hmr
  have hcell:∀ (o:Nat) u,o < 4->[pv,i64 x.result,lv,cv][o]?=some u->cs2[jm*4+o]?=some u:=λo u ho hu=>by
   rw [<- hrow,List.getElem?_take,if_pos ho,List.getElem?_drop] at hu;exact hu
  subst hg;have hgl:=lm g rfl;refine bC hbd.boxed bP gM rfl ?_;refine V.ok (aEe (by omega) (by omega)) ?_;rw [Int.toNat_natCast];have Dd:aG wd wd.drew:=(aG.refl _).drew
  have hld:∀ (o:Nat) u,o < 4->[pv,i64 x.result,lv,cv][o]?=some u->∀ w',aG wd w'->w'.cell? ⟨g,0+jm*4+o,none⟩=some u:=λo u ho hu w' hw=>by
   have:=(hw.own od).cells (g:=g) rfl (jm*4+o) u (hcell o u ho hu);rw [fR] at this;simpa [Nat.add_assoc] using this
  refine aI.mk' (λw'=>aG wd w') Dd ⟨.inl ⟨_,rfl⟩,?_⟩;refine aB.ok (λw' _=>AV) ?_;refine aB.ok (λw' hw=>CP (hld 0 pv (by decide) rfl w' hw)) ⟨.inl ⟨_,rfl⟩,?_⟩;refine aB.ok (λw' _=>AU) ?_;refine aB.ok (λw' hw=>CP (hld 2 lv (by decide) rfl w' hw)) ⟨.inl ⟨_,rfl⟩,?_⟩;refine aB.ok (λw' _=>AR) ?_;refine aB.ok (λw' hw=>aEd (hld 3 cv (by decide) rfl w' hw)) ?_;refine (pM (hpv.ext (x0d.trans Dd)) (by omega)).mono λpv2 w21 ⟨op21,x21⟩=>?_;have e21:=Dd.trans x21;refine ⟨e21,?_⟩;refine (pM (hlv.ext (x0d.trans e21)) (by omega)).mono λlv2 w22 ⟨ol22,x22⟩=>?_;have e22:=e21.trans x22;refine ⟨e22,?_⟩;refine (TP (hcv.ext (x0d.trans e22)) (by omega)).mono λcv2 w23 ⟨oc23,x23⟩=>?_;have e23:=e22.trans x23;refine ⟨e23,.inl ⟨_,rfl⟩,?_⟩;have hsd:=fd.size;have hsD:=Dd.size;have hs21:=x21.size;have hs22:=x22.size;have hs23:=x23.size;refine aB.ok (λw' _=>AV) ?_;refine RY (o:=0) underlying44 lR fN iV (e23.own od) hj' (by decide) (bR op21) λwc1 _ oc1 fc1=>?_;refine ⟨(λ_=>True),trivial,.inl ⟨_,rfl⟩,?_⟩;refine aB.ok (λw' _=>AU) ?_;refine RY (o:=2) underlying44 lR oL iV oc1 hj' (by decide) (bR ol22) λwc2 _ oc2 fc2=>?_;refine ⟨(λ_=>True),trivial,.inl ⟨_,rfl⟩,?_⟩;refine aB.ok (λw' _=>AR) ?_;refine RY (o:=3) underlying44 lR gJ uC oc2 hj' (by decide) (bR oc23) λwc3 _ oc3 fc3=>?_
  refine nO (by omega) ?_;have fc:Fr (λk=>k=g) w23 wc3:=(fc1.trans fc2 λ_ _ h=>h).trans fc3 λ_ _ h=>h;have fdc:Fr (λk=>(Value.slice (some ⟨g,0,none⟩) i.methods.length cap).ownBlock=some k) wa wc3:=(fd.trans (Fr.of_ext (S:=λ_=>False) e23) λ_ _ h=>h.elim).trans (fc.mono λk hk=>by show Value.ownBlock _=_;rw [hk];rfl) λ_ _ h=>h;refine ⟨⟨jm+1,_,rfl,by omega,fdc,oc3,λk y hy=>?_⟩,by simp only [aU];omega⟩;have hkl:=(List.getElem?_eq_some_iff.1 hy).1;have hl0:=od.1;have hr1:=wA (q:=jm) (o:=0) (v:=pv2) (show (cs2.drop (k*4)).take 4=(cs2.drop (k*4)).take 4 from rfl) (by rw [List.length_take,List.length_drop];omega) (by decide);have hr2:=wA (q:=jm) (o:=2) (v:=lv2) (show ((cs2.set (jm*4+0) pv2).drop (k*4)).take 4=((cs2.set (jm*4+0) pv2).drop (k*4)).take 4 from rfl) (by rw [List.length_take,List.length_drop,List.length_set];omega) (by decide);have hr3:=wA (q:=jm) (o:=3) (v:=cv2) (show (((cs2.set (jm*4+0) pv2).set (jm*4+2) lv2).drop (k*4)).take 4=(((cs2.set (jm*4+0) pv2).set (jm*4+2) lv2).drop (k*4)).take 4 from rfl) (by rw [List.length_take,List.length_drop,List.length_set,List.length_set];omega) (by decide);by_cases hkj:k=jm
  ·subst hkj;rw [hx] at hy;cases hy;refine ⟨λ_=>?_,λhh=>by omega⟩;rw [hr3,if_pos rfl,hr2,if_pos rfl,hr1,if_pos rfl,hrow];refine ⟨pv2,lv2,cv2,rfl,aR (fc.own (x23.own (x22.own op21)) λq hq he=>by have:=(op21.lt q hq).1;omega) (by omega),aR (fc.own (x23.own ol22) λq hq he=>by have:=(ol22.lt q hq).1;omega) (by omega),aR (fc.own oc23 λq hq he=>by have:=(oc23.lt q hq).1;omega) (by omega)⟩
  ·rw [hr3,if_neg hkj,hr2,if_neg hkj,hr1,if_neg hkj];refine ⟨λhh=>?_,λhh=>(rd k y hy).2 (by omega)⟩;exact (((rd k y hy).1 (by omega)).fr (Fr.of_ext (S:=λ_=>False) e23) λ_ _ h=>h.elim).fr fc λq hq he=>by omega
 have hjn2:jm=i.methods.length:=by omega
 have rd:MP (yV wa.heap.size wd) 4 cs2 i.methods:=λk x hx=>(rd k x hx).1 (by have:=(List.getElem?_eq_some_iff.1 hx).1;omega);refine qL hbd.boxed kZ rfl ?_;have hzd:=fd.blk (fa.blk hz11 λhe=>by have:=li c he;omega) λhe=>by have:=lm c he;omega
 have ofd:=fd.own (fa.own of11 λk hk=>(hfi k hk).2.1) λk hk=>(hfi k hk).2.2;have oxd:=fd.own (fa.own ox11 λk hk=>(hxi k hk).2.1) λk hk=>(hxi k hk).2.2;have oid:=fd.own oa λk hk=>hne k hk;refine EV iN hzd (l:=[.string i.name,fv4,iv8,mv9,xv5]) rfl rfl rfl (by simp [bR ofd,bR oid,bR od,bR oxd];rfl) λw9 h9 hch=>?_;have f9:=mZ hch;refine ⟨_,sH underlying46 rfl iN h9 rfl,⟨_,rfl⟩,?_⟩
 have up:∀ {B e sz n:Nat} {v:Z} {xs:List Z},wd.ownsRow B e sz v n xs->(∀ k,v.ownBlock=some k->c < k)->w9.ownsRow b e sz v n xs:=λ{B e sz n v xs} ho hk=>by
  have h1:=f9.own ho λk hk' he=>by have:=hk k hk';omega
  refine ⟨h1.1,?_⟩;rcases h1.2 with h2|⟨g,cap,cur,rfl,_,rest⟩
  ·exact .inl h2
  ·exact .inr ⟨g,cap,cur,rfl,by have:=hk g rfl;omega,rest⟩
 have hsd:=fd.size;have f9':∀ B,w11.heap.size<=B->∀ q,B<=q->¬ q=c:=λB hB q hq he=>by omega
 refine hR ⟨fv4,iv8,mv9,xv5⟩ w9 ⟨up ofd λk hk=>(hfi k hk).1,up oxd λk hk=>(hxi k hk).1,⟨cs,up oid λk hk=>(li k hk).1,λk x hx=>?_⟩,⟨cs2,up od λk hk=>(lm k hk).1,λk x hx=>?_⟩⟩ ?_
 ·exact (((ra k x hx).fr fd λq hq he=>by have:=lm q he;omega).fr f9 (f9' _ (Nat.le_refl _))).mono (by omega)
 ·exact ((rd k x hx).fr f9 (f9' _ hsa)).mono (by omega)
 ·exact f9.ext x0d λk hk=>by omega
end Go.Proofs.YtgkkecladbmjkaaGreatDoor
namespace Go.Proofs.YtgkkecladbmjkaaGreatDoor
open Tryz
open Go.Vc Go.Tc
variable {w w':O} {K:Z->O->Prop}
theorem pO.mono {B B':Nat} {p:cQ} {i:bE} (h:pO B w p i) (hB:B'<=B):pO B' w p i:=by
 obtain ⟨h1,h2,⟨c1,h3,h4⟩,c2,h5,h6⟩:=h;exact ⟨aR h1 hB,aR h2 hB,⟨c1,aR h3 hB,λk x hx=>(h4 k x hx).mono hB⟩,c2,aR h5 hB,λk x hx=>(h6 k x hx).mono hB⟩
theorem pO.one {B:Nat} {p:cQ} {i:bE} (h:pO B w p i):(p.cells i).all cB=true:=by
 obtain ⟨h1,h2,⟨c1,h3,_⟩,c2,h5,_⟩:=h;simp [cQ.cells,bR h1,bR h2,bR h3,bR h5];rfl
theorem BL (w:O) (row:List Z) (m:bE) (h:yX w row m):row.length=5:=h.len
theorem iD {l:List bE} {k:Nat} (hk:k < l.length):l[k]?=some (aP l k):=by
 unfold aP;rw [List.getD_eq_getElem?_getD,List.getElem?_eq_getElem hk];rfl
section
variable {rb:Nat} {hv iv fv pub sec:Z} {l:List bE}
theorem yE (hr:lV w rb 0 [hv,iv,fv,pub,sec]) (hi:jS w iv l) (hT:oE l) {k:Nat} (hk:k < l.length) :
  aD prog 88 #[.pointer (some ⟨rb,0,none⟩),i64 (k:Int)] w λr w'=>∃ p':cQ,r=.tuple #[p'.val (aP l k),.bool true]/\pO w.heap.size w' p' (aP l k)/\aG w w':=by
 apply aRu;unfold QA;refine MO iN λw1 hz x1=>?_;refine aV.2 ?_;simp only [show ¬ ((k:Int) < 0) by omega,fA,aH,reduceIte,Bool.false_eq_true,decide_false];refine ⟨.inl ⟨_,rfl⟩,?_⟩;refine kU cH jC (hr.ext x1) rfl (AA lO (hi.ext x1) (lT.2 ?_));simp only [show ¬ ((k:Int)>=((l.length:Nat):Int)) by omega,aA,decide_false];refine ⟨.inl ⟨_,rfl⟩,?_⟩;refine kU cH jC (hr.ext x1) rfl ?_;refine ldS (i:=k) lO kZ (hi.ext x1) (iD hk) BL λrow hrow=>?_;obtain ⟨p,hp,hA⟩:=hrow;subst hp;refine (BO hA (hT _ (fT hk)).1).mono λr w2 ⟨p2,hr2,hO,x2⟩=>?_;subst hr2;have hzl:=hz.lt;have hO:=hO.mono (B':=w1.heap.size) (Nat.le_refl _);refine EV iN (hz.ext x2) (l:=p2.cells (aP l k)) rfl rfl rfl hO.one λw3 h3 hch=>?_;have f3:=mZ hch;refine ⟨_,sH underlying46 rfl iN h3 rfl,⟨_,rfl⟩,p2,rfl,?_,?_⟩
 ·exact (hO.fr f3 λi hi he=>by omega).mono (by omega)
 ·exact f3.ext (x1.trans x2) λi hi=>by omega
theorem aFl (hi:jS w iv l) {name:ByteArray} (hl:l.length<=1000):aD prog 182 #[iv,.string name] w λr w'=>r=i64 (match rH l name with|some t=>(t:Int)|none=>-1)/\aG w w':=by
 apply aJv;unfold IA;refine bx λb w1 hb x1=>?_;refine fnK ?_;apply aJd;suffices key:∀ R:Z->O->Prop,(∀ w',aG w w'->R (i64 (match rH l name with|some t=>(t:Int)|none=>-1)) w')->zC iv _ w1 R from key _ λw' hx=>⟨rfl,hx⟩;intro R hR;unfold zC;refine AA lO (hi.ext x1) ?_;refine ⟨λv w'=>∃ j:Nat,v=i64 j/\j<=l.length/\aG w1 w'/\∀ k,k < j->((aP l k).name.toList == name.toList)=false,λv _=>l.length - (RowKit.intOf v).toNat,⟨0,rfl,Nat.zero_le _,aG.refl _,λk hk=>absurd hk (Nat.not_lt_zero _)⟩,?_⟩;rintro _ w2 ⟨j,rfl,hj,x2,hno⟩ _;refine aV.2 (aL (λhlt=>?_) λhge=>?_)
 ·have hj':j < l.length:=by omega
  refine ldS (i:=j) lO kZ ((hi.ext x1).ext x2) (iD hj') BL λrow hrow=>?_;obtain ⟨p,hp,hA⟩:=hrow;subst hp;refine ⟨⟨_,_,rfl,?_⟩⟩;show aD prog 213 #[.agg (p.cells (aP l j)).toArray,.pointer (some ⟨b,0,none⟩)] w2 _;apply aJc;suffices key:∀ R:Z->O->Prop,(∀ w',aG w2 w'->R (.bool ((aP l j).name.toList == name.toList)) w')->zB (.agg (p.cells (aP l j)).toArray) (.pointer (some ⟨b,0,none⟩)) w2 R from key _ λw3 x3=>?_
  ·cases hc:(aP l j).name.toList == name.toList with
   | true=>
    refine aE.2 ?_
    have e:rH l name=some j:=by
     unfold rH;rw [List.findIdx?_eq_some_iff_getElem];refine ⟨hj',?_,λk hk=>?_⟩
     ·have:=iD hj';rw [List.getElem?_eq_getElem hj'] at this;rw [Option.some.inj this];exact hc
     ·have:=iD (l:=l) (k:=k) (by omega);rw [List.getElem?_eq_getElem (by omega)] at this;rw [Option.some.inj this];have:=hno k hk;simpa using this
    have:=hR w3 ((x1.trans x2).trans x3);rw [e] at this;exact this
   | false=>
    refine aA.2 (bQ.2 ?_);rw [aY (by omega),cG];refine ⟨⟨j+1,rfl,by omega,x2.trans x3,λk hk=>?_⟩,by simp only [aU];omega⟩;by_cases hkj:k=j
    ·subst hkj;exact hc
    ·exact hno k (by omega)
  intro R' hR';unfold zB;refine bx λb2 w3 hb2 x3=>?_;refine bC hb2 kP XG rfl ?_;refine V.ok (aOl (v:=.string name) (((hb.ext x2).ext x3) 0 (.string name) rfl)) ?_;exact V.ok tT (hR' _ x3)
 ·have e:rH l name=none:=by
   unfold rH;rw [List.findIdx?_eq_none_iff];intro x hx;obtain ⟨k,hk⟩:=List.getElem?_of_mem hx;have hkl:=(List.getElem?_eq_some_iff.1 hk).1;have:=iD hkl;rw [hk] at this;rw [Option.some.inj this];exact hno k (by omega)
  have:=hR w2 (x1.trans x2);rw [e] at this;exact this
theorem aQc {av bv:Z} {a b:List Int} (ha:aS w av a) (hb:aS w bv b) (ca:a.length<=1000000) (hk:∀ w',aG w w'->K (.bool (decide (a=b))) w'):aD prog 183 #[av,bv] w K:=by
 apply aJu;unfold HZ;refine gL aK ha (gL aK hb (aX.2 (aL (λhne=>?_) λheq=>?_)))
 ·have:¬ a=b:=λe=>hne (by rw [e]);rw [decide_eq_false this] at hk;exact hk _ (aG.refl _)
 have hl:a.length=b.length:=by omega
 refine gL aK ha ?_;refine ⟨λv w'=>∃ j:Nat,v=i64 j/\j<=a.length/\aG w w'/\a.take j=b.take j,λv _=>a.length - (RowKit.intOf v).toNat,⟨0,rfl,Nat.zero_le _,aG.refl _,rfl⟩,?_⟩;rintro _ w1 ⟨j,rfl,hj,x1,hjs⟩ _;refine aV.2 (aL (λhlt=>?_) λhge=>?_)
 ·obtain ⟨x,hx⟩:=bK (l:=a) (j:=j) (by omega);obtain ⟨y,hy⟩:=bK (l:=b) (j:=j) (by omega);have D1:aG w1 w1.drew:=(aG.refl _).drew;refine aI.mk' (λw'=>aG w1 w') D1 ?_;refine hJ aK aJ (ha.ext x1) (λ_ h=>h) (by omega) (by omega) (fM hx) ?_;refine hJ aK aJ (hb.ext x1) (λ_ h=>h) (by omega) (by omega) (fM hy) ?_;refine aB.ok (λw' _=>oS) (aL (λhne=>?_) λheq=>?_)
  ·have:¬ a=b:=λe=>hne (by subst e;rw [hx] at hy;cases hy;rfl);rw [decide_eq_false this] at hk;exact hk _ (x1.trans D1)
  ·have:x=y:=by simpa using heq
   subst this;refine nO (by omega) ?_;exact ⟨⟨j+1,rfl,by omega,x1.trans D1,by rw [List.take_add_one,List.take_add_one,hx,hy,hjs]⟩,by simp only [aU];omega⟩
 ·have hjl:j=a.length:=by omega
  subst hjl
  have:a=b:=by
   rw [List.take_length,hl,List.take_length] at hjs;exact hjs
  rw [decide_eq_true this] at hk;exact hk _ x1
theorem aTp {S:O->Prop} {L:Z->Prop} {t s f o ft sz n:Nat} {v:Z} {cs:List Z} (h:XA prog t sz) (hf:FA prog s f o) (hl:L1 prog ft) (hs0:aC w v sz n cs) (hx:∀ w',S w'->aG w w') {i:Nat} (hi:i < n) {u:Z} (hu:cs[i*sz+o]?=some u) (hk:L u) :
  aB prog S (Instr.indexAt t v (i64 i)) λp=>aB prog S (Instr.fieldAt s p f) λq=>aB prog S (Instr.loadAt ft q) L:=by
 obtain ⟨e,z,b',hte,hinf⟩:=h;obtain ⟨d,hd,ha⟩:=hl;obtain ⟨b,off,cap,rfl,hc⟩:=hs0.there (by omega);refine aB.ok (λw' _=>eW hte hinf (by omega) (by omega)) (aB.ok (λw' _=>hf.ex w' _ _) (aB.ok (λw' hw=>iX hd ha ?_) hk));have:=(hx w' hw).cell (hc (i*sz+o) u hu);rw [Int.toNat_natCast,Nat.add_assoc];exact this
theorem VJ {cs row:List Z} {k sz o:Nat} {u:Z} (h:(cs.drop (k*sz)).take sz=row) (ho:o < sz) (hu:row[o]?=some u):cs[k*sz+o]?=some u:=by
 rw [<- h,List.getElem?_take,if_pos ho,List.getElem?_drop] at hu;exact hu
theorem CO (hi:jS w iv l) (hT:oE l) (hl:l.length<=1000) {who:Nat} (hw:who < l.length) {k:Nat} (hk:k < (aP l who).imports.length) :
  aD prog 133 #[iv,i64 (who:Int),i64 (k:Int)] w λr w'=>r=(match lC l who k with|some q=>.tuple #[i64 (q.1:Int),i64 (q.2:Int),.bool true]|none=>.tuple #[i64 0,i64 0,.bool false])/\aG w w':=by
 apply aLi;suffices key:∀ R:Z->O->Prop,(∀ r w',r=(match lC l who k with|some q=>.tuple #[i64 (q.1:Int),i64 (q.2:Int),.bool true]|none=>.tuple #[i64 0,i64 0,.bool false])->aG w w'->R r w')->zL iv (i64 (who:Int)) (i64 (k:Int)) w R from key _ λr w' h1 h2=>⟨h1,h2⟩;intro R hR;have hTw:=hT _ (fT hw);have hxr:=hTw.1.2.1.2 _ (bE.imp_mem (i:=aP l who) (k:=(k:Int)) (by omega) (by omega));unfold zL;refine aV.2 ?_;simp only [show ¬ ((who:Int) < 0) by omega,fA,aH,reduceIte,Bool.false_eq_true,decide_false];refine AA lO hi (lT.2 ?_);simp only [show ¬ ((who:Int)>=((l.length:Nat):Int)) by omega,aV,fA,aH,reduceIte,Bool.false_eq_true,decide_false];simp only [show ¬ ((k:Int) < 0) by omega,fA,reduceIte,Bool.false_eq_true,decide_false];refine qB (i:=who) lO cS kE hi (iD hw) λrow ⟨p,hp,hA⟩=>⟨p.iv,by rw [hp];rfl,by decide,?_⟩;refine AA mN hA.im (lT.2 ?_);simp only [show ¬ ((k:Int)>=(((aP l who).imports.length:Nat):Int)) by omega,aA,decide_false];refine qB (i:=who) lO cS kE hi (iD hw) λrow ⟨p,hp,hA⟩=>⟨p.iv,by rw [hp];rfl,by decide,?_⟩
 have himp:(aP l who).imports[k]?=some ((aP l who).imp (k:Int)):=by
  unfold bE.imp;rw [Int.toNat_natCast,List.getD_eq_getElem?_getD,List.getElem?_eq_getElem hk];rfl
 generalize hX:(aP l who).imp (k:Int)=X at *;refine ldS (i:=k) mN LH hA.im himp OP λrow ⟨pv,hrow,hpv⟩=>?_;subst hrow;refine AC VH rfl (rO.one (w:=w) (m:=X) ⟨pv,rfl,hpv⟩) λw1 hb x1=>?_;have hb:bA w1 w.heap.size [.string X.name,i64 X.exp,pv,i64 X.result] 180:=hb;refine bC hb.boxed eJ XG rfl ?_;have hi1:=hi.ext x1;refine (aFl hi1 hl).mono λr w2 ⟨hr,x2⟩=>?_;subst hr;have x02:=x1.trans x2;have hi2:=hi1.ext x2;have hb2:=hb.ext x2;have D2:aG w2 w2.drew:=(aG.refl _).drew;have hres:lC l who k=(rH l X.name).bind λt=>if X.exp < (aP l t).exports.length/\((aP l t).meth ((aP l t).exports.getD X.exp.toNat 0)).params=X.params/\((aP l t).meth ((aP l t).exports.getD X.exp.toNat 0)).result=X.result then some (t,((aP l t).exports.getD X.exp.toNat 0).toNat) else none:=by unfold lC;rw [hX]
 refine aI.mk' (λw'=>aG w2 w') D2 ?_;refine aB.ok (λw' _=>nS) ?_;cases hf:rH l X.name with
 | none=>
  dsimp only;simp only [show ((-1:Int) < 0) by decide,vC,aH,aE,reduceIte,decide_true];exact hR _ _ (by rw [hres,hf];rfl) (x02.trans D2)
 | some t=>
 dsimp only
 have htl:t < l.length:=by
  unfold rH at hf;exact (List.findIdx?_eq_some_iff_findIdx_eq.1 hf).1
 have hTt:=hT _ (fT htl);simp only [show ¬ ((t:Int) < 0) by omega,jW,aH,reduceIte,Bool.false_eq_true,decide_false];refine dS (λw' hw=>(hb2.ext hw).boxed) dF aJ rfl ?_;refine aB.ok (λw' _=>nS) ?_;have hx0:=hxr.1.1;simp only [show ¬ (X.exp < 0) by omega,jW,aH,reduceIte,Bool.false_eq_true,decide_false];refine dS (λw' hw=>(hb2.ext hw).boxed) dF aJ rfl ?_;obtain ⟨cs,hcs,hrows⟩:=hi2;obtain ⟨row,hrow,q,hq,hQ⟩:=hrows t _ (iD htl);subst hq;refine aTp lO iH bB hcs (λw' hw=>hw) htl (VJ (o:=4) hrow (by decide) (u:=q.xv) rfl) ?_;obtain ⟨xa,xc,hxv⟩:=aC.shape hQ.ex
 have hlenx:∀ {S:O->Prop} {L:Z->Prop},L (i64 ((aP l t).exports.length:Nat))->aB prog S (Builtin.len_ #[42] 3 #[q.xv]) L:=λh=>by
  rw [hxv];exact aB.ok (λw' _=>lD underlying42) h
 refine hlenx (aB.ok (λw' _=>xI) ?_);have fail:∀ w',aG w w'->(¬ (X.exp < (aP l t).exports.length/\((aP l t).meth ((aP l t).exports.getD X.exp.toNat 0)).params=X.params/\((aP l t).meth ((aP l t).exports.getD X.exp.toNat 0)).result=X.result))->R (.tuple #[i64 0,i64 0,.bool false]) w':=λw' hx hn=>hR _ _ (by rw [hres,hf];simp only [Option.bind_some];rw [if_neg hn]) hx;by_cases hge:X.exp>=(((aP l t).exports.length:Nat):Int)
 ·simp only [hge,aE,decide_true];exact fail _ (x02.trans D2) λh=>by omega
 simp only [hge,aA,decide_false];have D3:aG w2.drew w2.drew.drew:=(aG.refl _).drew;have D23:=D2.trans D3;refine aI.mk' (λw'=>aG w2 w') D23 ?_;refine aTp lO iH bB hcs (λw' hw=>hw) htl (VJ (o:=4) hrow (by decide) (u:=q.xv) rfl) ?_;refine dS (λw' hw=>(hb2.ext hw).boxed) dF aJ rfl ?_;have hxl:X.exp.toNat < (aP l t).exports.length:=by omega
 generalize hm:(aP l t).exports.getD X.exp.toNat 0=m at *
 have hmm:(aP l t).exports[X.exp.toNat]?=some m:=by
  rw [<- hm,List.getD_eq_getElem?_getD,List.getElem?_eq_getElem hxl];rfl
 have hmr:=hTt.1.2.2.2.2 m (List.mem_of_getElem? hmm);refine hJ aK aJ hQ.ex (λw' hw=>hw) (by omega) (by omega) (fM hmm) ?_;refine aV.2 ?_;simp only [show ¬ (m < 0) by omega,fA,aH,reduceIte,Bool.false_eq_true,decide_false];have hi3:jS w2.drew.drew iv l:=(hi.ext x02).ext D23;have x03:=x02.trans D23;refine qB (i:=t) lO bP gM hi3 (iD htl) λrow ⟨p3,hp3,hA3⟩=>⟨p3.mv,by rw [hp3];rfl,by decide,?_⟩;refine AA iT hA3.mt (lT.2 ?_);simp only [show ¬ (m>=(((aP l t).methods.length:Nat):Int)) by omega,aA,decide_false];refine qB (i:=t) lO bP gM hi3 (iD htl) λrow ⟨p4,hp4,hA4⟩=>⟨p4.mv,by rw [hp4];rfl,by decide,?_⟩;obtain ⟨mn,rfl⟩:∃ n:Nat,m=n:=⟨m.toNat,by omega⟩
 have hmth:(aP l t).methods[mn]?=some ((aP l t).meth (mn:Int)):=by
  unfold bE.meth;rw [Int.toNat_natCast,List.getD_eq_getElem?_getD,List.getElem?_eq_getElem (by omega)];rfl
 have hMr:=hTt.1.2.2.1.2.1 _ (meth_mem (i:=aP l t) (k:=mn) (by omega));generalize hM:(aP l t).meth (mn:Int)=M at *;refine ldS (i:=mn) iT oK hA4.mt hmth tY λrow ⟨mpv,mlv,mcv,hmrow,hmp,hml,hmc⟩=>?_;subst hmrow;refine AC NR rfl (jR.one (w:=w2.drew.drew) (m:=M) ⟨mpv,mlv,mcv,rfl,hmp,hml,hmc⟩) λw5 hb5 x5=>?_;have hb5:bA w5 w2.drew.drew.heap.size [mpv,i64 M.result,mlv,mcv] 74:=hb5;refine bC hb5.boxed fN bB rfl ?_;refine bC ((hb2.ext D23).ext x5).boxed cL bB rfl ?_;have x05:=x03.trans x5;refine aQc (hmp.ext x5) (hpv.ext x05) (by have:=hMr.1.2;omega) λw6 x6=>?_;have x06:=x05.trans x6;refine eU.2 ?_;by_cases he:M.params=X.params
 ·simp only [he,fA,aH,reduceIte,Bool.false_eq_true,Bool.not_true,decide_true];refine bC (hb5.ext x6).boxed iZ aJ rfl ?_;refine bC (((hb2.ext D23).ext x5).ext x6).boxed cX aJ rfl ?_;refine aX.2 ?_;by_cases hr:M.result=X.result
  ·simp only [hr,ne_eq,not_true_eq_false,aA,decide_false];refine hR _ _ ?_ x06;rw [hres,hf];simp only [Option.bind_some];rw [hm,hM,if_pos ⟨by omega,he,hr⟩];simp
  ·simp only [hr,ne_eq,not_false_eq_true,aE,decide_true];exact fail _ x06 λh=>hr h.2.2
 ·simp only [he,jQ,aH,aE,reduceIte,Bool.not_false,decide_false];exact fail _ x06 λh=>he h.2.1
end
end Go.Proofs.YtgkkecladbmjkaaGreatDoor
namespace Go.Proofs.YtgkkecladbmjkaaGreatDoor
open Tryz
open Go.Vc Go.Tc
variable {ar ar':List PA} {a k n who:Int} {x:fS} {s':PS} {K t':List Int} {m:PM} {f:gY} {fd fd':List (List Int)}
def vU (ar:List PA) (k v:Int):Prop:=v=0\/∃ (j:Nat) (x:PA),v=(j:Int)+1/\ar[j]?=some x/\x.label=k
structure EL (ar:List PA) (k a b:Int):Prop where
 eq:k≠2->a=b
 ref:k=3\/k=4->vU ar k a
def iS (ar:List PA):List Int->List Int->List Int->Prop
 | [],[],[]=>True
 | k::K,a::s,b::t=>EL ar k a b/\iS ar K s t
 | _,_,_=>False
theorem iS.nil_:iS ar [] [] []:=trivial
theorem iS.len {ar:List PA}:∀ {K s t:List Int},iS ar K s t->s.length=K.length/\t.length=K.length
 | [],[],[],_=>⟨rfl,rfl⟩
 | k::K,a::s,b::t,h=>by have:=iS.len h.2;simp;omega
 | [],_::_,_,h=>h.elim
 | [],[],_::_,h=>h.elim
 | _::_,[],_,h=>h.elim
 | _::_,_::_,[],h=>h.elim
theorem iS.app {ar:List PA}:∀ {K s t K' s' t':List Int},iS ar K s t->iS ar K' s' t'->iS ar (K++K') (s++s') (t++t')
 | [],[],[],_,_,_,_,h'=>h'
 | _::_,_::_,_::_,_,_,_,h,h'=>⟨h.1,iS.app h.2 h'⟩
 | [],_::_,_,_,_,_,h,_=>h.elim
 | [],[],_::_,_,_,_,h,_=>h.elim
 | _::_,[],_,_,_,_,h,_=>h.elim
 | _::_,_::_,[],_,_,_,h,_=>h.elim
theorem iS.take {ar:List PA}:∀ (n:Nat) {K s t:List Int},iS ar K s t->iS ar (K.take n) (s.take n) (t.take n)
 | 0,_,_,_,_=>by simp [iS]
 | n+1,[],[],[],h=>by simp [iS]
 | n+1,k::K,a::s,b::t,h=>⟨h.1,iS.take n h.2⟩
 | _+1,[],_::_,_,h=>h.elim
 | _+1,[],[],_::_,h=>h.elim
 | _+1,_::_,[],_,h=>h.elim
 | _+1,_::_,_::_,[],h=>h.elim
theorem iS.drop {ar:List PA}:∀ (n:Nat) {K s t:List Int},iS ar K s t->iS ar (K.drop n) (s.drop n) (t.drop n)
 | 0,_,_,_,h=>by simpa using h
 | n+1,[],[],[],h=>by simp [iS]
 | n+1,k::K,a::s,b::t,h=>iS.drop n h.2
 | _+1,[],_::_,_,h=>h.elim
 | _+1,[],[],_::_,h=>h.elim
 | _+1,_::_,[],_,h=>h.elim
 | _+1,_::_,_::_,[],h=>h.elim
theorem iS.nth {ar:List PA}:∀ (n:Nat) {K s t:List Int},iS ar K s t->n < K.length->EL ar (Go.Tc.nth K n) (Go.Tc.nth s n) (Go.Tc.nth t n)
 | 0,k::K,a::s,b::t,h,_=>h.1
 | n+1,k::K,a::s,b::t,h,hn=>iS.nth n h.2 (by simpa using hn)
 | _,[],_,_,_,hn=>by simp at hn
 | _,_::_,[],_,h,_=>h.elim
 | _,_::_,_::_,[],h,_=>h.elim
theorem iS.set {ar:List PA}:∀ (n:Nat) {K s t:List Int} {a b:Int},iS ar K s t->(n < K.length->EL ar (Go.Tc.nth K n) a b)->iS ar K (s.set n a) (t.set n b)
 | 0,k::K,x::s,y::t,_,_,h,hv=>⟨hv (by simp),h.2⟩
 | n+1,k::K,x::s,y::t,_,_,h,hv=>⟨h.1,iS.set n h.2 λhn=>hv (by simpa using hn)⟩
 | _,[],[],[],_,_,_,_=>by simp [iS]
 | _,[],_::_,_,_,_,h,_=>h.elim
 | _,[],[],_::_,_,_,h,_=>h.elim
 | _,_::_,[],_,_,_,h,_=>h.elim
 | _,_::_,_::_,[],_,_,h,_=>h.elim
theorem iS.rep {ar:List PA}:∀ {K:List Int},iS ar K (List.replicate K.length 0) (List.replicate K.length 0)
 | []=>trivial
 | _::_=>⟨⟨λ_=>rfl,λ_=>.inl rfl⟩,iS.rep⟩
theorem EL.up {k' b:Int} (h:EL ar k a b) (hk:mQ k' k=some k'):EL ar k' a b:=by
 unfold mQ at hk;split at hk
 ·rename_i hi
  simp only [Bool.and_eq_true,pK] at hi;simp only [Option.some.injEq,lM] at hk;refine ⟨λhn=>h.eq λh2=>?_,λh3=>by omega⟩;rw [if_pos (.inr h2)] at hk;exact hn hk.symm
 ·split at hk
  ·rename_i hi
   simp only [Bool.and_eq_true,beq_iff_eq] at hi;rw [hi.2];exact h
  ·cases hk
theorem iS.up {ar:List PA}:∀ {K K' s t:List Int},iS ar K s t->lL K' K->iS ar K' s t
 | [],[],_,_,h,_=>h
 | [],_::_,_,_,_,k=>by cases k
 | _::_,[],_,_,_,k=>by cases k
 | k::K,k'::K',a::s,b::t,h,hi=>by
  unfold lL at hi;simp only [hY,Option.bind_eq_some_iff,Option.map_eq_some_iff,List.cons.injEq] at hi;obtain ⟨k1,h1,l1,h2,rfl,rfl⟩:=hi;exact ⟨h.1.up h1,iS.up h.2 h2⟩
 | _::_,_::_,[],_,h,_=>h.elim
 | _::_,_::_,_::_,[],h,_=>h.elim
theorem EL.fit {x y:Int} (h:EL ar k x y) (hk:Kd k) (ha:1<=a/\a<=4) (hd:rI k a=true) (hs:pV k a=false):EL ar a x y:=by
 unfold rI at hd;rw [if_neg (by omega),if_neg (by omega),if_neg (by omega)] at hd;simp only [Bool.or_eq_true,Bool.and_eq_true,pK,beq_iff_eq] at hd;unfold pV at hs;rcases hd with ⟨h1,h2⟩|h1
 ·refine ⟨λhn=>h.eq λhk2=>?_,λh3=>by omega⟩;have:a=1:=by omega
  subst this;subst hk2;simp at hs
 ·subst h1;exact h
theorem iS.fit {ar:List PA}:∀ {K A s t:List Int},iS ar K s t->kR K->kR A->A.length=K.length->dH A K=true->bZ A K=false->iS ar A s t
 | [],[],_,_,h,_,_,_,_,_=>h
 | [],_::_,_,_,_,_,_,hl,_,_=>by simp at hl
 | _::_,[],_,_,_,_,_,hl,_,_=>by simp at hl
 | k::K,a::A,x::s,y::t,h,hK,hA,hl,hd,hs=>by
  simp only [dH,Bool.and_eq_true] at hd;simp only [bZ,Bool.or_eq_false_iff] at hs;exact ⟨h.1.fit hK.hd.1 hA.hd.1 hd.1 hs.1,iS.fit h.2 hK.hd.2 hA.hd.2 (by simpa using hl) hd.2 hs.2⟩
 | _::_,_::_,[],_,h,_,_,_,_,_=>h.elim
 | _::_,_::_,_::_,[],h,_,_,_,_,_=>h.elim
structure LoA (x y:PA):Prop where
 owner:y.owner=x.owner
 label:y.label=x.label
 life:y.life=x.life
 share:y.share=x.share
 len:y.data.length=x.data.length
 pub:x.label=3->y.data=x.data
structure vF (ar ar':List PA):Prop where
 len:ar'.length=ar.length
 row:∀ (j:Nat) x y,ar[j]?=some x->ar'[j]?=some y->LoA x y
def mE (ar ar':List PA):Prop:=∀ (j:Nat) x,ar[j]?=some x->∃ y,ar'[j]?=some y/\y.label=x.label
theorem mE.refl (ar:List PA):mE ar ar:=λ_ x h=>⟨x,h,rfl⟩
theorem vU.grow {v:Int} (h:vU ar k v) (g:mE ar ar'):vU ar' k v:=by
 rcases h with h|⟨j,x,h1,h2,h3⟩
 ·exact .inl h
 ·obtain ⟨y,hy,hl⟩:=g j x h2;exact .inr ⟨j,y,h1,hy,hl.trans h3⟩
theorem EL.grow {ar ar':List PA} {k a b:Int} (h:EL ar k a b) (g:mE ar ar'):EL ar' k a b:=⟨h.eq,λhk=>(h.ref hk).grow g⟩
theorem iS.grow {ar ar':List PA} (g:mE ar ar'):∀ {K s t:List Int},iS ar K s t->iS ar' K s t
 | [],[],[],_=>trivial
 | _::_,_::_,_::_,h=>⟨h.1.grow g,iS.grow g h.2⟩
 | [],_::_,_,h=>h.elim
 | [],[],_::_,h=>h.elim
 | _::_,[],_,h=>h.elim
 | _::_,_::_,[],h=>h.elim
structure LoP (s s':PS):Prop where
 size:s'.size=s.size
 ar:vF s.ar s'.ar
 tp:s'.tp=s.tp
 ts:s'.ts.length=s.ts.length
 tr:s'.tr=s.tr
theorem vF.get (h:vF ar ar') {j:Nat} {x:PA} (hx:ar[j]?=some x):∃ y,ar'[j]?=some y/\LoA x y:=by
 have hj:=(List.getElem?_eq_some_iff.1 hx).1;have:j < ar'.length:=by have:=h.len;omega
 exact ⟨ar'[j],List.getElem?_eq_getElem this,h.row j x _ hx (List.getElem?_eq_getElem this)⟩
theorem vF.none {ar ar':List PA} (h:vF ar ar') {j:Nat} (hx:ar[j]?=none):ar'[j]?=none:=by
 rw [List.getElem?_eq_none_iff] at *;have:=h.len;omega
theorem OZ (h:vF ar ar') (r who:Int):qF ar' r who=qF ar r who:=by
 unfold qF;rw [h.len];split
 ·cases e:ar[r.toNat - 1]? with
  | none=>rw [h.none e]
  | some x=>
   obtain ⟨y,hy,hl⟩:=h.get e;rw [hy];dsimp only;unfold aUw;rw [hl.owner,hl.share]
 ·rfl
theorem tS (h:vF ar ar') (r a n who:Int):fU ar' r a n who=fU ar r a n who:=by
 unfold fU;rw [OZ h];split
 ·cases e:ar[r.toNat - 1]? with
  | none=>rw [h.none e]
  | some x=>
   obtain ⟨y,hy,hl⟩:=h.get e;rw [hy];dsimp only;rw [hl.len]
 ·rfl
theorem vE {r:Int} (h:qF ar r who=36864):1<=r/\∃ x,ar[r.toNat - 1]?=some x:=by
 unfold qF at h;split at h
 ·rename_i hr
  refine ⟨hr.1,?_⟩;cases e:ar[r.toNat - 1]? with
  | none=>rw [e] at h;cases h
  | some x=>exact ⟨x,rfl⟩
 ·cases h
theorem nB {r:Int} (h:fU ar r a n who=36864):qF ar r who=36864/\∀ x,ar[r.toNat - 1]?=some x->0<=a/\0<=n/\a<=x.data.length/\n<=x.data.length - a:=by
 unfold fU at h;split at h
 ·rename_i hc
  refine ⟨hc,λx hx=>?_⟩;rw [hx] at h;dsimp only at h;split at h
  ·cases h
  ·omega
 ·rename_i hc;exact absurd h hc
theorem yM (h:vF ar ar') (r:Int):(iR ar' r).length=(iR ar r).length:=by
 unfold iR;cases e:ar[r.toNat - 1]? with
 | none=>rw [h.none e]
 | some x=>
  obtain ⟨y,hy,hl⟩:=h.get e;rw [hy];exact hl.len
theorem qE (h:vF ar ar') {r:Int} (hr:vU ar k r) (hc:qF ar r who=36864) (hk:k=3):iR ar' r=iR ar r:=by
 obtain ⟨h1,x,hx⟩:=vE hc;obtain ⟨y,hy,hl⟩:=h.get hx;rcases hr with h0|⟨j,z,hj,hz,hlab⟩
 ·omega
 ·have e:r.toNat - 1=j:=by omega
  rw [e] at hx hy;rw [hz] at hx;cases hx;unfold iR;rw [e,hy,hz];exact hl.pub (hlab.trans hk)
theorem NQ (h:vF ar ar') {r:Int} {d d':List Int} (hl:d'.length=d.length) (hp:∀ x,ar[r.toNat - 1]?=some x->x.label=3->d'=d):vF (vV ar r d) (vV ar' r d')/\mE ar (vV ar r d):=by
 unfold vV;cases e:ar[r.toNat - 1]? with
 | none=>
  rw [h.none e];exact ⟨h,mE.refl _⟩
 | some x=>
  obtain ⟨y,hy,hxy⟩:=h.get e;rw [hy];dsimp only;have hj:=(List.getElem?_eq_some_iff.1 e).1;have hj':=(List.getElem?_eq_some_iff.1 hy).1;refine ⟨⟨by simpa using h.len,λj u v hu hv=>?_⟩,λj u hu=>?_⟩
  ·by_cases hjr:r.toNat - 1=j
   ·subst hjr;rw [List.getElem?_set_self hj] at hu;rw [List.getElem?_set_self hj'] at hv;cases hu;cases hv;exact ⟨hxy.owner,hxy.label,hxy.life,hxy.share,hl,λh3=>hp x e h3⟩
   ·rw [List.getElem?_set_ne hjr] at hu hv;exact h.row j u v hu hv
  ·by_cases hjr:r.toNat - 1=j
   ·subst hjr;rw [e] at hu;cases hu;exact ⟨_,List.getElem?_set_self hj,rfl⟩
   ·exact ⟨u,by rw [List.getElem?_set_ne hjr];exact hu,rfl⟩
theorem vU.lab {r:Int} (h:vU ar k r) (h1:1<=r) {x:PA} (hx:ar[r.toNat - 1]?=some x):x.label=k:=by
 rcases h with h0|⟨j,z,hj,hz,hlab⟩
 ·omega
 ·have e:r.toNat - 1=j:=by omega
  rw [e,hz] at hx;cases hx;exact hlab
theorem LoP.evs {s:PS} (h:LoP s s') (e:List sO):LoP (s.ev e) (s'.ev e):=⟨h.size,h.ar,h.tp,h.ts,by show s'.tr++e=s.tr++e;rw [h.tr]⟩
theorem aDj (h:vF ar ar'):eX ar'=eX ar:=by
 unfold eX CI;rw [h.len]
 congr 1
 apply List.ext_getElem?;intro j;rw [List.getElem?_map,List.getElem?_map,List.getElem?_take,List.getElem?_take,List.getElem?_drop,List.getElem?_drop];split
 ·cases e:ar[2+j]? with
  | none=>rw [h.none e]
  | some x=>
   obtain ⟨y,hy,hl⟩:=h.get e;rw [hy];simp [hl.len]
 ·rfl
theorem cE:∀ {t l:List Int} {n:Nat},n < t.length->n < l.length->bZ t l=false->pV (nth l n) (nth t n)=false
 | [],_,_,h,_,_=>by simp at h
 | _::_,[],_,_,h,_=>by simp at h
 | a::t,k::l,0,_,_,h=>by simp only [bZ,Bool.or_eq_false_iff] at h;exact h.1
 | a::t,k::l,n+1,h1,h2,h=>by
  simp only [bZ,Bool.or_eq_false_iff] at h;exact cE (n:=n) (by simpa using h1) (by simpa using h2) h.2
theorem sB {b:Int} (h:EL ar k a b) (hs:pV k (-3)=false):b=a:=by
 refine (h.eq λh2=>?_).symm;subst h2;cases hs
theorem DM {b:Int} (h:EL ar k a b) (hd:rI k (-4)=true):b=a/\(k=3\/k=4)/\vU ar k a:=by
 have:k=3\/k=4:=vB.1 hd;exact ⟨(h.eq (by omega)).symm,this,h.ref this⟩
structure rN (x:fS) (s:PS) (K:List Int) (q q':zW):Prop where
 st:q'.2.1=q.2.1
 lo:LoP q.2.2 q'.2.2
 grow:mE s.ar q.2.2.ar
 size:q.2.2.size=s.size
 val:q.2.1=36864->¬ gV x.op->∀ i m,EL q.2.2.ar (nth (eC i m x K) 0) q.1 q'.1
theorem wX {s:PS} {q q':zW} (h1:q'.1=q.1) (h2:q'.2.1=q.2.1) (h3:LoP q.2.2 q'.2.2) (h4:q.2.2.ar=s.ar) (h5:q.2.2.size=s.size) (hk:∀ i m,nth (eC i m x K) 0≠3/\nth (eC i m x K) 0≠4):rN x s K q q':=
 ⟨h2,h3,h4▸mE.refl _,h5,λ_ _ i m=>⟨λ_=>h1.symm,λh=>by have:=hk i m;omega⟩⟩
theorem GU {s:PS} (h:vF s.ar s'.ar) (who r1 a1 r2 a2 n:Int):iE s' who r1 a1 r2 a2 n=iE s who r1 a1 r2 a2 n:=by
 unfold iE;rw [tS h,tS h]
theorem yQ {s:PS} {r1 a1 r2 a2:Int} (h:iE s who r1 a1 r2 a2 n=36864):fU s.ar r1 a1 n who=36864/\fU s.ar r2 a2 n who=36864:=by
 unfold iE at h;split at h
 ·rename_i h1;exact ⟨h1,h⟩
 ·rename_i h1;exact absurd h h1
theorem OX (l:List PA) (r1 a1 r2 a2 n:Int):(AB l r1 a1 r2 a2 n).length=min a1.toNat (iR l r1).length+min n.toNat ((iR l r2).length - a2.toNat)+((iR l r1).length - (a1.toNat+n.toNat)):=by
 unfold AB;simp only [List.length_append,List.length_take,List.length_drop]
theorem VD {s:PS} {t:List Int} (hr:x.right) (ho:cV x.op) (h:LoP s s') (hz:s.size<=5000) (hl:iS s.ar K t t')
  {i:bE} {m:fY} (hn:K.length=(aT i m x).length) (hk:kV x (aT i m x) K=true) (hs:kH x (aT i m x) K=false):rN x s K (eB s who x t) (eB s' who x t'):=by
 obtain ⟨op,a,b⟩:=x;unfold cV at ho;have ho':op=17\/op=18\/op=27\/op=28\/op=29\/op=30\/op=31\/op=32\/op=36:=by dsimp only at ho;omega
 have dz:∀ {A:List Int} {n:Nat},n < A.length->n < K.length->dH A K=true->rI (nth K n) (nth A n)=true:=λh1 h2 h3=>kY h1 h2 h3;have hdo:=Bool.and_eq_true_iff.1 hk;rcases ho' with rfl|rfl|rfl|rfl|rfl|rfl|rfl|rfl|rfl
 ·-- Div
  have hn:K.length=2:=hn;have hs:bZ [-3,-3] K=false:=hs;have e0:=sB (hl.nth 0 (by omega)) (cE (n:=0) (t:=[-3,-3]) (by decide) (by omega) hs);have e1:=sB (hl.nth 1 (by omega)) (cE (n:=1) (t:=[-3,-3]) (by decide) (by omega) hs);show rN _ _ _ (oR s (nth t 0) (nth t 1)) (oR s' (nth t' 0) (nth t' 1));rw [e0,e1];unfold oR;split
  iterate 2
   ·exact wX rfl rfl h rfl rfl λi m=>⟨(by show (1:Int)≠3;decide),(by show (1:Int)≠4;decide)⟩
 ·have hn:K.length=2:=hn;have hs:bZ [-3,-3] K=false:=hs;have e0:=sB (hl.nth 0 (by omega)) (cE (n:=0) (t:=[-3,-3]) (by decide) (by omega) hs);have e1:=sB (hl.nth 1 (by omega)) (cE (n:=1) (t:=[-3,-3]) (by decide) (by omega) hs);show rN _ _ _ (oQ s (nth t 0) (nth t 1)) (oQ s' (nth t' 0) (nth t' 1));rw [e0,e1];unfold oQ;split
  iterate 2
   ·exact wX rfl rfl h rfl rfl λi m=>⟨(by show (1:Int)≠3;decide),(by show (1:Int)≠4;decide)⟩
 ·-- New
  have hn:K.length=1:=hn;have hs:bZ [-3] K=false:=hs;have e0:=sB (hl.nth 0 (by omega)) (cE (n:=0) (t:=[-3]) (by decide) (by omega) hs);have ha1:3<=a:=hr.2.1;have ha2:a<=4:=hr.2.2.1;show rN _ _ _ (dT s who a b (nth t 0)) (dT s' who a b (nth t' 0));rw [e0];generalize nth t 0=n;unfold dT;split
  ·exact ⟨rfl,h.evs _,mE.refl _,rfl,λhf=>by cases hf⟩
  rename_i hn1
  rw [aDj h.ar,h.size];split
  ·exact ⟨rfl,h.evs _,mE.refl _,rfl,λhf=>by cases hf⟩
  rename_i hn2
  have hlen:=h.ar.len;have g:mE s.ar (s.ar++[⟨who,a,jV b,decide (b>=4),List.replicate n.toNat 0⟩]):=λj x hx=>⟨x,by rw [List.getElem?_append_left (List.getElem?_eq_some_iff.1 hx).1];exact hx,rfl⟩;refine ⟨rfl,⟨h.size,⟨by simp only [List.length_append,List.length_cons,List.length_nil];omega,λj x y hx hy=>?_⟩,h.tp,h.ts,by show s'.tr++_=s.tr++_;rw [h.tr]⟩,g,rfl,λ_ _ i m=>⟨λ_=>by dsimp only;rw [hlen],λ_=>.inr ⟨s.ar.length,_,?_,List.getElem?_concat_length,?_⟩⟩⟩
  ·dsimp only at hx hy;by_cases hj:j < s.ar.length
   ·rw [List.getElem?_append_left hj] at hx;rw [List.getElem?_append_left (by omega)] at hy;exact h.ar.row j x y hx hy
   ·have hjl:=(List.getElem?_eq_some_iff.1 hx).1;simp only [List.length_append,List.length_cons,List.length_nil] at hjl;have:j=s.ar.length:=by omega
    subst this;rw [List.getElem?_concat_length] at hx;rw [<- hlen,List.getElem?_concat_length] at hy;cases hx;cases hy;exact ⟨rfl,rfl,rfl,rfl,rfl,λ_=>rfl⟩
  ·have:8*(s.ar.length - 2)<=eX s.ar:=by
    unfold eX;exact CH _ _ (Nat.le_refl _)
   dsimp only;simp only [IntKind.wrap_i32];omega
  ·rfl
 ·-- Len
  have hn:K.length=1:=hn;have hdo:dH [-4] K=true:=hdo.1;obtain ⟨e0,hk0,r0⟩:=DM (hl.nth 0 (by omega)) (dz (n:=0) (A:=[-4]) (by decide) (by omega) hdo);show rN _ _ _ (pG s who (nth t 0)) (pG s' who (nth t' 0));rw [e0];unfold pG;rw [OZ h.ar];split
  ·exact wX (by dsimp only;rw [yM h.ar]) rfl (h.evs _) rfl rfl λi m=>⟨(by show (1:Int)≠3;decide),(by show (1:Int)≠4;decide)⟩
  ·rename_i hc
   exact ⟨rfl,h.evs _,mE.refl _,rfl,λhf=>absurd hf hc⟩
 ·-- Get
  have hn:K.length=2:=hn;have hdo:dH [-4,-3] K=true:=hdo.1;have hs:bZ [-4,-3] K=false:=hs;obtain ⟨e0,hk0,r0⟩:=DM (hl.nth 0 (by omega)) (dz (n:=0) (A:=[-4,-3]) (by decide) (by omega) hdo);have e1:=sB (hl.nth 1 (by omega)) (cE (n:=1) (t:=[-4,-3]) (by decide) (by omega) hs);show rN _ _ _ (pH s who (nth t 0) (nth t 1)) (pH s' who (nth t' 0) (nth t' 1));rw [e0,e1];unfold pH;rw [tS h.ar];split
  ·rename_i hc
   refine ⟨rfl,h.evs _,mE.refl _,rfl,λ_ _ i m=>?_⟩;have eg:nth (eC i m ⟨29,a,b⟩ K) 0=ofK (nth K 0):=rfl;rw [eg];refine ⟨λhne=>?_,λhh=>by unfold ofK at hh;rcases hk0 with e|e<;>rw [e] at hh<;>simp at hh⟩
   have h3:nth K 0=3:=by
    rcases hk0 with e|e
    ·exact e
    ·rw [e] at hne;exact absurd rfl hne
   dsimp only;rw [qE h.ar r0 (nB hc).1 h3]
  ·rename_i hc
   exact ⟨rfl,h.evs _,mE.refl _,rfl,λhf=>absurd hf hc⟩
 ·-- Put
  have hn:K.length=3:=hn;have hdo:dH [-4,-3,-2] K=true:=hdo.1;have hs:(bZ [-4,-3,-2] K||(nth K 0 == 3&&nth K 2 == 2))=false:=hs;obtain ⟨hs,hs2⟩:=Bool.or_eq_false_iff.1 hs;obtain ⟨e0,hk0,r0⟩:=DM (hl.nth 0 (by omega)) (dz (n:=0) (A:=[-4,-3,-2]) (by decide) (by omega) hdo);have e1:=sB (hl.nth 1 (by omega)) (cE (n:=1) (t:=[-4,-3,-2]) (by decide) (by omega) hs);have v2:=hl.nth 2 (by omega);show rN _ _ _ (pF s who (nth t 0) (nth t 1) (nth t 2)) (pF s' who (nth t' 0) (nth t' 1) (nth t' 2));rw [e0,e1];unfold pF;rw [tS h.ar];split
  ·rename_i hc
   have hset:=NQ h.ar (r:=nth t 0) (d:=(iR s.ar (nth t 0)).set (nth t 1).toNat (IntKind.u8.wrap (nth t 2))) (d':=(iR s'.ar (nth t 0)).set (nth t 1).toNat (IntKind.u8.wrap (nth t' 2))) (by simp [yM h.ar]) λx hx h3=>by
    have hK:=r0.lab (vE (nB hc).1).1 hx;have hK3:nth K 0=3:=hK.symm.trans h3;rw [qE h.ar r0 (nB hc).1 hK3];have:nth K 2≠2:=λh2=>by rw [hK3,h2] at hs2;cases hs2
    rw [v2.eq this]
   exact ⟨rfl,⟨h.size,hset.1,h.tp,h.ts,by show s'.tr++_=s.tr++_;rw [h.tr]⟩,hset.2,rfl,λ_ hf=>absurd (.inl rfl) hf⟩
  ·rename_i hc
   exact ⟨rfl,h.evs _,mE.refl _,rfl,λhf=>absurd hf hc⟩
 ·-- Copy
  have hn:K.length=5:=hn;have hdo:dH [-4,-3,-4,-3,-3] K=true:=hdo.1;have hs:(bZ [-4,-3,-4,-3,-3] K||(nth K 0 == 3&&nth K 2 == 4))=false:=hs;obtain ⟨hs,hs2⟩:=Bool.or_eq_false_iff.1 hs;obtain ⟨e0,hk0,r0⟩:=DM (hl.nth 0 (by omega)) (dz (n:=0) (A:=[-4,-3,-4,-3,-3]) (by decide) (by omega) hdo);obtain ⟨e2,hk2,r2⟩:=DM (hl.nth 2 (by omega)) (dz (n:=2) (A:=[-4,-3,-4,-3,-3]) (by decide) (by omega) hdo);have e1:=sB (hl.nth 1 (by omega)) (cE (n:=1) (t:=[-4,-3,-4,-3,-3]) (by decide) (by omega) hs);have e3:=sB (hl.nth 3 (by omega)) (cE (n:=3) (t:=[-4,-3,-4,-3,-3]) (by decide) (by omega) hs);have e4:=sB (hl.nth 4 (by omega)) (cE (n:=4) (t:=[-4,-3,-4,-3,-3]) (by decide) (by omega) hs);show rN _ _ _ (kL s who (nth t 0) (nth t 1) (nth t 2) (nth t 3) (nth t 4)) (kL s' who (nth t' 0) (nth t' 1) (nth t' 2) (nth t' 3) (nth t' 4));rw [e0,e1,e2,e3,e4];unfold kL;rw [GU h.ar];split
  ·rename_i hc
   obtain ⟨c1,c2⟩:=yQ hc
   have hset:=NQ h.ar (r:=nth t 0) (d:=AB s.ar (nth t 0) (nth t 1) (nth t 2) (nth t 3) (nth t 4)) (d':=AB s'.ar (nth t 0) (nth t 1) (nth t 2) (nth t 3) (nth t 4)) (by rw [OX,OX,yM h.ar,yM h.ar]) λx hx h3=>by
    have hK:=r0.lab (vE (nB c1).1).1 hx;have hK3:nth K 0=3:=hK.symm.trans h3
    have hK2:nth K 2=3:=by
     rcases hk2 with e|e
     ·exact e
     ·rw [hK3,e] at hs2;cases hs2
    unfold AB;rw [qE h.ar r0 (nB c1).1 hK3,qE h.ar r2 (nB c2).1 hK2]
   exact ⟨rfl,⟨h.size,hset.1,h.tp,h.ts,by show (s'.tr++_)++_=(s.tr++_)++_;rw [h.tr]⟩,hset.2,rfl,λ_ hf=>absurd (.inr (.inl rfl)) hf⟩
  ·rename_i hc
   exact ⟨rfl,(h.evs _).evs _,mE.refl _,rfl,λhf=>absurd hf hc⟩
 ·-- Same
  have hn:K.length=5:=hn;have hdo:dH [-4,-3,-4,-3,-3] K=true:=hdo.1;have hs:bZ [-4,-3,-4,-3,-3] K=false:=hs;obtain ⟨e0,hk0,r0⟩:=DM (hl.nth 0 (by omega)) (dz (n:=0) (A:=[-4,-3,-4,-3,-3]) (by decide) (by omega) hdo);obtain ⟨e2,hk2,r2⟩:=DM (hl.nth 2 (by omega)) (dz (n:=2) (A:=[-4,-3,-4,-3,-3]) (by decide) (by omega) hdo);have e1:=sB (hl.nth 1 (by omega)) (cE (n:=1) (t:=[-4,-3,-4,-3,-3]) (by decide) (by omega) hs);have e3:=sB (hl.nth 3 (by omega)) (cE (n:=3) (t:=[-4,-3,-4,-3,-3]) (by decide) (by omega) hs);have e4:=sB (hl.nth 4 (by omega)) (cE (n:=4) (t:=[-4,-3,-4,-3,-3]) (by decide) (by omega) hs);show rN _ _ _ (kD s who (nth t 0) (nth t 1) (nth t 2) (nth t 3) (nth t 4)) (kD s' who (nth t' 0) (nth t' 1) (nth t' 2) (nth t' 3) (nth t' 4));rw [e0,e1,e2,e3,e4];unfold kD;rw [GU h.ar];split
  ·rename_i hc
   obtain ⟨c1,c2⟩:=yQ hc;refine ⟨rfl,(h.evs _).evs _,mE.refl _,rfl,λ_ _ i m=>?_⟩
   have eg:nth (eC i m ⟨32,a,b⟩ K) 0=if nth K 0=4\/nth K 2=4 then 2 else 1:=by
    simp only [eC,iF];simp;split<;>rfl
   rw [eg];refine ⟨λhne=>?_,λhh=>by split at hh<;>omega⟩;have h34:¬ (nth K 0=4\/nth K 2=4):=λhh=>hne (if_pos hh);dsimp only;unfold pI;rw [qE h.ar r0 (nB c1).1 (by omega),qE h.ar r2 (nB c2).1 (by omega)]
  ·rename_i hc
   exact ⟨rfl,(h.evs _).evs _,mE.refl _,rfl,λhf=>absurd hf hc⟩
 ·-- Send
  have hn:K.length=3:=hn;have hdo:dH [-4,-3,-3] K=true:=hdo.1;have hs:(bZ [-4,-3,-3] K||(a == 1&&nth K 0 == 4))=false:=hs;obtain ⟨hs,hs2⟩:=Bool.or_eq_false_iff.1 hs;obtain ⟨e0,hk0,r0⟩:=DM (hl.nth 0 (by omega)) (dz (n:=0) (A:=[-4,-3,-3]) (by decide) (by omega) hdo);have e1:=sB (hl.nth 1 (by omega)) (cE (n:=1) (t:=[-4,-3,-3]) (by decide) (by omega) hs);have e2:=sB (hl.nth 2 (by omega)) (cE (n:=2) (t:=[-4,-3,-3]) (by decide) (by omega) hs);show rN _ _ _ (eY s who a (nth t 0) (nth t 1) (nth t 2)) (eY s' who a (nth t' 0) (nth t' 1) (nth t' 2));rw [e0,e1,e2];unfold eY;rw [tS h.ar,h.tp,h.ts];have nov:∀ {q q':zW},q.2.1=36864->¬ gV (⟨36,a,b⟩:fS).op->∀ i m,EL q.2.2.ar (nth (eC i m ⟨36,a,b⟩ K) 0) q.1 q'.1:=λ_ hf=>absurd (.inr (.inr rfl)) hf;split
  ·rename_i hc
   split
   ·rename_i ha1
    split
    ·exact ⟨rfl,h.evs _,mE.refl _,rfl,nov⟩
    ·have hK:nth K 0=3:=by
      rcases hk0 with e|e
      ·exact e
      ·rw [ha1,e] at hs2;cases hs2
     refine ⟨rfl,⟨h.size,h.ar,?_,h.ts,by show s'.tr++_=s.tr++_;rw [h.tr]⟩,mE.refl _,rfl,nov⟩;show s.tp++pI s'.ar _ _ _=s.tp++pI s.ar _ _ _;unfold pI;rw [qE h.ar r0 (nB hc).1 hK]
   ·split
    ·exact ⟨rfl,h.evs _,mE.refl _,rfl,nov⟩
    ·refine ⟨rfl,⟨h.size,h.ar,h.tp,?_,by show s'.tr++_=s.tr++_;rw [h.tr]⟩,mE.refl _,rfl,nov⟩;show (s'.ts++pI s'.ar _ _ _).length=(s.ts++pI s.ar _ _ _).length;unfold pI;simp only [List.length_append,List.length_take,List.length_drop,yM h.ar,h.ts]
  ·rename_i hc
   exact ⟨rfl,h.evs _,mE.refl _,rfl,nov⟩
structure LoF (l:List bE) (ar:List PA) (f g:gY) (K:List Int):Prop where
 who:g.who=f.who
 mth:g.mth=f.mth
 pc:g.pc=f.pc
 st:iS ar K f.st g.st
 loc:iS ar (f.me l).locs f.loc g.loc
def aVp (l:List bE) (ar:List PA) (f g:gY):Prop:=∃ K,oN (f.img l) (f.me l) f.pc K/\LoF l ar f g K
def aVr (l:List bE) (ar:List PA) (c f g:gY):Prop:=∃ K K1,oN (f.img l) (f.me l) f.pc K/\lL K (K1++iM (c.me l).result)/\kR K1/\LoF l ar f g K1
def vX (l:List bE) (ar:List PA):gY->List gY->List gY->Prop
 | _,[],[]=>True
 | c,f::fs,g::gs=>aVr l ar c f g/\vX l ar f fs gs
 | _,_,_=>False
def MU (ar:List PA):Prop:=(∃ x,ar[0]?=some x/\x.label=3)/\∃ x,ar[1]?=some x/\x.label=4
theorem MU.grow (h:MU ar) (g:mE ar ar'):MU ar':=by
 obtain ⟨⟨x,h1,h2⟩,y,h3,h4⟩:=h;obtain ⟨x',a1,a2⟩:=g 0 x h1;obtain ⟨y',b1,b2⟩:=g 1 y h3;exact ⟨⟨x',a1,a2.trans h2⟩,y',b1,b2.trans h4⟩
structure LoR (l:List bE) (r r':Rm):Prop where
 ps:LoP r.ps r'.ps
 fd:∀ k,k < l.length->iS r.ps.ar (aP l k).fields (r.fd.getD k []) (r'.fd.getD k [])
 base:MU r.ps.ar
 sz:r.ps.size<=5000
structure LoM (l:List bE) (m n:PM):Prop where
 top:aVp l m.r.ps.ar m.f n.f
 ch:vX l m.r.ps.ar m.f m.fs n.fs
 fuel:n.fuel=m.fuel
 r:LoR l m.r n.r
theorem LoF.grow {l:List bE} {ar ar':List PA} {f g:gY} {K:List Int} (h:LoF l ar f g K) (w:mE ar ar'):LoF l ar' f g K:=⟨h.who,h.mth,h.pc,h.st.grow w,h.loc.grow w⟩
theorem vX.grow {l:List bE} {ar ar':List PA} (w:mE ar ar'):∀ {c:gY} {fs gs:List gY},vX l ar c fs gs->vX l ar' c fs gs
 | _,[],[],_=>trivial
 | _,f::fs,g::gs,h=>by
  obtain ⟨⟨K,K1,h1,h2,h3,h4⟩,h5⟩:=h;exact ⟨⟨K,K1,h1,h2,h3,h4.grow w⟩,vX.grow w h5⟩
 | _,[],_::_,h=>h.elim
 | _,_::_,[],h=>h.elim
theorem vX.len {l:List bE} {ar:List PA}:∀ {c:gY} {fs gs:List gY},vX l ar c fs gs->gs.length=fs.length
 | _,[],[],_=>rfl
 | _,f::fs,g::gs,h=>by simp [vX.len h.2]
 | _,[],_::_,h=>h.elim
 | _,_::_,[],h=>h.elim
theorem vX.cong {l:List bE} {c c':gY} (hc:c'.me l=c.me l):∀ {fs gs:List gY},vX l ar c fs gs->vX l ar c' fs gs
 | [],[],_=>trivial
 | f::fs,g::gs,h=>by
  obtain ⟨⟨K,K1,h1,h2,h3,h4⟩,h5⟩:=h;exact ⟨⟨K,K1,h1,hc▸h2,h3,h4⟩,h5⟩
 | [],_::_,h=>h.elim
 | _::_,[],h=>h.elim
theorem LoR.ev {l:List bE} {r r':Rm} (h:LoR l r r') (e:sO):LoR l (r.ev e) (r'.ev e):=⟨h.ps.evs _,h.fd,h.base,h.sz⟩
theorem aPd (h:x.right):(x.op=25->Kd x.a)/\(x.op=35->x.a=1\/x.a=2):=by
 obtain ⟨op,a,b⟩:=x;refine ⟨λe=>?_,λe=>?_⟩
 ·have e:op=25:=e;subst e;have h1:3<=a:=h.2.1;have h2:a<=4:=h.2.2.1;exact ⟨by dsimp only;omega,by dsimp only;omega⟩
 ·have e:op=35:=e;subst e;have h1:1<=a:=h.2.1;have h2:a<=2:=h.2.2.1;dsimp only;omega
theorem aEi {l:List bE} {g:gY} {t:List Int} (hx:AF (f.img l) (f.me l) x) (hp:DQ x.op) (hw:g.who=f.who)
  (hloc:iS ar (f.me l).locs f.loc g.loc) (hfd:iS ar (f.img l).fields (fd.getD f.who []) (fd'.getD f.who [])) (hb:MU ar) (hl:iS ar K t t') (_:kR K) (hn:K.length=(aT (f.img l) (f.me l) x).length)
  (hk:kV x (aT (f.img l) (f.me l) x) K=true) (hs:kH x (aT (f.img l) (f.me l) x) K=false):iS ar (eC (f.img l) (f.me l) x K) (nW x f fd t) (nW x g fd' t'):=by
 have hlim:=aPd hx.xr;have hnm:=hx.nm;have ha0:=hx.xr.2.1;have hop:=LF hx.xr;obtain ⟨op,a,b⟩:=x;obtain ⟨p1,p2,p3,p4⟩:=hp;dsimp only at *;unfold cV at p4;have hdo:=(Bool.and_eq_true_iff.1 hk).1;have one:∀ {k u v:Int},EL ar k u v->iS ar [k] [u] [v]:=λh=>⟨h,trivial⟩;have pub:∀ {u:Int},EL ar 1 u u:=⟨λ_=>rfl,λh=>by omega⟩;rcases hop with rfl|rfl|rfl|rfl|rfl|hb|rfl|rfl|rfl|rfl|rfl|rfl|rfl|rfl|rfl|rfl|rfl|rfl|rfl|rfl|rfl|rfl|rfl|rfl|rfl|rfl|rfl|rfl
 case _=>exact one pub
 case _=>
  have ha0:0<=a:=ha0;have hnm:a < ((f.me l).locs.length:Int):=hnm;exact one (hloc.nth a.toNat (by omega))
 case _=>exact iS.nil_
 case _=>exact iS.nil_
 case _=>
  have hn:K.length=1:=hn;have v:=hl.nth 0 (by omega);exact ⟨v,v,trivial⟩
 case _=>
  have hb':=hb;unfold iF at hb
  have e:eC (f.img l) (f.me l) ⟨op,a,b⟩ K=[lM (nth K 0) (nth K 1)]:=by
   simp only [eC];rw [if_neg (by omega),if_neg (by omega),if_neg (by omega),if_neg (by omega),if_pos hb']
  have e2:∀ (h:gY) (q:List (List Int)) (r:List Int),nW ⟨op,a,b⟩ h q r=[oY op (nth r 0) (nth r 1)]:=λh q r=>by
   simp only [nW]
   repeat rw [if_neg (by omega)]
  rw [e,e2,e2]
  have ea:aT (f.img l) (f.me l) ⟨op,a,b⟩=[-2,-2]:=by
   simp only [aT];rw [if_neg (by omega),if_neg (by omega),if_neg (by omega),if_neg (by omega),if_pos hb']
  rw [ea] at hn;have hn:K.length=2:=hn;have v0:=hl.nth 0 (by omega);have v1:=hl.nth 1 (by omega);refine one ⟨λh2=>?_,λh34=>by unfold lM at h34;split at h34<;>omega⟩;unfold lM at h2;split at h2
  ·exact absurd rfl h2
  ·rename_i h;rw [v0.eq (λe=>h (.inl e)),v1.eq (λe=>h (.inr e))]
 case _=>
  have hn:K.length=1:=hn;have hd:dH [-2] K=true:=hdo;have hi:cF (nth K 0)=true:=kY (n:=0) (t:=[-2]) (by decide) (by omega) hd;have hi:=pK.1 hi;refine one ⟨λh2=>?_,λh34=>by omega⟩;show UI 15 _=UI 15 _;rw [(hl.nth 0 (by omega)).eq h2]
 case _=>
  have hn:K.length=1:=hn;have hd:dH [-2] K=true:=hdo;have hi:cF (nth K 0)=true:=kY (n:=0) (t:=[-2]) (by decide) (by omega) hd;have hi:=pK.1 hi;refine one ⟨λh2=>?_,λh34=>by omega⟩;show UI 16 _=UI 16 _;rw [(hl.nth 0 (by omega)).eq h2]
 case _=>omega
 case _=>omega
 case _=>
  have hn:K.length=3:=hn;have hkk:(dH [-2,-1,-1] K&&(cF (nth K 1)&&cF (nth K 2)||dV (nth K 1)&&nth K 1 == nth K 2))=true:=hk;have hls:(dV (nth K 1)&&nth K 0 == 2)=false:=hs;have v0:=hl.nth 0 (by omega);have v1:=hl.nth 1 (by omega);have v2:=hl.nth 2 (by omega);show iS ar [xO K] [qW _ _ _] [qW _ _ _];refine one ?_;unfold xO qW;have hc:=(Bool.and_eq_true_iff.1 hkk).2;cases hA:dV (nth K 1) with
  | true=>
   rw [hA] at hls hc;have hA':=vB.1 hA;have hI:cF (nth K 1)=false:=by rcases hA' with e|e<;>rw [e]<;>rfl
   rw [hI] at hc;simp only [Bool.false_and,Bool.true_and,Bool.false_or,beq_iff_eq] at hc;have h0:nth K 0≠2:=λe=>by rw [e] at hls;cases hls
   rw [if_pos rfl,<- v0.eq h0];split
   ·rw [hc];exact v2
   ·exact v1
  | false=>
   have hI:nth K 1=1\/nth K 1=2:=by
    rw [hA] at hc;simp only [Bool.false_and,Bool.or_false,Bool.and_eq_true,pK] at hc;exact hc.1
   rw [if_neg (by decide)];have b12:∀ x y:Int,lM x y=1\/lM x y=2:=λx y=>by unfold lM;split<;>simp
   have b2:∀ x y:Int,lM x y≠2->x≠2/\y≠2:=λx y h=>⟨λe=>h (by unfold lM;rw [if_pos (.inl e)]),λe=>h (by unfold lM;rw [if_pos (.inr e)])⟩;refine ⟨λh2=>?_,λh34=>by have:=b12 (nth K 0) (lM (nth K 1) (nth K 2));omega⟩;obtain ⟨n0,n12⟩:=b2 _ _ h2;obtain ⟨n1,n2⟩:=b2 _ _ n12;rw [v0.eq n0,v1.eq n1,v2.eq n2]
 case _=>exact iS.nil_
 case _=>exact iS.nil_
 case _=>exact one ⟨λ_=>rfl,λ_=>.inl rfl⟩
 case _=>
  have hn:K.length=1:=hn;have hd:dH [-4] K=true:=hdo;obtain ⟨e0,_⟩:=DM (hl.nth 0 (by omega)) (kY (n:=0) (t:=[-4]) (by decide) (by omega) hd);show iS ar [1] [UI 26 (nth t 0)] [UI 26 (nth t' 0)];rw [e0];exact one pub
 case _=>omega
 case _=>omega
 case _=>omega
 case _=>omega
 case _=>omega
 case _=>omega
 case _=>
  have ha0:0<=a:=ha0;have hnm:a < ((f.img l).fields.length:Int):=hnm;show iS ar [(f.img l).fields.getD a.toNat 0] [(fd.getD f.who []).getD a.toNat 0] [(fd'.getD g.who []).getD a.toNat 0];rw [hw];exact one (hfd.nth a.toNat (by omega))
 case _=>exact iS.nil_
 case _=>
  show iS ar [3+a - 1] [a] [a];refine one ⟨λ_=>rfl,λ_=>?_⟩;obtain ⟨⟨x,h1,h2⟩,y,h3,h4⟩:=‹MU ar›;rcases hlim.2 rfl with e|e
  ·exact .inr ⟨0,x,by rw [e];rfl,h1,by rw [h2,e];rfl⟩
  ·exact .inr ⟨1,y,by rw [e];rfl,h3,by rw [h4,e];rfl⟩
 case _=>omega
 case _=>omega
 case _=>omega
 case _=>omega
theorem vO {t:List Int} (h:x.op≠22) (hs:kH x t K=false):bZ t K=false:=by
 unfold kH at hs;rw [if_neg h] at hs;split at hs
 ·exact (Bool.or_eq_false_iff.1 hs).1
 split at hs
 ·exact (Bool.or_eq_false_iff.1 hs).1
 split at hs
 ·exact (Bool.or_eq_false_iff.1 hs).1
 ·exact hs
theorem OT {l:List Int} (h:kR l) {k:Nat} (hk:k < l.length):1<=l.getD k 0/\l.getD k 0<=4:=rW h hk
def aVo (l:List bE) (o o':Out):Prop:=(∃ m n,o=.run m/\o'=.run n/\LoM l m n)\/∃ s d q r r',o=.fin s d q r/\o'=.fin s d q r'/\LoP r.ps r'.ps
theorem aPc {l:List bE} {g:gY} {t:List Int} (hx:AF (f.img l) (f.me l) x) (hloc:iS ar (f.me l).locs f.loc g.loc) (hl:iS ar K t t') (hK:kR K) (hn:K.length=(aT (f.img l) (f.me l) x).length)
  (hk:kV x (aT (f.img l) (f.me l) x) K=true) (hs:kH x (aT (f.img l) (f.me l) x) K=false):iS ar (f.me l).locs (uY x f.loc t) (uY x g.loc t'):=by
 unfold uY;split
 ·rename_i h3
  have hnm:=hx.nm;have ha0:=hx.xr.2.1;have hkd:=CY hx.mr;obtain ⟨op,a,b⟩:=x;have h3:op=3:=h3;subst h3;have ha0:0<=a:=ha0;have hnm:a < ((f.me l).locs.length:Int):=hnm;refine hloc.set a.toNat λhlt=>?_;have hn:K.length=1:=hn;have hd:dH [(f.me l).locs.getD a.toNat 0] K=true:=(Bool.and_eq_true_iff.1 hk).1;have hsh:bZ [(f.me l).locs.getD a.toNat 0] K=false:=hs;have hz:=OT hkd hlt;exact (hl.nth 0 (by omega)).fit (kT hK (by omega)) hz (kY (n:=0) (by simp) (by omega) hd) (cE (n:=0) (by simp) (by omega) hsh)
 ·exact hloc
theorem aVd {l:List bE} {g:gY} {t:List Int} (hx:AF (f.img l) (f.me l) x) (hw:g.who=f.who) (h1:yY l fd) (h2:yY l fd') (hfd:∀ k,k < l.length->iS ar (aP l k).fields (fd.getD k []) (fd'.getD k [])) (hwho:f.who < l.length)
  (hl:iS ar K t t') (hK:kR K) (hn:K.length=(aT (f.img l) (f.me l) x).length) (hk:kV x (aT (f.img l) (f.me l) x) K=true) (hs:kH x (aT (f.img l) (f.me l) x) K=false) :
  ∀ k,k < l.length->iS ar (aP l k).fields ((XZ x f.who fd t).getD k []) ((XZ x g.who fd' t').getD k []):=by
 intro k hkl;unfold XZ;rw [hw];split
 ·rename_i h34
  by_cases hkw:f.who=k
  ·subst hkw;have e:∀ (q:List (List Int)) (v:List Int),f.who < q.length->(q.set f.who v).getD f.who []=v:=λq v h=>by rw [List.getD_eq_getElem?_getD,List.getElem?_set_self h];rfl
   rw [e _ _ (by have:=h1.len;omega),e _ _ (by have:=h2.len;omega)];have hnm:=hx.nm;have ha0:=hx.xr.2.1;have hkd:=hx.ir.1.1;obtain ⟨op,a,b⟩:=x;have h34:op=34:=h34;subst h34;have ha0:0<=a:=ha0;have hnm:a < ((f.img l).fields.length:Int):=hnm;refine (hfd f.who hkl).set a.toNat λhlt=>?_;have hn:K.length=1:=hn;have hd:dH [(f.img l).fields.getD a.toNat 0] K=true:=(Bool.and_eq_true_iff.1 hk).1;have hsh:bZ [(f.img l).fields.getD a.toNat 0] K=false:=hs;have hz:=OT hkd (k:=a.toNat) (by omega);exact (hl.nth 0 (by omega)).fit (kT hK (by omega)) hz (kY (n:=0) (by simp) (by omega) hd) (cE (n:=0) (by simp) (by omega) hsh)
  ·have e:∀ (q:List (List Int)) (v:List Int),(q.set f.who v).getD k []=q.getD k []:=λq v=>by rw [List.getD_eq_getElem?_getD,List.getElem?_set_ne hkw,List.getD_eq_getElem?_getD]
   rw [e,e];exact hfd k hkl
 ·exact hfd k hkl
theorem aUo {l:List bE} {t:List Int} (hl:iS ar K t t') (hn:K.length=(aT (f.img l) (f.me l) x).length) (hs:kH x (aT (f.img l) (f.me l) x) K=false) (pc:Nat):zU x pc t'=zU x pc t:=by
 unfold zU;obtain ⟨op,a,b⟩:=x;dsimp only;by_cases h:op=24
 ·subst h;have hn:K.length=1:=hn;have hsh:bZ [-3] K=false:=hs;rw [sB (hl.nth 0 (by omega)) (cE (n:=0) (t:=[-3]) (by decide) (by omega) hsh)]
 ·rw [if_neg h,if_neg h]
theorem OK {l:List bE} (hT:oE l) {n:PM} (hm:m.ok l) (hn:n.ok l) (h:LoM l m n):aVo l (kC l m) (kC l n):=by
 obtain ⟨fs,f,fuel,r⟩:=m;obtain ⟨gs,g,fuel',r'⟩:=n;obtain ⟨⟨K,hR,hF⟩,hch,hfu,hr⟩:=h;dsimp only at hR hF hch hfu hr;subst hfu;have hlen:=hch.len;obtain ⟨gw,gm,gpc,gst,gloc⟩:=hF;have eimg:g.img l=f.img l:=by unfold gY.img;rw [gw]
 have eme:g.me l=f.me l:=by unfold gY.me;rw [eimg,gm]
 have eins:g.ins l=f.ins l:=by unfold gY.ins;rw [eme,gpc]
 have ent:aZ l g=aZ l f:=by unfold aZ;rw [eimg,eme,eins]
 have eev:iK l g=iK l f:=by unfold iK;rw [gw,gm,gpc,eins]
 have hrt:=hm.top.rt hT;obtain ⟨g1,g2,g3,g4,out,g5,g6,g7⟩:=hR.go hrt.1 hrt.2.1;obtain ⟨d1,d2,d3,d4,d5⟩:=DI g5;unfold kC;dsimp only;by_cases h0:fuel'=0
 ·rw [if_pos h0,if_pos h0,hlen];exact .inr ⟨_,_,_,_,_,rfl,rfl,hr.ps.evs _⟩
 rw [if_neg h0,if_neg h0,ent,eins,eev];have hr1:=hr.ev (iK l f);have ear:(r.ev (iK l f)).ps.ar=r.ps.ar:=rfl;have hfd1:=hm.fd;have hfd2:=hn.fd;have hfd1:yY l (r.ev (iK l f)).fd:=hfd1;have hfd2:yY l (r'.ev (iK l f)).fd:=hfd2;generalize r.ev (iK l f)=r1 at *;generalize r'.ev (iK l f)=r2 at *;have hnK:(aT (f.img l) (f.me l) (f.ins l)).length=aZ l f:=rfl;have hx:(f.me l).ins f.pc=f.ins l:=rfl;rw [hx] at g2 g5 g7 d1 d2 d3 d4 d5;rw [hnK] at d1 d2 d3 d4 d5;have lf:=gst.len
 have hKt:iS r1.ps.ar (K.drop (K.length - aZ l f)) (gO (aZ l f) f.st) (gO (aZ l f) g.st):=by
  have:=gst.drop (K.length - aZ l f);unfold gO;rw [lf.1,lf.2,ear];exact this
 have hKu:iS r1.ps.ar (K.take (K.length - aZ l f)) (iU (aZ l f) f.st) (iU (aZ l f) g.st):=by
  have:=gst.take (K.length - aZ l f);unfold iU;rw [lf.1,lf.2,ear];exact this
 have hKtl:(K.drop (K.length - aZ l f)).length=(aT (f.img l) (f.me l) (f.ins l)).length:=by rw [List.length_drop,hnK];omega
 have hKtk:kR (K.drop (K.length - aZ l f)):=λk hk=>g3 k (List.mem_of_mem_drop hk);have hKuk:kR (K.take (K.length - aZ l f)):=λk hk=>g3 k (List.mem_of_mem_take hk);generalize K.drop (K.length - aZ l f)=Kt at *;generalize K.take (K.length - aZ l f)=Ku at *;generalize ht:gO (aZ l f) f.st=t at *;generalize ht':gO (aZ l f) g.st=t' at *;generalize iU (aZ l f) f.st=u at *;generalize iU (aZ l f) g.st=u' at *;rw [<- ear] at hch;rw [<- ear] at gloc;unfold vD;by_cases h39:(f.ins l).op=39
 ·rw [if_pos h39,if_pos h39]
  have hask:aT (f.img l) (f.me l) (f.ins l)=iM (f.me l).result:=by
   unfold aT;simp only [h39,iF,Int.reduceEq,or_self,Int.reduceLE,and_false,if_false,if_true]
  have hrk:=xG hrt.2.1.2.1
  have hfit:iS r1.ps.ar (iM (f.me l).result) t t':=by
   rw [hask] at hKtl d4 d5;exact hKt.fit hKtk hrk hKtl.symm (Bool.and_eq_true_iff.1 d4).1 (vO (by omega) d5)
  cases fs with
  | nil=>
   cases gs with
   | nil=>exact .inr ⟨_,_,_,_,_,rfl,rfl,hr1.ps.evs _⟩
   | cons _ _=>exact hch.elim
  | cons f1 fs=>
   cases gs with
   | nil=>exact hch.elim
   | cons g1 gs=>
    obtain ⟨⟨K2,K1,b1,b2,b3,b4⟩,hch2⟩:=hch;refine .inl ⟨_,_,rfl,rfl,⟨⟨K2,b1,b4.who,b4.mth,b4.pc,(b4.st.app hfit).up b2,b4.loc⟩,?_,rfl,hr1⟩⟩;exact hch2.cong (by rfl)
 rw [if_neg h39,if_neg h39];by_cases hc:(f.ins l).op=37\/(f.ins l).op=38
 ·rw [if_pos hc,if_pos hc];have ego:mB l g (f.ins l)=mB l f (f.ins l):=by unfold mB;rw [gw]
  rw [ego];cases hq:mB l f (f.ins l) with
  | none=>
   dsimp only;rw [hlen];exact .inr ⟨_,_,_,_,_,rfl,rfl,hr1.ps.evs _⟩
  | some q=>
   dsimp only;rw [hlen];by_cases hd:8<=fs.length+1
   ·rw [if_pos hd,if_pos hd];exact .inr ⟨_,_,_,_,_,rfl,rfl,hr1.ps.evs _⟩
   rw [if_neg hd,if_neg hd]
   have key:kR (aT (f.img l) (f.me l) (f.ins l))/\aT (f.img l) (f.me l) (f.ins l)=((aP l q.1).meth q.2).params/\∀ Q,eC (f.img l) (f.me l) (f.ins l) Q=iM ((aP l q.1).meth q.2).result/\oN (aP l q.1) ((aP l q.1).meth q.2) 0 []:=by
    have hnm:=g2.nm;have hxr:=g2.xr;have hir:=g2.ir;unfold mB at hq;generalize f.ins l=x at *;obtain ⟨op,a,b⟩:=x;dsimp only at hc hq h39;rcases hc with rfl|rfl
    ·rw [if_pos rfl] at hq;cases hq;have ha:0<=a:=hxr.2.1;have hn:a < ((f.img l).methods.length:Int):=hnm;have e:((a.toNat:Nat):Int)=a:=by omega
     have hmm:=bE.meth_mem ha hn;refine ⟨(hir.2.2.1.2.1 _ hmm).1.1,?_,λQ=>⟨?_,?_⟩⟩
     iterate 2
      ·simp only [e];rfl
     ·simp only [e];exact oN.first hir (hir.2.2.1.2.1 _ hmm) ((hT _ (fT hm.top.who)).2 _ hmm)
    ·rw [if_neg (by decide)] at hq;have ha:0<=a:=hxr.2.1;have hn:a < ((f.img l).imports.length:Int):=hnm;obtain ⟨r1,r2,r3,r4⟩:=sU hT hm.top.who ha hn hq;have hmm:=meth_mem r2;have hTq:=hT _ (fT r1);refine ⟨(hir.2.1.2 _ (bE.imp_mem ha hn)).2.1.1,?_,λQ=>⟨?_,?_⟩⟩
     ·rw [r3];rfl
     ·rw [r4];rfl
     ·exact oN.first hTq.1 (hTq.1.2.2.1.2.1 _ hmm) (hTq.2 _ hmm)
   obtain ⟨ak,k1,k2⟩:=key;obtain ⟨k3,k4⟩:=k2 Kt;have hfit:=hKt.fit hKtk ak hKtl.symm (Bool.and_eq_true_iff.1 d4).1 (vO (by omega) d5);rw [k1] at hfit;have hne:(f.ins l).op≠23:=by omega
   obtain ⟨_,K',hK',hin⟩:=g7 _ (FR hne h39);rw [d3,k3] at hin;have e1:((f.pc:Int)+1).toNat=f.pc+1:=by omega
   rw [e1] at hK';refine .inl ⟨_,_,rfl,rfl,⟨⟨[],k4,rfl,rfl,rfl,iS.nil_,hfit.app iS.rep⟩,⟨⟨K',Ku,hK',hin,hKuk,gw,gm,by show g.pc+1=f.pc+1;rw [gpc],hKu,gloc⟩,hch.cong (by rfl)⟩,rfl,hr1⟩⟩
 rw [if_neg hc,if_neg hc];by_cases hs:cV (f.ins l).op
 ·rw [if_pos hs,if_pos hs,gw,hlen];have S:=VD (who:=f.who) g2.xr hs hr1.ps hr1.sz hKt hKtl d4 d5;generalize eB r1.ps f.who (f.ins l) t=X at *;generalize eB r2.ps f.who (f.ins l) t'=Y at *;rw [S.st];have hne:(f.ins l).op≠23:=by unfold cV at hs;omega
  obtain ⟨_,K',hK',hin⟩:=g7 _ (FR hne h39);rw [d3] at hin;have e1:((f.pc:Int)+1).toNat=f.pc+1:=by omega
  rw [e1] at hK';by_cases hf:X.2.1=36864
  ·rw [if_pos hf,if_pos hf]
   have hv:iS X.2.2.ar (eC (f.img l) (f.me l) (f.ins l) Kt) (if gV (f.ins l).op then [] else [X.1]) (if gV (f.ins l).op then [] else [Y.1]):=by
    have hl1:=xA (i:=f.img l) (me:=f.me l) hs;have hl2:=DE (f.img l) (f.me l) (f.ins l) Kt;by_cases h0:gV (f.ins l).op
    ·rw [if_pos h0] at hl1;rw [if_pos h0,if_pos h0,List.eq_nil_of_length_eq_zero (hl2.trans hl1.symm)];exact iS.nil_
    ·rw [if_neg h0] at hl1;rw [if_neg h0,if_neg h0];obtain ⟨k,hk⟩:=List.length_eq_one_iff.1 (hl2.trans hl1.symm);have:=S.val hf h0 (f.img l) (f.me l);rw [hk] at this ⊢;exact ⟨this,trivial⟩
   refine .inl ⟨_,_,rfl,rfl,⟨⟨K',hK',rfl,gm,by show g.pc+1=f.pc+1;rw [gpc],((hKu.grow S.grow).app hv).up hin,gloc.grow S.grow⟩,(hch.grow S.grow).cong (by rfl),rfl,⟨S.lo,λk hk=>(hr1.fd k hk).grow S.grow,hr1.base.grow S.grow,by rw [S.size];exact hr1.sz⟩⟩⟩
  ·rw [if_neg hf,if_neg hf];exact .inr ⟨_,_,_,_,_,rfl,rfl,S.lo.evs _⟩
 ·rw [if_neg hs,if_neg hs];have hp:DQ (f.ins l).op:=⟨by omega,by omega,h39,hs⟩;obtain ⟨to,hto,hpc⟩:=FJ g2.xr h39 f.pc t;obtain ⟨_,K',hK',hin⟩:=g7 to hto;rw [d3] at hin;have e1:to.toNat=zU (f.ins l) f.pc t:=by omega
  rw [e1] at hK';have hpush:=aEi (f:=f) (g:=g) (fd:=r1.fd) (fd':=r2.fd) g2 hp gw gloc (hr1.fd _ hm.top.who) hr1.base hKt hKtk hKtl d4 d5;refine .inl ⟨_,_,rfl,rfl,⟨⟨K',hK',gw,gm,?_,(hKu.app hpush).up hin,aPc g2 gloc hKt hKtk hKtl d4 d5⟩,hch.cong (by rfl),rfl,⟨hr1.ps,aVd g2 gw hfd1 hfd2 hr1.fd hm.top.who hKt hKtk hKtl d4 d5,hr1.base,hr1.sz⟩⟩⟩;show zU (f.ins l) g.pc t'=zU (f.ins l) f.pc t;rw [gpc];exact aUo hKt hKtl d5 f.pc
theorem aEx {l:List bE} (hT:oE l) {e:zR} (he:uM l m e):∀ {n:PM} {e':zR},m.ok l->n.ok l->LoM l m n->uM l n e'->e'.s=e.s/\e'.depth=e.depth/\e'.fuel=e.fuel/\LoP e.r.ps e'.r.ps:=by
 induction he with
 | fin h1=>
  intro n e' hm hn h he';rcases OK hT hm hn h with ⟨m1,n1,e1,e2,_⟩|⟨s,d,q,r,r',e1,e2,e3⟩
  ·rw [h1] at e1;cases e1
  ·rw [h1] at e1;cases e1;cases he' with
   | fin h2=>rw [e2] at h2;cases h2;exact ⟨rfl,rfl,rfl,e3⟩
   | go h2 _=>rw [e2] at h2;cases h2
 | go h1 _ ih=>
  intro n e' hm hn h he';rcases OK hT hm hn h with ⟨m1,n1,e1,e2,e3⟩|⟨s,d,q,r,r',e1,e2,e3⟩
  ·rw [h1] at e1;cases e1;cases he' with
   | fin h2=>rw [e2] at h2;cases h2
   | go h2 h3=>rw [e2] at h2;cases h2;exact ih (sQ hT hm h1) (sQ hT hn e2) e3 h3
  ·rw [h1] at e1;cases e1
end Go.Proofs.YtgkkecladbmjkaaGreatDoor
namespace Go.Proofs.YtgkkecladbmjkaaGreatDoor
open Tryz
open Go.Vc
structure kF (p:RP) (w:O):Prop where
 room:lV w p.rb 0 [.pointer (some ⟨p.hb,0,none⟩),p.iv,p.fv,p.pub,p.sec]
 h:fK w p.hb p.B p.size p.g p.cap p.ar
 qp:w.ownsRow p.B 5 1 p.pub p.tp.length (p.tp.map u8)
 qs:w.ownsRow p.B 5 1 p.sec p.ts.length (p.ts.map u8)
 lp:p.tp.length<=128
 ls:p.ts.length<=128
 ne:∀ x,p.pub.ownBlock=some x->p.sec.ownBlock≠some x
 np:∀ a∈p.ar,∀ x,a.dv.ownBlock=some x->p.pub.ownBlock≠some x
 ns:∀ a∈p.ar,∀ x,a.dv.ownBlock=some x->p.sec.ownBlock≠some x
 gp:p.pub.ownBlock≠some p.g
 gs:p.sec.ownBlock≠some p.g
 lt:p.rb≠p.hb
 fresh:∀ x,(x=p.rb\/x=p.hb)->x≠p.g/\(∀ a∈p.ar,a.dv.ownBlock≠some x)/\p.pub.ownBlock≠some x/\p.sec.ownBlock≠some x
 two:2<=p.ar.length
 sz:0<=p.size/\p.size<=1000
 bytes:∀ a∈p.ar,pR a.data
section
variable {p:RP} {w w':O}
theorem kF.trace (h:kF p w) {tb:Nat} (ht:bA w tb [.slice none 0 0] 125) (hn:¬ jF p tb):bX { p with tb:=tb,tv:=.slice none 0 0,tr:=[] } w:=by
 refine ⟨h.room,h.h,h.qp,h.qs,h.lp,h.ls,h.ne,h.np,h.ns,h.gp,h.gs,h.lt,h.fresh,ht,World.ownsRow_nil _ _ _ _,λe=>(by cases e),λi hi hm=>?_,h.two,h.sz,h.bytes⟩;rcases hi with hi|hi
 ·have hi:i=tb:=hi;subst hi;exact hn hm
 ·cases hi
theorem kF.hi (h:kF p w):∀ i,jF p i->i < w.heap.size:=by
 intro i hm;rcases hm with rfl|rfl|rfl|⟨a,ha,he⟩|he|he
 ·exact h.room.lt
 ·exact h.h.heap.lt
 ·exact (h.h.row.lt _ rfl).2
 ·exact ((h.h.data a ha).lt _ he).2
 ·exact (h.qp.lt _ he).2
 ·exact (h.qs.lt _ he).2
theorem kF.fr {S:Nat->Prop} (h:kF p w) (f:Fr S w w') (hn:∀ i,jF p i->¬ S i):kF p w':=
 ⟨f.seg h.room (hn _ (.inl rfl)),h.h.frT f λi hs=>⟨λe=>hn i (.inr (.inl e)) hs,λe=>hn i (.inr (.inr (.inl e))) hs,λa ha e=>hn i (.inr (.inr (.inr (.inl ⟨a,ha,e⟩)))) hs⟩,
  f.own h.qp λi hi=>hn i (.inr (.inr (.inr (.inr (.inl hi))))),f.own h.qs λi hi=>hn i (.inr (.inr (.inr (.inr (.inr hi))))),h.lp,h.ls,h.ne,h.np,h.ns,h.gp,h.gs,h.lt,h.fresh,h.two,h.sz,h.bytes⟩
theorem kF.ext (h:kF p w) (hx:aG w w'):kF p w':=h.fr (Fr.of_ext (S:=λ_=>False) hx) λ_ _ h=>h
structure AE (p p':RP) (w w':O):Prop where
 rb:p'.rb=p.rb
 hb:p'.hb=p.hb
 B:p'.B=p.B
 tb:p'.tb=p.tb
 size:p'.size=p.size
 iv:p'.iv=p.iv
 fv:p'.fv=p.fv
 mu:∀ i,jF p' i->jF p i\/w.heap.size<=i
 fr:Fr (jF p) w w'
theorem AE.of_ext (hx:aG w w'):AE p p w w':=⟨rfl,rfl,rfl,rfl,rfl,rfl,rfl,λ_ hi=>.inl hi,Fr.of_ext hx⟩
theorem AE.trans {p1 p2:RP} {w1 w2:O} (h:AE p p1 w w1) (k:AE p1 p2 w1 w2):AE p p2 w w2:=
 ⟨k.rb.trans h.rb,k.hb.trans h.hb,k.B.trans h.B,k.tb.trans h.tb,k.size.trans h.size,k.iv.trans h.iv,k.fv.trans h.fv,λi hi=>by
  rcases k.mu i hi with h1|h1
  ·exact h.mu i h1
  ·exact .inr (Nat.le_trans h.fr.size h1),h.fr.trans k.fr λi hi hs=>by
  rcases h.mu i hs with h1|h1
  ·exact h1
  ·omega⟩
theorem kF.setDv (h:kF p w) {k:Nat} {x:bS} (hk:p.ar[k]?=some x) {v':Z} {d':List Int} (hd:d'.length<=64) (hok:pR d') (ho:w.ownsRow p.B 5 1 v' d'.length (d'.map u8)) (hn:∀ i,v'.ownBlock=some i->¬ jF p i) :
  kF { p with ar:=p.ar.set k { x with dv:=v',data:=d' } } (w.setCell ⟨p.g,k*5+4,none⟩ v')/\(∀ i,jF { p with ar:=p.ar.set k { x with dv:=v',data:=d' } } i->jF p i\/v'.ownBlock=some i)/\Fr (λi=>i=p.g) w (w.setCell ⟨p.g,k*5+4,none⟩ v'):=by
 have hkl:k < p.ar.length:=(List.getElem?_eq_some_iff.1 hk).1;have hxm:=List.mem_of_getElem? hk;have f:Fr (λi=>i=p.g) w (w.setCell ⟨p.g,k*5+4,none⟩ v'):=Fr.of_set rfl
 have find:∀ {i:Nat} {a:bS},(p.ar.set k { x with dv:=v',data:=d' })[i]?=some a->(i=k/\a={ x with dv:=v',data:=d' })\/(i≠k/\p.ar[i]?=some a):=by
  intro i a hi;by_cases hik:k=i
  ·subst hik;rw [List.getElem?_set_self hkl] at hi;cases hi;exact .inl ⟨rfl,rfl⟩
  ·rw [List.getElem?_set_ne hik] at hi;exact .inr ⟨λe=>hik e.symm,hi⟩
 have each:∀ a∈p.ar.set k { x with dv:=v',data:=d' },a={ x with dv:=v',data:=d' }\/a∈p.ar:=by
  intro a ha;obtain ⟨i,hi⟩:=List.getElem?_of_mem ha;rcases find hi with ⟨_,e⟩|⟨_,e⟩
  ·exact .inl e
  ·exact .inr (List.mem_of_getElem? e)
 have inM:∀ a∈p.ar,∀ i,a.dv.ownBlock=some i->jF p i:=λa ha i hi=>.inr (.inr (.inr (.inl ⟨a,ha,hi⟩)))
 have mu:∀ i,jF { p with ar:=p.ar.set k { x with dv:=v',data:=d' } } i->jF p i\/v'.ownBlock=some i:=λi hi=>by
  rcases hi with hi|hi|hi|⟨a,ha,he⟩|hi
  ·exact .inl (.inl hi)
  ·exact .inl (.inr (.inl hi))
  ·exact .inl (.inr (.inr (.inl hi)))
  ·rcases each a ha with rfl|ha
   ·exact .inr he
   ·exact .inl (inM a ha i he)
  ·exact .inl (.inr (.inr (.inr (.inr hi))))
 have hgM:jF p p.g:=.inr (.inr (.inl rfl))
 have hrow:(w.setCell ⟨p.g,k*5+4,none⟩ v').ownsRow p.B 127 5 (.slice (some ⟨p.g,0,none⟩) p.ar.length p.cap) p.ar.length (iL (p.ar.set k { x with dv:=v',data:=d' })):=by
  rw [xF hk];exact (h.h.row.stored (k*5+4) v').1
 refine ⟨⟨f.seg h.room (λe=>(h.fresh p.rb (.inl rfl)).1 e),⟨?_,?_,λa ha=>?_,λa ha=>?_,λi j a b y hi hj ha hb'=>?_,λa ha=>?_,by have:=f.size;have:=h.h.lt;show p.B<=_;omega,by simpa using h.h.cnt,⟨h.h.fresh.1,λa ha=>?_⟩⟩,f.own h.qp λi hi e=>h.gp (e▸hi),f.own h.qs λi hi e=>h.gs (e▸hi),h.lp,h.ls,h.ne,λa ha y hy=>?_,λa ha y hy=>?_,h.gp,h.gs,h.lt,λy hy=>⟨(h.fresh y hy).1,λa ha=>?_,(h.fresh y hy).2.2⟩,
  by simpa using h.two,h.sz,λa ha=>?_⟩,mu,f⟩
 ·have:=f.blk h.h.heap λe=>h.h.fresh.1 e;simpa using this
 ·simpa using hrow
 ·rcases each a ha with rfl|ha
  ·exact f.own ho λi hi e=>(hn i hi) (e▸hgM)
  ·exact f.own (h.h.data a ha) λi hi e=>h.h.drow a ha (e▸hi)
 ·rcases each a ha with rfl|ha
  ·exact hd
  ·exact h.h.len a ha
 ·rcases find hi with ⟨rfl,rfl⟩|⟨_,hi'⟩<;>rcases find hj with ⟨rfl,rfl⟩|⟨_,hj'⟩
  ·rfl
  ·exact absurd (inM b (List.mem_of_getElem? hj') y hb') (hn y ha)
  ·exact absurd (inM a (List.mem_of_getElem? hi') y ha) (hn y hb')
  ·exact h.h.dist i j a b y hi' hj' ha hb'
 ·rcases each a ha with rfl|ha
  ·exact λe=>(hn _ e) hgM
  ·exact h.h.drow a ha
 ·rcases each a ha with rfl|ha
  ·exact λe=>(hn _ e) (.inr (.inl rfl))
  ·exact h.h.fresh.2 a ha
 ·rcases each a ha with rfl|ha
  ·exact λe=>(hn y hy) (.inr (.inr (.inr (.inr (.inl e)))))
  ·exact h.np a ha y hy
 ·rcases each a ha with rfl|ha
  ·exact λe=>(hn y hy) (.inr (.inr (.inr (.inr (.inr e)))))
  ·exact h.ns a ha y hy
 ·rcases each a ha with rfl|ha
  ·exact λe=>(hn y e) (hy.elim (λe=>.inl e) λe=>.inr (.inl e))
  ·exact (h.fresh y hy).2.1 a ha
 ·rcases each a ha with rfl|ha
  ·exact hok
  ·exact h.bytes a ha
theorem wZ (h:kF p w) {k:Nat} (hk:k < 2) {x:bS} (hx:p.ar[k]?=some x) {v:Z} {l:List Int} (hv:gK w v l) (hl:l.length<=64) (hok:pR l) :
  aD prog 86 #[.pointer (some ⟨p.hb,0,none⟩),i64 ((k:Int)+1),v] w λ_ w'=>∃ v',kF { p with ar:=p.ar.set k { x with dv:=v',data:=l } } w'/\AE p { p with ar:=p.ar.set k { x with dv:=v',data:=l } } w w'/\Fr (λi=>i=p.g) w w':=by
 apply aRw
 have key:∀ {R:Z->O->Prop},(aD prog 97 #[.pointer (some ⟨p.hb,0,none⟩),i64 ((k:Int)+1)] w λt20 w9=>aD prog 58 #[v] w9 λt22 w10=>Go.Vc.aM (t20) /\
   V prog (Instr.fieldAt 127 t20 4) w10 λt24 w12=>U prog (Instr.storeAt 23 t24 t22) w12 λ_ w13=>R (Value.bool true) w13)->DU (.pointer (some ⟨p.hb,0,none⟩)) (i64 ((k:Int)+1)) v w R:=by
  intro R hgo;unfold DU;obtain ⟨a,c,rfl⟩:=hv.shape;refine aX.2 ?_;have h2:k=0\/k=1:=by omega
  rcases h2 with rfl|rfl
  ·simp only [show decide ((((0:Nat):Int)+1)≠1)=false by decide,fA,aMy,aH,reduceIte,Bool.false_eq_true];refine mK.2 ?_;refine dI.2 ?_;simp only [show ¬ (((l.length:Nat):Int) > 64) by omega,aA,decide_false];exact hgo
  ·simp only [show decide ((((1:Nat):Int)+1)≠1)=true by decide,show decide ((((1:Nat):Int)+1)≠2)=false by decide,aX,DF,fA,aH,reduceIte,Bool.false_eq_true];refine mK.2 ?_;refine dI.2 ?_;simp only [show ¬ (((l.length:Nat):Int) > 64) by omega,aA,decide_false];exact hgo
 refine key ?_;have hkl:k < p.ar.length:=(List.getElem?_eq_some_iff.1 hx).1;refine (yS h.h).mono λr w1 ⟨hr,hw⟩=>?_;rw [DL rfl hkl] at hr;subst hr;have hw:=hw.symm;subst hw;refine (TQ hv (by omega)).mono λv' w1 ⟨ho,x1⟩=>?_;have h1:=h.ext x1;have hBw:=h.h.lt;refine ⟨.inl ⟨_,rfl⟩,?_⟩;refine V.ok iY ?_;refine U.ok (kO lA (bR ho) (h1.h.get hx (by omega:4 < 5)) (h1.h.row.frozenAt _)) ?_
 obtain ⟨h2,mu2,f2⟩:=h1.setDv hx hl hok (aR ho hBw) λi hi=>by
  have hi':=(ho.lt i hi).1;exact λhm=>by have:=h.hi i hm;omega
 refine ⟨v',h2,⟨rfl,rfl,rfl,rfl,rfl,rfl,rfl,λi hi=>?_,((Fr.of_ext (S:=λi=>i=p.g) x1).trans f2 λ_ _ h=>h).mono λi hi=>.inr (.inr (.inl hi))⟩,(Fr.of_ext (S:=λi=>i=p.g) x1).trans f2 λ_ _ h=>h⟩;rcases mu2 i hi with hm|hm
 ·exact .inl hm
 ·exact .inr (ho.lt i hm).1
theorem kF.clear (h:kF p w):kF { p with pub:=.slice none 0 0,sec:=.slice none 0 0,tp:=[],ts:=[] } ((w.setCell ⟨p.rb,0+3,none⟩ (.slice none 0 0)).setCell ⟨p.rb,0+4,none⟩ (.slice none 0 0))/\Fr (λi=>i=p.rb) w ((w.setCell ⟨p.rb,0+3,none⟩ (.slice none 0 0)).setCell ⟨p.rb,0+4,none⟩ (.slice none 0 0)):=by
 have r1:=h.room.set (j:=3) (by simp) (.slice none 0 0);have r2:=r1.set (j:=4) (by simp) (.slice none 0 0);have f1:Fr (λi=>i=p.rb) w (w.setCell ⟨p.rb,0+3,none⟩ (.slice none 0 0)):=Fr.of_set rfl;have f:Fr (λi=>i=p.rb) w ((w.setCell ⟨p.rb,0+3,none⟩ (.slice none 0 0)).setCell ⟨p.rb,0+4,none⟩ (.slice none 0 0)):=f1.set rfl;have hf:=λa ha=>(h.fresh p.rb (.inl rfl)).2.1 a ha
 refine ⟨⟨r2,h.h.frT f λi hi=>⟨λe=>h.lt (hi▸e),λe=>(h.fresh p.rb (.inl rfl)).1 (hi▸e),λa ha e=>hf a ha (hi▸e)⟩,⟨rfl,.inl ⟨rfl,rfl⟩⟩,⟨rfl,.inl ⟨rfl,rfl⟩⟩,by simp,by simp,λx hx=>(by cases hx),λa ha x hx=>(by simp [Value.ownBlock]),λa ha x hx=>(by simp [Value.ownBlock]),λhx=>(by cases hx),λhx=>(by cases hx),h.lt,λy hy=>⟨(h.fresh y hy).1,(h.fresh y hy).2.1,λhx=>(by cases hx),λhx=>(by cases hx)⟩,
  h.two,h.sz,h.bytes⟩,f⟩
theorem TW (h:kF p w) {pv qv:Z} {a b:List Int} (ha:gK w pv a) (hb:∀ w',Fr (jF p) w w'->gK w' qv b) (oka:pR a) (okb:pR b) :
  aD prog 42 #[kM p,pv,qv] w λr w'=>∃ p',r=.bool (jI p.ps a b).1/\p'.ps=(jI p.ps a b).2/\kF p' w'/\AE p p' w w':=by
 apply aSp;unfold QR;obtain ⟨a1,c1,rfl⟩:=ha.shape;obtain ⟨b1,d1,rfl⟩:=(hb w (Fr.refl _ _)).shape;refine mK.2 (dI.2 ?_);by_cases h1:((a.length:Nat):Int) > 64
 ·simp only [h1,jQ,aH,aE,reduceIte,decide_true];refine ⟨p,?_,?_,h,AE.of_ext (aG.refl _)⟩<;>unfold jI<;>rw [if_pos (.inl (by omega))]
 simp only [h1,fA,aH,reduceIte,Bool.false_eq_true,decide_false];refine mK.2 (dI.2 ?_);by_cases h2:((b.length:Nat):Int) > 64
 ·simp only [h2,aE,decide_true];refine ⟨p,?_,?_,h,AE.of_ext (aG.refl _)⟩<;>unfold jI<;>rw [if_pos (.inr (by omega))]
 simp only [h2,aA,decide_false];have hno:¬ (a.length > 64\/b.length > 64):=by omega
 have htwo:=h.two;obtain ⟨x,hx⟩:=bK (l:=p.ar) (j:=0) (by omega);obtain ⟨y,hy⟩:=bK (l:=p.ar) (j:=1) (by omega);refine ⟨.inl ⟨_,rfl⟩,?_⟩;refine bC h.room.boxed bW eG rfl ?_;refine (wZ h (k:=0) (by omega) hx ha (by omega) oka).mono λ_ w1 ⟨v1,g1,s1,f1⟩=>?_;refine ⟨.inl ⟨_,rfl⟩,?_⟩;refine bC g1.room.boxed bW eG rfl ?_;have hy1:(p.ar.set 0 { x with dv:=v1,data:=a })[1]?=some y:=by rw [List.getElem?_set_ne (by decide)];exact hy
 refine (wZ g1 (k:=1) (by omega) hy1 (hb w1 s1.fr) (by omega) okb).mono λ_ w2 ⟨v2,g2,s2,f2⟩=>?_;have S2:=s1.trans s2;refine ⟨.inl ⟨_,rfl⟩,?_⟩;refine V.ok sX ?_;refine EU lA g2.room rfl (by simp) rfl ?_;have r3:=g2.room.set (j:=3) (by simp) (.slice none 0 0);refine ⟨.inl ⟨_,rfl⟩,?_⟩;refine V.ok xM ?_;refine EU lA r3 rfl (by simp) rfl ?_;obtain ⟨g4,f4⟩:=g2.clear;refine ⟨_,?_,?_,g4,S2.trans ⟨rfl,rfl,rfl,rfl,rfl,rfl,rfl,λi hi=>?_,f4.mono λi hi=>.inl hi⟩⟩
 ·unfold jI;rw [if_neg hno]
 ·unfold jI;rw [if_neg hno];show (⟨p.size,((p.ar.set 0 { x with dv:=v1,data:=a }).set 1 { y with dv:=v2,data:=b }).map pa,[],[],p.tr⟩:PS)=_;rw [uQ (r:=2) hy1 (by omega),uQ (r:=1) hx (by omega)];rfl
 ·rcases hi with hm|hm|hm|hm|hm|hm
  ·exact .inl (.inl hm)
  ·exact .inl (.inr (.inl hm))
  ·exact .inl (.inr (.inr (.inl hm)))
  ·exact .inl (.inr (.inr (.inr (.inl hm))))
  iterate 2
   ·cases hm
end
end Go.Proofs.YtgkkecladbmjkaaGreatDoor
namespace Go.Proofs.YtgkkecladbmjkaaGreatDoor
open Tryz
open Go.Vc Go.Tc
inductive Lb
 | rm|im|fo|fd|mb|fr|ex
structure iP where
 rp:RP
 fo:Nat
 vs:List Z
 IB:Nat->Prop
 mb:Nat
def qO (q:FP) (i:Nat):Prop:=FM q i\/q.cv.ownBlock=some i
def WR (p:iP) (q:FP) (X:Nat->Prop):Lb->Nat->Prop
 | .rm,i=>jF p.rp i\/lK p.rp i
 | .im,i=>p.IB i
 | .fo,i=>i=p.fo
 | .fd,i=>FdM p.vs i
 | .mb,i=>i=p.mb
 | .fr,i=>qO q i
 | .ex,i=>X i
structure Sep (R:Lb->Nat->Prop) (n:Nat):Prop where
 dj:∀ a b i,R a i->R b i->a=b
 lt:∀ a i,R a i->i < n
theorem Sep.step {R R':Lb->Nat->Prop} {n n':Nat} (h:Sep R n) (hn:n<=n') (k:Lb) (h1:∀ a i,R' a i->R a i\/(a=k/\n<=i/\i < n')):Sep R' n':=by
 refine ⟨λa b i ha hb=>?_,λa i ha=>?_⟩
 ·rcases h1 a i ha with ha|⟨e1,h2,_⟩<;>rcases h1 b i hb with hb|⟨e2,h3,_⟩
  ·exact h.dj a b i ha hb
  ·have:=h.lt a i ha;omega
  ·have:=h.lt b i hb;omega
  ·rw [e1,e2]
 ·rcases h1 a i ha with ha|⟨_,_,h2⟩
  ·have:=h.lt a i ha;omega
  ·exact h2
structure Wh (l:List bE) (p:iP) (q:FP) (f:gY) (r:Rm) (X:Nat->Prop) (sl:Z) (fu st:Int) (w:O):Prop where
 room:bX p.rp w
 rps:p.rp.ps=r.ps
 fld:tI w p.rp.fv p.fo p.vs r.fd
 img:vH p.IB w λw'=>jS w' p.rp.iv l
 box:lV w p.mb 0 [kM p.rp,qJ p.rp,sl,i64 fu,i64 st]
 frm:pQ w q (f.me l) f
 sep:Sep (WR p q X) w.heap.size
def WM (p:iP) (q:FP) (i:Nat):Prop:=(jF p.rp i\/lK p.rp i)\/FdM p.vs i\/i=p.mb\/FM q i
structure jM (p:iP) (q:FP) (p':iP) (q':FP) (w w':O):Prop where
 pe:p'={ p with rp:=p'.rp }
 rb:p'.rp.rb=p.rp.rb
 tb:p'.rp.tb=p.rp.tb
 iv:p'.rp.iv=p.rp.iv
 fv:p'.rp.fv=p.rp.fv
 mu:∀ i,jF p'.rp i\/lK p'.rp i->(jF p.rp i\/lK p.rp i)\/w.heap.size<=i
 qe:q'={ q with sv:=q'.sv }
 sv:∀ i,q'.sv.ownBlock=some i->q.sv.ownBlock=some i\/w.heap.size<=i
 fr:Fr (WM p q) w w'
section
variable {l:List bE} {p p1 p2:iP} {q q1 q2:FP} {f f':gY} {r r':Rm} {X:Nat->Prop} {sl:Z} {fu st:Int} {w w1 w':O}
theorem jM.of_ext (hx:aG w w'):jM p q p q w w':=⟨rfl,rfl,rfl,rfl,rfl,λ_ h=>.inl h,rfl,λ_ h=>.inl h,Fr.of_ext hx⟩
theorem jM.wm (s:jM p q p1 q1 w w1) {i:Nat} (h:WM p1 q1 i):WM p q i\/w.heap.size<=i:=by
 have e:=s.pe;have e2:=s.qe;rcases h with h|h|h|h
 ·rcases s.mu i h with h|h
  ·exact .inl (.inl h)
  ·exact .inr h
 ·rw [e] at h;exact .inl (.inr (.inl h))
 ·rw [e] at h;exact .inl (.inr (.inr (.inl h)))
 ·rcases h with h|h|h
  ·rw [e2] at h;exact .inl (.inr (.inr (.inr (.inl h))))
  ·rw [e2] at h;exact .inl (.inr (.inr (.inr (.inr (.inl h)))))
  ·rcases s.sv i h with h|h
   ·exact .inl (.inr (.inr (.inr (.inr (.inr h)))))
   ·exact .inr h
theorem jM.trans (s:jM p q p1 q1 w w1) (k:jM p1 q1 p2 q2 w1 w'):jM p q p2 q2 w w':=by
 refine ⟨?_,k.rb.trans s.rb,k.tb.trans s.tb,k.iv.trans s.iv,k.fv.trans s.fv,λi hi=>?_,?_,λi hi=>?_,s.fr.trans k.fr λi hi hm=>?_⟩
 ·rw [k.pe,s.pe]
 ·rcases k.mu i hi with h|h
  ·exact s.mu i h
  ·exact .inr (Nat.le_trans s.fr.size h)
 ·rw [k.qe,s.qe]
 ·rcases k.sv i hi with h|h
  ·exact s.sv i h
  ·exact .inr (Nat.le_trans s.fr.size h)
 ·rcases s.wm hm with h|h
  ·exact h
  ·omega
theorem jM.mb (s:jM p q p1 q1 w w1):p1.mb=p.mb:=by rw [s.pe]
theorem jM.fb (s:jM p q p1 q1 w w1):q1.fb=q.fb:=by rw [s.qe]
theorem jM.pf (s:jM p q p1 q1 w w1):Proofs.YtgkkecladbmjkaaGreatDoor.pf q1=Proofs.YtgkkecladbmjkaaGreatDoor.pf q:=by unfold Proofs.YtgkkecladbmjkaaGreatDoor.pf;rw [s.fb]
def pm (p:iP):Z:=.pointer (some ⟨p.mb,0,none⟩)
theorem jM.pm (s:jM p q p1 q1 w w1):Proofs.YtgkkecladbmjkaaGreatDoor.pm p1=Proofs.YtgkkecladbmjkaaGreatDoor.pm p:=by unfold Proofs.YtgkkecladbmjkaaGreatDoor.pm;rw [s.mb]
def gR (l:List bE) (p:iP) (q:FP) (f:gY) (r:Rm) (X:Nat->Prop) (sl:Z) (fu st:Int) (w w':O):Prop:=∃ p' q',Wh l p' q' f r X sl fu st w'/\jM p q p' q' w w'
theorem Wh.go (h:Wh l p q f r X sl fu st w):gR l p q f r X sl fu st w w:=⟨p,q,h,jM.of_ext (aG.refl _)⟩
theorem gR.after (s:jM p q p1 q1 w w1) (g:gR l p1 q1 f r X sl fu st w1 w'):gR l p q f r X sl fu st w w':=by
 obtain ⟨p',q',h1,h2⟩:=g;exact ⟨p',q',h1,s.trans h2⟩
theorem gR.of_ext (hx:aG w w1) (g:gR l p q f r X sl fu st w1 w'):gR l p q f r X sl fu st w w':=gR.after (jM.of_ext hx) g
theorem Wh.fr {S:Nat->Prop} (h:Wh l p q f r X sl fu st w) (g:Fr S w w') (hn:∀ a i,a≠Lb.ex->WR p q X a i->¬ S i):Wh l p q f r X sl fu st w':=by
 have rm:=λi hi=>hn .rm i (by intro e;cases e) hi;refine ⟨h.room.fr g λi hs=>⟨λhm=>rm i (.inl hm) hs,λhm=>rm i (.inr hm) hs⟩,h.rps,h.fld.fr g (hn .fo _ (by intro e;cases e) rfl) λi hi=>hn .fd i (by intro e;cases e) hi,h.img.fr g λi hi=>hn .im i (by intro e;cases e) hi,g.seg h.box (hn .mb _ (by intro e;cases e) rfl),h.frm.fr g λi hi=>hn .fr i (by intro e;cases e) hi,?_⟩;exact h.sep.step g.size .ex λa i ha=>.inl ha
theorem Wh.ext (h:Wh l p q f r X sl fu st w) (hx:aG w w'):Wh l p q f r X sl fu st w':=h.fr (Fr.of_ext (S:=λ_=>False) hx) λ_ _ _ _ h=>h
theorem Wh.other (h:Wh l p q f r X sl fu st w) {i:Nat} (hi:X i):¬ WM p q i:=by
 intro hm;rcases hm with hm|hm|hm|hm
 ·cases h.sep.dj .rm .ex i hm hi
 ·cases h.sep.dj .fd .ex i hm hi
 ·cases h.sep.dj .mb .ex i hm hi
 ·cases h.sep.dj .fr .ex i (.inl hm) hi
theorem Wh.frame (h:Wh l p q f r X sl fu st w) (g:YX q (f.me l) f' w w') (hw:f'.who=f.who) (hm:f'.mth=f.mth):gR l p q f' r X sl fu st w w':=by
 obtain ⟨q',h1,s⟩:=g;have eme:f'.me l=f.me l:=by unfold gY.me gY.img;rw [hw,hm]
 have F:=s.fr;have hn:∀ a i,a≠Lb.fr->WR p q X a i->¬ FM q i:=λa i ha hi hm=>ha (h.sep.dj a .fr i hi (.inl hm));have rm:=λi hi=>hn .rm i (by intro e;cases e) hi;refine ⟨p,q',⟨h.room.fr F λi hs=>⟨λhm=>rm i (.inl hm) hs,λhm=>rm i (.inr hm) hs⟩,h.rps,h.fld.fr F (hn .fo _ (by intro e;cases e) rfl) λi hi=>hn .fd i (by intro e;cases e) hi,h.img.fr F λi hi=>hn .im i (by intro e;cases e) hi,F.seg h.box (hn .mb _ (by intro e;cases e) rfl),eme▸h1,?_⟩,⟨rfl,rfl,rfl,rfl,rfl,λ_ h=>.inl h,s.same,s.sv,F.mono λi hi=>.inr (.inr (.inr hi))⟩⟩;refine h.sep.step F.size .fr λa i ha=>?_;cases a with
 | fr=>
  have hlt:=h1.hi i ha;rcases ha with ha|ha
  ·rcases s.fm ha with h2|h2
   ·exact .inl (.inl h2)
   ·exact .inr ⟨rfl,h2,hlt⟩
  ·rw [s.same] at ha;exact .inl (.inr ha)
 | _=>exact .inl ha
theorem Wh.roomS (h:Wh l p q f r X sl fu st w) {rp':RP} (ht:bX rp' w') (s:oF p.rp rp' w w') (hps:rp'.ps=r'.ps) (hfd:r'.fd=r.fd):gR l p q f r' X sl fu st w w':=by
 have F:=s.fr;have hn:∀ a i,a≠Lb.rm->WR p q X a i->¬ (jF p.rp i\/lK p.rp i):=λa i ha hi hm=>ha (h.sep.dj a .rm i hi hm);have eR:kM rp'=kM p.rp:=by unfold kM;rw [s.rb]
 have eT:qJ rp'=qJ p.rp:=by unfold qJ;rw [s.tb]
 refine ⟨{ p with rp:=rp' },q,⟨ht,hps,?_,?_,?_,h.frm.fr F λi hi=>hn .fr i (by intro e;cases e) hi,?_⟩,⟨rfl,s.rb,s.tb,s.iv,s.fv,λi hi=>?_,rfl,λ_ h=>.inl h,F.mono λi hi=>.inl hi⟩⟩
 ·show tI w' rp'.fv p.fo p.vs r'.fd;rw [s.fv,hfd];exact h.fld.fr F (hn .fo _ (by intro e;cases e) rfl) λi hi=>hn .fd i (by intro e;cases e) hi
 ·show vH p.IB w' λw''=>jS w'' rp'.iv l;rw [s.iv];exact h.img.fr F λi hi=>hn .im i (by intro e;cases e) hi
 ·show lV w' p.mb 0 [kM rp',qJ rp',sl,i64 fu,i64 st];rw [eR,eT];exact F.seg h.box (hn .mb _ (by intro e;cases e) rfl)
 ·refine h.sep.step F.size .rm λa i ha=>?_;cases a with
  | rm=>
   have hlt:=ht.hi i ha;rcases s.mu i ha with h2|h2|h2
   ·exact .inl (.inl h2)
   ·exact .inl (.inr h2)
   ·exact .inr ⟨rfl,h2,hlt⟩
  | _=>exact .inl ha
 ·rcases s.mu i hi with h2|h2|h2
  ·exact .inl (.inl h2)
  ·exact .inl (.inr h2)
  ·exact .inr h2
theorem Wh.fieldS (h:Wh l p q f r X sl fu st w) {fd:List (List Int)} (hf:tI w' p.rp.fv p.fo p.vs fd) (F:Fr (FdM p.vs) w w'):gR l p q f { r with fd:=fd } X sl fu st w w':=by
 have hn:∀ a i,a≠Lb.fd->WR p q X a i->¬ FdM p.vs i:=λa i ha hi hm=>ha (h.sep.dj a .fd i hi hm);have rm:=λi hi=>hn .rm i (by intro e;cases e) hi;refine ⟨p,q,⟨h.room.fr F λi hs=>⟨λhm=>rm i (.inl hm) hs,λhm=>rm i (.inr hm) hs⟩,h.rps,hf,h.img.fr F λi hi=>hn .im i (by intro e;cases e) hi,F.seg h.box (hn .mb _ (by intro e;cases e) rfl),h.frm.fr F λi hi=>hn .fr i (by intro e;cases e) hi,h.sep.step F.size .ex λa i ha=>.inl ha⟩,⟨rfl,rfl,rfl,rfl,rfl,λ_ h=>.inl h,rfl,λ_ h=>.inl h,F.mono λi hi=>.inr (.inl hi)⟩⟩
theorem Wh.cell (h:Wh l p q f r X sl fu st w) {sl':Z} {fu' st':Int} {j:Nat} {u:Z} (hj:j < 5) (he:[kM p.rp,qJ p.rp,sl,i64 fu,i64 st].set j u=[kM p.rp,qJ p.rp,sl',i64 fu',i64 st']):gR l p q f r X sl' fu' st' w (w.setCell ⟨p.mb,0+j,none⟩ u):=by
 have F:Fr (λi=>i=p.mb) w (w.setCell ⟨p.mb,0+j,none⟩ u):=Fr.of_set rfl;have hn:∀ a i,a≠Lb.mb->WR p q X a i->¬ i=p.mb:=λa i ha hi hm=>ha (h.sep.dj a .mb i hi hm);have rm:=λi hi=>hn .rm i (by intro e;cases e) hi;have hb:=h.box.set (j:=j) (by simpa using hj) u;rw [he] at hb;refine ⟨p,q,⟨h.room.fr F λi hs=>⟨λhm=>rm i (.inl hm) hs,λhm=>rm i (.inr hm) hs⟩,h.rps,h.fld.fr F (hn .fo _ (by intro e;cases e) rfl) λi hi=>hn .fd i (by intro e;cases e) hi,h.img.fr F λi hi=>hn .im i (by intro e;cases e) hi,hb,h.frm.fr F λi hi=>hn .fr i (by intro e;cases e) hi,h.sep.step F.size .ex λa i ha=>.inl ha⟩,⟨rfl,rfl,rfl,rfl,rfl,λ_ h=>.inl h,rfl,λ_ h=>.inl h,F.mono λi hi=>.inr (.inr (.inl hi))⟩⟩
theorem Wh.setPc (h:Wh l p q f r X sl fu st w) (pc:Nat):gR l p q { f with pc:=pc } r X sl fu st w (w.setCell ⟨q.fb,0+2,none⟩ (i64 (pc:Int))):=by
 have F:Fr (λi=>i=q.fb) w (w.setCell ⟨q.fb,0+2,none⟩ (i64 (pc:Int))):=Fr.of_set rfl;have hb:=h.frm.box.set (j:=2) (by simp [TT]) (i64 (pc:Int));have hd:=h.frm.db;refine h.frame ⟨q,⟨hb,F.own h.frm.loc λi hi=>hd i (.inl hi),F.own h.frm.st λi hi=>hd i (.inr (.inl hi)),F.own h.frm.code λi hi=>hd i (.inr (.inr hi)),h.frm.db,h.frm.dl,h.frm.dc⟩,rfl,λi hi=>.inl hi,F.mono λi hi=>.inl hi⟩ rfl rfl
theorem Wh.setLoc (h:Wh l p q f r X sl fu st w) {loc:List Int} (_:loc.length=f.loc.length) (ho:w'.ownsRow 0 21 1 q.lv loc.length (loc.map i32)) (F:Fr (λi=>q.lv.ownBlock=some i) w w'):gR l p q { f with loc:=loc } r X sl fu st w w':=by
 have hd:=h.frm.db;refine h.frame ⟨q,⟨F.seg h.frm.box λhs=>hd _ (.inl hs) rfl,ho,F.own h.frm.st λi hi hs=>h.frm.dl i hs hi,F.own h.frm.code λi hi=>(h.frm.dc i hi).1,h.frm.db,h.frm.dl,h.frm.dc⟩,rfl,λi hi=>.inl hi,F.mono λi hi=>.inr (.inl hi)⟩ rfl rfl
end
section
variable {l:List bE} {p p1:iP} {q q1:FP} {f f1:gY} {r:Rm} {X:Nat->Prop} {sl:Z} {fu st:Int} {w w1 w':O}
theorem oI (h:Wh l p q f r X sl fu st w) (hl:f.st.length<=1000) {n:Int}:aD prog 134 #[pf q,i32 n] w λ_ w'=>gR l p q { f with st:=f.st++[n] } r X sl fu st w w':=
 (aEh h.frm hl).mono λ_ _ g=>h.frame g rfl rfl
theorem aOr (h:Wh l p q f r X sl fu st w) (hl:f.st.length<=1000) {k:Nat} (hk:k<=f.st.length):aD prog 91 #[pf q,i64 (k:Int)] w λrv w'=>w'.ownsRow w.heap.size 21 1 rv k ((gO k f.st).map i32)/\gR l p q { f with st:=iU k f.st } r X sl fu st w w':=
 (CT h.frm hl hk).mono λ_ _ g=>⟨g.1,h.frame g.2 rfl rfl⟩
theorem WL (h:Wh l p q f r X sl fu st w) (hl:f.st.length<=1000) (hk:1<=f.st.length):aD prog 135 #[pf q] w λrv w'=>rv=i32 (nth (gO 1 f.st) 0)/\gR l p q { f with st:=iU 1 f.st } r X sl fu st w w':=
 (xQ h.frm hl hk).mono λ_ _ g=>⟨g.1,h.frame g.2 rfl rfl⟩
theorem WN {op:Int} (ho:iF op\/op=15\/op=16\/op=26\/op=22) (h:Wh l p q f r X sl fu st w) (hl:f.st.length<=1000) (hk:tW op<=f.st.length) (h32:gP f.st) :
  aD prog 138 #[pf q,i64 op] w λrv w'=>rv=i32 (FQ op (gO (tW op) f.st))/\gR l p q { f with st:=iU (tW op) f.st } r X sl fu st w w':=
 (TC ho h.frm hl hk h32).mono λ_ _ g=>⟨g.1,h.frame g.2 rfl rfl⟩
theorem pcW (h:Wh l p1 q1 f1 r X sl fu st w) (hq:q1.fb=q.fb) (hp:f1.pc<=100000) {R:Z->O->Prop} (hR:R (i64 ((f1.pc+1:Nat):Int)) w) :
  Go.Vc.aM (pf q)/\V prog (Instr.fieldAt 114 (pf q) 2) w λa w1=>V prog (Instr.loadAt 3 a) w1 λb w2=>V prog (binOp .add 3 b (i64 1)) w2 λc w3=>R c w3:=by
 have e:pf q=.pointer (some ⟨q1.fb,0,none⟩):=by unfold pf;rw [hq]
 rw [e];refine ⟨.inl ⟨_,rfl⟩,kU cI aJ h.frm.box rfl (bQ.2 ?_)⟩;rw [aY (by omega),cG];exact hR
def SG (l:List bE) (p:iP) (q:FP) (f:gY) (X:Nat->Prop) (sl:Z) (fu st:Int) (w w':O):Prop:=∃ st' r',gR l p q { f with st:=st' } r' X sl fu st w w'
theorem Wh.sg (h:Wh l p q f r X sl fu st w) (hx:aG w w'):SG l p q f X sl fu st w w':=⟨f.st,r,p,q,h.ext hx,jM.of_ext hx⟩
theorem gR.sg {st':List Int} {r':Rm} (g:gR l p q { f with st:=st' } r' X sl fu st w w'):SG l p q f X sl fu st w w':=⟨_,_,g⟩
theorem aFr {st':List Int} {me:fY} (hq:q1={ q with sv:=q1.sv }) {j:Nat} (hj:j < 8):(TT q1 me { f with st:=st' })[j]?=(TT q me f)[j]?:=by
 rw [hq];have:j=0\/j=1\/j=2\/j=3\/j=4\/j=5\/j=6\/j=7:=by omega
 rcases this with rfl|rfl|rfl|rfl|rfl|rfl|rfl|rfl<;>rfl
theorem yFr {S:O->Prop} {L:Z->Prop} (hS:∀ w',S w'->SG l p q f X sl fu st w w') {s i j ft:Nat} (hf:FA prog s i j) (hl:L1 prog ft) {u:Z} (hj:j < 8) (hu:(TT q (f.me l) f)[j]?=some u) (hk:L u) :
  aB prog S (Instr.fieldAt s (pf q) i) λa=>aB prog S (Instr.loadAt ft a) L:=
 yFE hf hl (λw' hw=>by
  obtain ⟨st',r',p1,q1,h1,s1⟩:=hS w' hw;exact ⟨_,by rw [<- s1.fb];exact h1.frm.box,by have e:=aFr (f:=f) (st':=st') (me:=f.me l) s1.qe hj;rw [hu] at e;exact e⟩) hk
theorem yMa {S:O->Prop} {L:Z->Prop} (hS:∀ w',S w'->SG l p q f X sl fu st w w') {s i j ft:Nat} (hf:FA prog s i j) (hl:L1 prog ft) {u:Z} (hu:[kM p.rp,qJ p.rp,sl,i64 fu,i64 st][j]?=some u) (hk:L u) :
  aB prog S (Instr.fieldAt s (pm p) i) λa=>aB prog S (Instr.loadAt ft a) L:=
 yFE hf hl (λw' hw=>by
  obtain ⟨st',r',p1,q1,h1,s1⟩:=hS w' hw;refine ⟨_,by rw [<- s1.mb];exact h1.box,?_⟩;have e1:kM p1.rp=kM p.rp:=by unfold kM;rw [s1.rb]
  have e2:qJ p1.rp=qJ p.rp:=by unfold qJ;rw [s1.tb]
  rw [e1,e2];exact hu) hk
theorem SG.blk (_:Wh l p q f r X sl fu st w) {g:Nat} {cs:List Z} {e:TypeId} (hb:bA w g cs e) (hn:¬ WM p q g) (s:SG l p q f X sl fu st w w'):bA w' g cs e:=by
 obtain ⟨_,_,p1,q1,_,s1⟩:=s;exact s1.fr.blk hb hn
theorem aWh {P:Program} {S:O->Prop} {t x:Nat} {z:Z} {by_:Nat} (h:XA P t 1) (hx:cT P x z 1 by_) {B e n:Nat} {v:Z} {xs:List Z} (ho:w.ownsRow B e 1 v n xs) {k:Nat} (hk:k < n) {u:Z} (hu:cB u=true) {K':O->Prop}
  (hK:∀ w',w'.ownsRow B e 1 v n (xs.set k u)->w.grownBy w' v.ownBlock->K' w'):aB P S (Instr.indexAt t v (i64 (k:Int))) λa=>U P (Instr.storeAt x a u) w λ_ w2=>K' w2:=by
 obtain ⟨e',z',b',ht,hi⟩:=h;have ho':=ho;rcases ho.2 with ⟨_,rfl⟩|⟨g,cap,cur,rfl,hB,_⟩
 ·omega
 refine aB.ok (λw' _=>eW ht hi (by omega) (by omega)) ?_;obtain ⟨s1,s2⟩:=ho'.stored k u;have hc:=ho'.cellAt k (by omega);have hlt:k < xs.length:=by have:=ho'.1;omega
 rw [List.getElem?_eq_getElem hlt] at hc;simp only [Nat.zero_add,Nat.mul_one,Int.toNat_natCast];exact U.ok (kO hx hu hc (ho'.frozenAt _)) (hK _ s1 s2)
theorem RU (s:List Int):iU 0 s=s:=by unfold iU;simp
theorem CS {l:List Int} {a:Int} (h0:0<=a) (h:a < (l.length:Int)):∃ k:Nat,a=k/\k < l.length:=⟨a.toNat,by omega,by omega⟩
theorem aOs (h:Wh l p q f r X sl fu st w) {x:fS} (hx:AF (f.img l) (f.me l) x) (hp:DQ x.op) (hnt:(aT (f.img l) (f.me l) x).length<=f.st.length) (h8:f.st.length<=8) (h32:gP f.st) (hloc:f.loc.length=(f.me l).locs.length) (hwho:f.who < l.length) (hfd:yY l r.fd) (hpc:f.pc<=1000) :
  aD prog 96 #[pm p,pf q,.agg #[i64 x.op,i64 x.a,i64 x.b]] w λrv w'=>rv=i64 ((zU x f.pc (gO (aT (f.img l) (f.me l) x).length f.st):Nat):Int) /\
   gR l p q { f with st:=iU (aT (f.img l) (f.me l) x).length f.st++nW x f r.fd (gO (aT (f.img l) (f.me l) x).length f.st),loc:=uY x f.loc (gO (aT (f.img l) (f.me l) x).length f.st) } { r with fd:=XZ x f.who r.fd (gO (aT (f.img l) (f.me l) x).length f.st) } X sl fu st w w':=by
 have hop:=LF hx.xr;have hnm:=hx.nm;have hxr:=hx.xr;obtain ⟨op,a,b⟩:=x;obtain ⟨p1,p2,p3,p4⟩:=hp;unfold cV at p4;dsimp only at *;apply aRm
 suffices key:∀ R:Z->O->Prop,(∀ rv w',rv=i64 ((zU ⟨op,a,b⟩ f.pc (gO (aT (f.img l) (f.me l) ⟨op,a,b⟩).length f.st):Nat):Int) ->
   gR l p q { f with st:=iU (aT (f.img l) (f.me l) ⟨op,a,b⟩).length f.st++nW ⟨op,a,b⟩ f r.fd (gO (aT (f.img l) (f.me l) ⟨op,a,b⟩).length f.st),loc:=uY ⟨op,a,b⟩ f.loc (gO (aT (f.img l) (f.me l) ⟨op,a,b⟩).length f.st) } { r with fd:=XZ ⟨op,a,b⟩ f.who r.fd (gO (aT (f.img l) (f.me l) ⟨op,a,b⟩).length f.st) } X sl fu st w w'->R rv w') ->
   DR (pm p) (pf q) (.agg #[i64 op,i64 a,i64 b]) w R from key _ λrv w' h1 h2=>⟨h1,h2⟩
 intro R hR;unfold DR;refine uN λw1 hb x1=>?_;have hb:bA w1 w.heap.size [i64 op,i64 a,i64 b] 70:=hb;have hh:=h.ext x1;have hbl:=hb.lt
 have hbn:∀ {p1:iP} {q1:FP} {w2:O},Wh l p q f r X sl fu st w1->jM p q p1 q1 w1 w2->¬ WM p q w.heap.size:=λhw s hm=>by
  have:∀ i,WM p q i->i < w.heap.size:=λi hi=>by
   rcases hi with hi|hi|hi|hi
   ·exact h.sep.lt .rm i hi
   ·exact h.sep.lt .fd i hi
   ·exact h.sep.lt .mb i hi
   ·exact h.sep.lt .fr i (.inl hi)
  have:=this _ hm;omega
 refine bC hb.boxed bU aJ rfl ?_
 have fin:∀ {f1:gY} {r1:Rm} {w2:O} {t:Z},gR l p q f1 r1 X sl fu st w w2->f1.pc=f.pc->(t=i64 ((f.pc+1:Nat):Int)->gR l p q f1 r1 X sl fu st w w2->R t w2) ->
   (t=i64 ((f.pc+1:Nat):Int))->R t w2:=λg _ k e=>k e g
 have fin2:∀ {f1:gY} {r1:Rm} {w2:O} {R':Z->O->Prop},gR l p q f1 r1 X sl fu st w w2->f1.pc=f.pc->R' (i64 ((f.pc+1:Nat):Int)) w2 ->
   Go.Vc.aM (pf q)/\V prog (Instr.fieldAt 114 (pf q) 2) w2 λa w1=>V prog (Instr.loadAt 3 a) w1 λb w2=>V prog (binOp .add 3 b (i64 1)) w2 λc w3=>R' c w3:=by
  intro f1 r1 w2 R' ⟨p1,q1,h1,s⟩ e hR';refine pcW h1 s.fb (by omega) ?_;rw [e];exact hR'
 clear fin;rcases hop with rfl|rfl|rfl|rfl|rfl|hbin|rfl|rfl|rfl|rfl|rfl|rfl|rfl|rfl|rfl|rfl|rfl|rfl|rfl|rfl|rfl|rfl|rfl|rfl|rfl|rfl|rfl|rfl
 case _=>
  simp only [aF,Int.reduceEq,decide_true,decide_false,aE,aA];refine bC hb.boxed bD aJ rfl ?_;refine V.ok (bH underlying3 underlying21) ?_;have ha:-2147483648<=a/\a<=2147483647:=⟨hxr.2.1,hxr.2.2.1⟩;rw [show IntKind.i32.wrap a=a by simp only [IntKind.wrap_i32];omega];refine (oI hh (by omega)).mono λ_ w2 g=>?_;refine fin2 (gR.of_ext x1 g) rfl (hR _ _ rfl ?_);have e:iU 0 f.st=f.st:=RU _;show gR l p q { f with st:=iU 0 f.st++[a] } r X sl fu st w w2;rw [e];exact gR.of_ext x1 g
 case _=>
  have ha0:0<=a:=hxr.2.1;have hal:a < ((f.me l).locs.length:Int):=hnm;obtain ⟨k,rfl,hk⟩:=CS (l:=f.loc) ha0 (by omega);simp only [aF,Int.reduceEq,decide_true,decide_false,aE,aA];have D1:aG w1 w1.drew:=(aG.refl _).drew;refine aI.mk' (SG l p q f X sl fu st w1) (hh.sg D1) ⟨.inl ⟨_,rfl⟩,?_⟩;refine yFr (λ_ h=>h) dZ mP (by decide) (u:=q.lv) rfl ?_;refine dS (λw' hw=>(SG.blk hh hb (hbn hh (jM.of_ext (aG.refl _))) hw).boxed) bD aJ rfl ?_;refine eE fZ eZ (aC.of_own hh.frm.loc) (λw' hw=>?_) (by omega) (by omega) (u:=i32 (f.loc.getD k 0)) (by rw [Int.toNat_natCast];exact aMx hk) ?_
  ·obtain ⟨st',r',p1,q1,h1,s1⟩:=hw;have:=aC.of_own h1.frm.loc;rw [s1.qe] at this;exact this
  refine (oI (hh.ext D1) (by omega)).mono λ_ w2 g=>?_;have g:=gR.of_ext D1 g;refine ⟨g.sg,fin2 (gR.of_ext x1 g) rfl (hR _ _ rfl ?_)⟩;have e:iU 0 f.st=f.st:=RU _;show gR l p q { f with st:=iU 0 f.st++[f.loc.getD k 0] } r X sl fu st w w2;rw [e];exact gR.of_ext x1 g
 case _=>
  have ha0:0<=a:=hxr.2.1;have hal:a < ((f.me l).locs.length:Int):=hnm;obtain ⟨k,rfl,hk⟩:=CS (l:=f.loc) ha0 (by omega);have hnt:1<=f.st.length:=hnt;simp only [aF,Int.reduceEq,decide_true,decide_false,aE,aA];have D1:aG w1 w1.drew:=(aG.refl _).drew;refine aI.mk' (SG l p q f X sl fu st w1) (hh.sg D1) ⟨.inl ⟨_,rfl⟩,?_⟩;refine yFr (λ_ h=>h) dZ mP (by decide) (u:=q.lv) rfl ?_;refine dS (λw' hw=>(SG.blk hh hb (hbn hh (jM.of_ext (aG.refl _))) hw).boxed) bD aJ rfl ?_;refine (WL (hh.ext D1) (by omega) hnt).mono λrv w2 ⟨hrv,g⟩=>?_;subst hrv;have g:=gR.of_ext D1 g;refine ⟨g.sg,?_⟩;obtain ⟨p2,q2,h2,s2⟩:=g;have hlo:=h2.frm.loc;have elv:q2.lv=q.lv:=by rw [s2.qe]
  rw [elv] at hlo;refine aWh fZ uD hlo hk rfl λw3 ho3 hg3=>?_;have F3:Fr (λi=>q2.lv.ownBlock=some i) w2 w3:=by rw [elv];exact Fr.of_grown hg3 λk hk=>hk
  have g3:=h2.setLoc (loc:=f.loc.set k (nth (gO 1 f.st) 0)) (by simp) (by rw [elv,List.length_set,List.map_set];exact ho3) F3;have g3:=gR.of_ext x1 (gR.after s2 g3)
  exact fin2 g3 rfl (hR _ _ rfl (by
   show gR l p q { f with st:=iU 1 f.st++[],loc:=f.loc.set k (nth (gO 1 f.st) 0) } r X sl fu st w w3;rw [List.append_nil];exact g3))
 case _=>
  have hnt:1<=f.st.length:=hnt;simp only [aF,Int.reduceEq,decide_true,decide_false,aE,aA];refine (WL hh (by omega) hnt).mono λrv w2 ⟨hrv,g⟩=>?_;have g:=gR.of_ext x1 g
  exact fin2 g rfl (hR _ _ rfl (by
   show gR l p q { f with st:=iU 1 f.st++[] } r X sl fu st w w2;rw [List.append_nil];exact g))
 case _=>
  have hnt:1<=f.st.length:=hnt;simp only [aF,Int.reduceEq,decide_true,decide_false,aE,aA];refine (WL hh (by omega) hnt).mono λrv w2 ⟨hrv,p2,q2,h2,s2⟩=>?_;subst hrv;have hl2:(iU 1 f.st).length<=8:=by rw [mG];omega
  rw [<- s2.pf];refine (oI h2 (by show (iU 1 f.st).length<=_;omega)).mono λ_ w3 g3=>?_;obtain ⟨p3,q3,h3,s3⟩:=gR.after s2 g3;rw [s2.pf,<- s3.pf];refine (oI h3 (by show (iU 1 f.st++[_]).length<=_;rw [List.length_append];simp;omega)).mono λ_ w4 g4=>?_;have g4:=gR.of_ext x1 (gR.after s3 g4);rw [s3.pf]
  exact fin2 g4 rfl (hR _ _ rfl (by
   show gR l p q { f with st:=iU 1 f.st++[nth (gO 1 f.st) 0,nth (gO 1 f.st) 0] } r X sl fu st w w4;simpa [List.append_assoc] using g4))
 case _=>
  have hb':=hbin;unfold iF at hbin;simp only [aF,show ¬ op=23 by omega,show ¬ op=24 by omega,show ¬ op=1 by omega,show ¬ op=2 by omega,show ¬ op=3 by omega,show ¬ op=4 by omega,show ¬ op=5 by omega,show ¬ op=25 by omega,show ¬ op=35 by omega,show ¬ op=33 by omega,show ¬ op=34 by omega,decide_false,aA]
  have ea:aT (f.img l) (f.me l) ⟨op,a,b⟩=[-2,-2]:=by
   simp only [aT];rw [if_neg (by omega),if_neg (by omega),if_neg (by omega),if_neg (by omega),if_pos hb']
  have eN:tW op=2:=by unfold tW;rw [if_neg (by omega),if_neg (by omega)]
  rw [ea] at hnt hR;have hnt:2<=f.st.length:=hnt;refine bC hb.boxed bU aJ rfl ?_;refine (WN (.inl hb') hh (by omega) (by rw [eN];exact hnt) h32).mono λrv w2 ⟨hrv,p2,q2,h2,s2⟩=>?_;subst hrv;rw [eN] at h2;have hl2:(iU 2 f.st).length<=8:=by rw [mG];omega
  rw [<- s2.pf,eN];refine (oI h2 (by show (iU 2 f.st).length<=_;omega)).mono λ_ w3 g3=>?_;have g3:=gR.of_ext x1 (gR.after s2 g3);rw [s2.pf]
  have e1:nW ⟨op,a,b⟩ f r.fd (gO 2 f.st)=[FQ op (gO 2 f.st)]:=by
   have:FQ op (gO 2 f.st)=oY op (nth (gO 2 f.st) 0) (nth (gO 2 f.st) 1):=by unfold FQ;rw [if_neg (by omega),if_neg (by omega)]
   rw [this];simp only [nW]
   repeat rw [if_neg (by omega)]
  have e2:zU ⟨op,a,b⟩ f.pc (gO 2 f.st)=f.pc+1:=by simp only [zU];rw [if_neg (by omega),if_neg (by omega)]
  have e3:uY ⟨op,a,b⟩ f.loc (gO 2 f.st)=f.loc:=by simp only [uY];rw [if_neg (by omega)]
  have e4:XZ ⟨op,a,b⟩ f.who r.fd (gO 2 f.st)=r.fd:=by simp only [XZ];rw [if_neg (by omega)]
  refine fin2 g3 rfl (hR _ _ ?_ ?_)
  ·rw [show ([-2,-2]:List Int).length=2 from rfl,e2]
  ·rw [show ([-2,-2]:List Int).length=2 from rfl,e1,e3,e4];exact g3
 case _=>
  have hnt:1<=f.st.length:=hnt;simp only [aF,Int.reduceEq,decide_false,aA];refine bC hb.boxed bU aJ rfl ?_;refine (WN (op:=15) (.inr (.inl rfl)) hh (by omega) hnt h32).mono λrv w2 ⟨hrv,p2,q2,h2,s2⟩=>?_;subst hrv;have hl2:(iU 1 f.st).length<=8:=by rw [mG];omega
  rw [<- s2.pf];refine (oI h2 (by show (iU 1 f.st).length<=_;omega)).mono λ_ w3 g3=>?_;have g3:=gR.of_ext x1 (gR.after s2 g3);rw [s2.pf];exact fin2 g3 rfl (hR _ _ rfl g3)
 case _=>
  have hnt:1<=f.st.length:=hnt;simp only [aF,Int.reduceEq,decide_false,aA];refine bC hb.boxed bU aJ rfl ?_;refine (WN (op:=16) (.inr (.inr (.inl rfl))) hh (by omega) hnt h32).mono λrv w2 ⟨hrv,p2,q2,h2,s2⟩=>?_;subst hrv;have hl2:(iU 1 f.st).length<=8:=by rw [mG];omega
  rw [<- s2.pf];refine (oI h2 (by show (iU 1 f.st).length<=_;omega)).mono λ_ w3 g3=>?_;have g3:=gR.of_ext x1 (gR.after s2 g3);rw [s2.pf];exact fin2 g3 rfl (hR _ _ rfl g3)
 case _=>omega
 case _=>omega
 case _=>
  have hnt:3<=f.st.length:=hnt;simp only [aF,Int.reduceEq,decide_false,aA];refine bC hb.boxed bU aJ rfl ?_;refine (WN (op:=22) (.inr (.inr (.inr (.inr rfl)))) hh (by omega) hnt h32).mono λrv w2 ⟨hrv,p2,q2,h2,s2⟩=>?_;subst hrv;have hl2:(iU 3 f.st).length<=8:=by rw [mG];omega
  rw [<- s2.pf];refine (oI h2 (by show (iU 3 f.st).length<=_;omega)).mono λ_ w3 g3=>?_;have g3:=gR.of_ext x1 (gR.after s2 g3);rw [s2.pf];exact fin2 g3 rfl (hR _ _ rfl g3)
 case _=>
  have ha0:0<=a:=hxr.2.1;simp only [aF,Int.reduceEq,decide_true,decide_false,aE,aA];refine bC hb.boxed bD aJ rfl (hR _ _ ?_ ?_)
  ·have e:zU ⟨23,a,b⟩ f.pc (gO 0 f.st)=a.toNat:=rfl;have:i64 a=i64 ((a.toNat:Nat):Int):=by congr 1;omega
   rw [this];rfl
  ·show gR l p q { f with st:=iU 0 f.st++[] } r X sl fu st w w1;rw [RU,List.append_nil];exact gR.of_ext x1 hh.go
 case _=>
  have ha0:0<=a:=hxr.2.1;have hnt:1<=f.st.length:=hnt;simp only [aF,Int.reduceEq,decide_true,decide_false,aE,aA];refine (WL hh (by omega) hnt).mono λrv w2 ⟨hrv,p2,q2,h2,s2⟩=>?_;subst hrv;have g:=gR.of_ext x1 (⟨p2,q2,h2,s2⟩:gR l p q { f with st:=iU 1 f.st } r X sl fu st w1 w2);have hg:gR l p q { f with st:=iU 1 f.st++[] } r X sl fu st w w2:=by rw [List.append_nil];exact g
  have hb2:=s2.fr.blk hb (hbn hh s2);refine aX.2 (aL (λhne=>?_) λheq=>?_)
  ·refine bC hb2.boxed bD aJ rfl (hR _ _ ?_ hg)
   have e:zU ⟨24,a,b⟩ f.pc (gO 1 f.st)=a.toNat:=by
    simp only [zU];rw [if_neg (by decide),if_pos trivial,if_neg hne]
   show i64 a=i64 ((zU ⟨24,a,b⟩ f.pc (gO 1 f.st):Nat):Int);rw [e];congr 1;omega
  ·refine fin2 g rfl (hR _ _ ?_ hg)
   have e:zU ⟨24,a,b⟩ f.pc (gO 1 f.st)=f.pc+1:=by
    simp only [zU];rw [if_neg (by decide),if_pos trivial,if_pos (Classical.not_not.1 heq)]
   show i64 ((f.pc+1:Nat):Int)=i64 ((zU ⟨24,a,b⟩ f.pc (gO 1 f.st):Nat):Int);rw [e]
 case _=>
  simp only [aF,Int.reduceEq,decide_true,decide_false,aE,aA];refine (oI hh (by omega)).mono λ_ w2 g=>?_;refine fin2 (gR.of_ext x1 g) rfl (hR _ _ rfl ?_);have e:iU 0 f.st=f.st:=RU _;show gR l p q { f with st:=iU 0 f.st++[0] } r X sl fu st w w2;rw [e];exact gR.of_ext x1 g
 case _=>
  have hnt:1<=f.st.length:=hnt;simp only [aF,Int.reduceEq,decide_false,aA];refine bC hb.boxed bU aJ rfl ?_;refine (WN (op:=26) (.inr (.inr (.inr (.inl rfl)))) hh (by omega) hnt h32).mono λrv w2 ⟨hrv,p2,q2,h2,s2⟩=>?_;subst hrv;have hl2:(iU 1 f.st).length<=8:=by rw [mG];omega
  rw [<- s2.pf];refine (oI h2 (by show (iU 1 f.st).length<=_;omega)).mono λ_ w3 g3=>?_;have g3:=gR.of_ext x1 (gR.after s2 g3);rw [s2.pf];exact fin2 g3 rfl (hR _ _ rfl g3)
 case _=>omega
 case _=>omega
 case _=>omega
 case _=>omega
 case _=>omega
 case _=>omega
 case _=>
  have ha0:0<=a:=hxr.2.1;have hal:a < ((f.img l).fields.length:Int):=hnm;have hrow:=hfd.row _ hwho;have hrl:(r.fd.getD f.who []).length=(f.img l).fields.length:=hrow.1;obtain ⟨k,rfl,hk⟩:=CS (l:=r.fd.getD f.who []) ha0 (by omega);simp only [aF,Int.reduceEq,decide_true,decide_false,aE,aA];have D1:aG w1 w1.drew:=(aG.refl _).drew;refine aI.mk' (SG l p q f X sl fu st w1) (hh.sg D1) ⟨.inl ⟨_,rfl⟩,?_⟩;refine yMa (λ_ h=>h) cN fJ (u:=kM p.rp) rfl ⟨.inl ⟨_,rfl⟩,?_⟩;refine yFr (λ_ h=>h) cM aJ (by decide) (u:=i64 (f.who:Int)) rfl ?_;refine dS (λw' hw=>(SG.blk hh hb (hbn hh (jM.of_ext (aG.refl _))) hw).boxed) bD aJ rfl ?_;have hD:=hh.ext D1;refine (GP hD.room.room hD.fld (by have:=hfd.len;omega) hk).mono λrv w2 ⟨hrv,hw⟩=>?_;subst hrv;have hw:=hw.symm;subst hw;refine ⟨hh.sg D1,aB.ok (λw' _=>fW) (aB.ok (λw' _=>fV) ?_)⟩;refine (oI hD (by omega)).mono λ_ w2 g=>?_;have g:=gR.of_ext D1 g;refine fin2 (gR.of_ext x1 g) rfl (hR _ _ rfl ?_);have e:iU 0 f.st=f.st:=RU _;show gR l p q { f with st:=iU 0 f.st++[(r.fd.getD f.who []).getD k 0] } r X sl fu st w w2;rw [e];exact gR.of_ext x1 g
 case _=>
  have ha0:0<=a:=hxr.2.1;have hal:a < ((f.img l).fields.length:Int):=hnm;have hrow:=hfd.row _ hwho;have hrl:(r.fd.getD f.who []).length=(f.img l).fields.length:=hrow.1;obtain ⟨k,rfl,hk⟩:=CS (l:=r.fd.getD f.who []) ha0 (by omega);have hnt:1<=f.st.length:=hnt;simp only [aF,Int.reduceEq,decide_true,decide_false,aE,aA];have D1:aG w1 w1.drew:=(aG.refl _).drew;refine aI.mk' (SG l p q f X sl fu st w1) (hh.sg D1) ⟨.inl ⟨_,rfl⟩,?_⟩;refine yMa (λ_ h=>h) cN fJ (u:=kM p.rp) rfl ⟨.inl ⟨_,rfl⟩,?_⟩;refine yFr (λ_ h=>h) cM aJ (by decide) (u:=i64 (f.who:Int)) rfl ?_;refine dS (λw' hw=>(SG.blk hh hb (hbn hh (jM.of_ext (aG.refl _))) hw).boxed) bD aJ rfl ?_;refine (WL (hh.ext D1) (by omega) hnt).mono λrv w2 ⟨hrv,g⟩=>?_;subst hrv;have g:=gR.of_ext D1 g;refine ⟨g.sg,?_⟩;obtain ⟨p2,q2,h2,s2⟩:=g;have erm:kM p.rp=.pointer (some ⟨p2.rp.rb,0,none⟩):=by unfold kM;rw [s2.rb]
  rw [erm];refine (EX h2.room.room h2.fld (by have:=hfd.len;show f.who < r.fd.length;omega) hk).mono λrv w3 ⟨hrv,hf3,F3⟩=>?_;have g3:=gR.after s2 (h2.fieldS hf3 F3);refine ⟨g3.sg,fin2 (gR.of_ext x1 g3) rfl (hR _ _ rfl ?_)⟩;show gR l p q { f with st:=iU 1 f.st++[] } { r with fd:=r.fd.set f.who ((r.fd.getD f.who []).set k (nth (gO 1 f.st) 0)) } X sl fu st w w3;rw [List.append_nil];exact gR.of_ext x1 g3
 case _=>
  simp only [aF,Int.reduceEq,decide_true,decide_false,aE,aA];refine bC hb.boxed bD aJ rfl ?_;refine V.ok (bH underlying3 underlying21) ?_;have ha:1<=a/\a<=2:=⟨hxr.2.1,hxr.2.2.1⟩;rw [show IntKind.i32.wrap a=a by simp only [IntKind.wrap_i32];omega];refine (oI hh (by omega)).mono λ_ w2 g=>?_;refine fin2 (gR.of_ext x1 g) rfl (hR _ _ rfl ?_);have e:iU 0 f.st=f.st:=RU _;show gR l p q { f with st:=iU 0 f.st++[a] } r X sl fu st w w2;rw [e];exact gR.of_ext x1 g
 case _=>omega
 case _=>omega
 case _=>omega
 case _=>omega
end
def oO (op:Int):Nat:=if op=27\/op=28 then 1 else if op=17\/op=18\/op=29 then 2 else if op=30\/op=36 then 3 else 5
theorem sS {op:Int} (h:cV op):op=17\/op=18\/op=27\/op=28\/op=29\/op=30\/op=31\/op=32\/op=36:=by unfold cV at h;omega
theorem CM {i:bE} {m:fY} {x:fS} (h:cV x.op):(aT i m x).length=oO x.op:=by
 obtain ⟨op,a,b⟩:=x;have h:=sS h;dsimp only at h;rcases h with rfl|rfl|rfl|rfl|rfl|rfl|rfl|rfl|rfl<;>rfl
theorem EZ {x:fS} (hr:x.right) (h:cV x.op) (who:Int) {t:List Int} (ht:t.length=oO x.op) (h32:gP t):sP x.op who x.a x.b (oO x.op) t λs=>eB s who x t:=by
 obtain ⟨op,a,b⟩:=x;have h:=sS h;dsimp only at *;rcases h with rfl|rfl|rfl|rfl|rfl|rfl|rfl|rfl|rfl
 ·match t,ht with
  | [x0,x1],_=>exact aGk h32
 ·match t,ht with
  | [x0,x1],_=>exact aGj h32
 ·match t,ht with
  | [x0],_=>
   have h1:3<=a:=hr.2.1;have h2:a<=4:=hr.2.2.1;have h3:(0<=b/\b<=2)\/(4<=b/\b<=6):=hr.2.2.2;exact aGi h32 (by omega) (by omega)
 ·match t,ht with
  | [x0],_=>exact aGh h32
 ·match t,ht with
  | [x0,x1],_=>exact aGg h32
 ·match t,ht with
  | [x0,x1,x2],_=>exact aGf h32
 ·match t,ht with
  | [x0,x1,x2,x3,x4],_=>exact aGe h32
 ·match t,ht with
  | [x0,x1,x2,x3,x4],_=>exact aGd h32
 ·match t,ht with
  | [x0,x1,x2],_=>exact aGc h32
theorem SB {op:Int} (h:cV op) {w:O}:aD prog 94 #[i64 op] w λr w'=>r=i64 (oO op:Int)/\w'=w:=by
 rcases sS h with rfl|rfl|rfl|rfl|rfl|rfl|rfl|rfl|rfl
 ·exact NM
 ·exact NL
 ·exact NK
 ·exact NJ
 ·exact NI
 ·exact NH
 ·exact NG
 ·exact NE
 ·exact ND
section
variable {l:List bE} {p p1:iP} {q q1:FP} {f f1:gY} {r:Rm} {X:Nat->Prop} {sl:Z} {fu st:Int} {w w1 w':O}
theorem Wh.wm_lt (h:Wh l p q f r X sl fu st w):∀ i,WM p q i->i < w.heap.size:=λi hi=>by
 rcases hi with hi|hi|hi|hi
 ·exact h.sep.lt .rm i hi
 ·exact h.sep.lt .fd i hi
 ·exact h.sep.lt .mb i hi
 ·exact h.sep.lt .fr i (.inl hi)
theorem aNv (h:Wh l p q f r X sl fu st w) {x:fS} (hx:x.right) (hs:cV x.op) (hnt:oO x.op<=f.st.length) (h8:f.st.length<=8) (h32:gP f.st) (hpc:f.pc<=1000) (htr:r.ps.tr.length<=99000) {S:zW} (hS:S=eB r.ps f.who x (gO (oO x.op) f.st)) :
  aD prog 95 #[pm p,pf q,.agg #[i64 x.op,i64 x.a,i64 x.b],i64 (oO x.op:Int)] w λrv w'=>rv=i64 S.2.1 /\
   (S.2.1=36864->gR l p q { f with st:=iU (oO x.op) f.st++(if gV x.op then [] else [S.1]),pc:=f.pc+1 } { r with ps:=S.2.2 } X sl fu st w w') /\
   (S.2.1≠36864->gR l p q { f with st:=iU (oO x.op) f.st } { r with ps:=S.2.2 } X sl fu st w w'):=by
 apply aRn
 suffices key:∀ R:Z->O->Prop,(∀ w',S.2.1=36864->gR l p q { f with st:=iU (oO x.op) f.st++(if gV x.op then [] else [S.1]),pc:=f.pc+1 } { r with ps:=S.2.2 } X sl fu st w w'->R (i64 36864) w')->(∀ w',S.2.1≠36864->gR l p q { f with st:=iU (oO x.op) f.st } { r with ps:=S.2.2 } X sl fu st w w'->R (i64 S.2.1) w') ->
   DS (pm p) (pf q) (.agg #[i64 x.op,i64 x.a,i64 x.b]) (i64 (oO x.op:Int)) w R from key _ (λw' h1 h2=>⟨by rw [h1],λ_=>h2,λhn=>absurd h1 hn⟩) λw' h1 h2=>⟨rfl,λhn=>absurd hn h1,λ_=>h2⟩
 intro R hR1 hR2;unfold DS;refine uN λw1 hb x1=>?_;have hb:bA w1 w.heap.size [i64 x.op,i64 x.a,i64 x.b] 70:=hb;have hh:=h.ext x1;have hbn:¬ WM p q w.heap.size:=λhm=>by have:=h.wm_lt _ hm;omega
 have D1:aG w1 w1.drew:=(aG.refl _).drew;have hG:=λ(w':O) (hw:SG l p q f X sl fu st w1 w')=>SG.blk hh hb hbn hw;refine aI.mk' (SG l p q f X sl fu st w1) (hh.sg D1) ⟨.inl ⟨_,rfl⟩,?_⟩;refine yMa (λ_ h=>h) cN fJ (u:=kM p.rp) rfl ⟨.inl ⟨_,rfl⟩,?_⟩;refine yMa (λ_ h=>h) dR rC (u:=qJ p.rp) rfl ⟨.inl ⟨_,rfl⟩,?_⟩;refine yFr (λ_ h=>h) cM aJ (by decide) (u:=i64 (f.who:Int)) rfl ?_;refine dS (λw' hw=>(hG w' hw).boxed) bU aJ rfl ?_;refine dS (λw' hw=>(hG w' hw).boxed) bD aJ rfl ?_;refine dS (λw' hw=>(hG w' hw).boxed) oM aJ rfl ?_;refine (aOr (hh.ext D1) (by omega) hnt).mono λrv w2 ⟨ho,g⟩=>?_;have g:=gR.of_ext D1 g;refine ⟨g.sg,?_⟩;obtain ⟨p2,q2,h2,s2⟩:=g;have ht:=(DD h32 (oO x.op)).1;have htl:(gO (oO x.op) f.st).length=oO x.op:=oH hnt;have hA:=EZ hx hs f.who htl ht;have erm:kM p.rp=kM p2.rp:=by unfold kM;rw [s2.rb]
 have etb:qJ p.rp=qJ p2.rp:=by unfold qJ;rw [s2.tb]
 rw [erm,etb];refine (hA.prg h2.room (by have:=h2.rps;have e:p2.rp.tr=r.ps.tr:=congrArg PS.tr this;rw [e];exact htr) (aC.of_own ho)).mono λrv w3 ⟨rp3,hrv,hps,ht3,st3⟩=>?_;subst hrv;rw [h2.rps,<- hS] at hps ⊢;have g3:=gR.after s2 (h2.roomS (r':={ r with ps:=S.2.2 }) ht3 st3 hps rfl);refine ⟨g3.sg,aB.ok (λw' _=>fW) (aB.ok (λw' _=>fV) ?_)⟩;refine aX.2 (aL (λhne=>hR2 _ hne (gR.of_ext x1 g3)) λheq=>?_);have heq:S.2.1=36864:=Classical.not_not.1 heq;have hb3:=hG _ g3.sg;obtain ⟨p3,q3,h3,s3⟩:=g3;refine ⟨λw'=>gR l p q { f with st:=iU (oO x.op) f.st++(if gV x.op then [] else [S.1]) } { r with ps:=S.2.2 } X sl fu st w1 w',?_,?_⟩
 ·refine bC hb3.boxed bU aJ rfl ?_;refine ⟨λv w'=>v=.bool (decide (gV x.op))/\w'=w3,?_,?_⟩
  ·refine aF.2 (aL (λh30=>⟨by rw [decide_eq_true h30,decide_eq_true (.inl h30)],rfl⟩) λn30=>?_);refine aF.2 (aL (λh31=>⟨by rw [decide_eq_true h31,decide_eq_true (.inr (.inl h31))],rfl⟩) λn31=>?_);refine aF.2 ⟨?_,rfl⟩
   congr 1
   have:gV x.op↔x.op=36:=by unfold gV;omega
   simp [this]
  rintro _ w4 ⟨rfl,hw⟩ _;have hw:=hw.symm;subst hw;refine aL (λh0=>?_) λh0=>?_
  ·rw [if_pos h0,List.append_nil];exact ⟨p3,q3,h3,s3⟩
  ·rw [if_neg h0,<- s3.pf];have hul:(iU (oO x.op) f.st).length<=8:=by rw [mG];omega
   exact (oI h3 (by show (iU (oO x.op) f.st).length<=_;omega)).mono λ_ w4 g4=>gR.after s3 g4
 rintro w4 ⟨p4,q4,h4,s4⟩ _;have e:pf q=.pointer (some ⟨q4.fb,0,none⟩):=by unfold pf;rw [s4.fb]
 rw [e];refine ⟨.inl ⟨_,rfl⟩,kU cI aJ h4.frm.box rfl (bQ.2 ?_)⟩;rw [show IntKind.i64.wrap (((f.pc:Nat):Int)+1)=((f.pc+1:Nat):Int) from by rw [aY (by omega)];omega];refine ⟨.inl ⟨_,rfl⟩,?_⟩;refine fdA cI ?_;refine pE gW h4.frm.box (show 2 < 9 by decide) rfl ?_;have g5:=h4.setPc (f.pc+1);exact hR1 _ heq (gR.of_ext x1 (gR.after s4 g5))
end
section
variable {l:List bE} {p p1:iP} {q q1:FP} {f f1:gY} {r:Rm} {X:Nat->Prop} {sl:Z} {fu st:Int} {w w1 w':O}
theorem Wh.trl (h:Wh l p q f r X sl fu st w):p.rp.tr=r.ps.tr:=congrArg PS.tr h.rps
theorem aVj (h:Wh l p q f r X sl fu st w) (htr:r.ps.tr.length<=100000) {e:sO}:aD prog 52 #[qJ p.rp,i64 e.what,i64 e.a,i64 e.b,i64 e.c] w λ_ w'=>gR l p q f (r.ev e) X sl fu st w w':=by
 refine (PK h.room (by rw [h.trl];exact htr) (e:=e)).mono λ_ w2 ⟨tv',h2,s2,f2,_⟩=>?_;refine h.roomS h2 s2 ?_ rfl;show (⟨p.rp.size,p.rp.ar.map pa,p.rp.tp,p.rp.ts,p.rp.tr++[e]⟩:PS)=r.ps.ev [e];rw [<- h.rps];rfl
theorem aQe (h:Wh l p q f r X sl fu st w) (htr:r.ps.tr.length<=100000) {s:Int}:aD prog 51 #[pm p,i64 s] w λ_ w'=>gR l p q f (r.ends s) X sl fu s w w':=by
 apply aSh;unfold QI;refine ⟨.inl ⟨_,rfl⟩,?_⟩;refine fdA eA ?_;refine pE gW h.box (show 4 < 5 by decide) rfl ?_;obtain ⟨p2,q2,h2,s2⟩:=h.cell (j:=4) (u:=i64 s) (sl':=sl) (fu':=fu) (st':=s) (by decide) rfl;refine ⟨.inl ⟨_,rfl⟩,?_⟩;have e:pm p=.pointer (some ⟨p2.mb,0,none⟩):=by unfold pm;rw [s2.mb]
 rw [e];refine kU dR rC h2.box rfl ?_;exact (aVj h2 htr (e:=⟨5,s,0,0⟩)).mono λ_ w3 g=>gR.after s2 g
end
theorem aUx {P:Program} {w:O} {K:Z->O->Prop} {t x sz B e n:Nat} {v:Z} {xs l:List Z} {i:Nat} (h:XA P t sz) (ht:∃ d z by_,P.underlying x=some d/\mU d=true/\cT P x z sz by_) (ho:w.ownsRow B e sz v n xs) (hi:i < n) (hl:(xs.drop (i*sz)).take sz=l) (hlen:l.length=sz) (hk:K (.agg l.toArray) w) :
  V P (Instr.indexAt t v (i64 (i:Int))) w λp w1=>V P (Instr.loadAt x p) w1 K:=
 aPf h ht (aC.of_own ho) (by omega) (by omega) (by simpa using hl) hlen hk
theorem YF {w:O} {a b:Int} {r:Int} {p1 p2 p3 p4:Option Addr} {n1 n2 n3 n4 c1 c2 c3 c4:Nat} :
  (Instr.build 114 #[(0,i64 a),(1,i64 b),(3,.agg #[.slice p1 n1 c1,i64 r,.slice p2 n2 c2,.slice p3 n3 c3]),(4,.slice p4 n4 c4)]).run prog w=.ok (.agg #[i64 a,i64 b,i64 0,.slice p1 n1 c1,i64 r,.slice p2 n2 c2,.slice p3 n3 c3,.slice p4 n4 c4,.slice none 0 0]) w:=by kernel_rfl
theorem YB {l:List bE} (hT:oE l) {rb mb:Nat} {hv iv fv pub sec tbv sl:Z} {fu st:Int} {w:O} {n:Nat} {ptrs:List Z} (hr:lV w rb 0 [hv,iv,fv,pub,sec]) (hi:jS w iv l) (hb:lV w mb 0 [.pointer (some ⟨rb,0,none⟩),tbv,sl,i64 fu,i64 st]) (hsl:w.ownsRow 0 111 1 sl n ptrs) (hn:n<=100) (hsm:sl.ownBlock≠some mb)
  {to mth:Nat} (h1:to < l.length) (h2:mth < (aP l to).methods.length) {pv:Z} {t:List Int} (hp:aC w pv 1 t.length (t.map i32)) (ht:t.length=((aP l to).meth mth).params.length) :
  aD prog 47 #[.pointer (some ⟨mb,0,none⟩),i64 (to:Int),i64 (mth:Int),pv] w λ_ w'=>∃ sl' qn,pQ w' qn ((aP l to).meth mth) (oU l to mth t)/\(∀ i,qO qn i->w.heap.size<=i) /\
   lV w' mb 0 [.pointer (some ⟨rb,0,none⟩),tbv,sl',i64 fu,i64 st]/\w'.ownsRow 0 111 1 sl' (n+1) (ptrs++[pf qn])/\(∀ i,sl'.ownBlock=some i->sl.ownBlock=some i\/(w.heap.size<=i/\¬ qO qn i))/\Fr (λi=>i=mb\/sl.ownBlock=some i) w w':=by
 have hTt:=hT _ (fT h1);have hmm:=meth_mem h2;have hMr:=hTt.1.2.2.1.2.1 _ hmm
 have hmth:(aP l to).methods[mth]?=some ((aP l to).meth (mth:Int)):=by
  unfold bE.meth;rw [Int.toNat_natCast,List.getD_eq_getElem?_getD,List.getElem?_eq_getElem h2];rfl
 have enew:oU l to mth t=⟨to,mth,0,t++List.replicate ((aP l to).meth mth).locals.length 0,[]⟩:=rfl;rw [enew];generalize hM:(aP l to).meth (mth:Int)=M at *;obtain ⟨⟨_,hp4⟩,_,⟨_,hl10⟩,⟨_,hc120⟩,_⟩:=hMr;apply aSk;unfold QM;refine ⟨.inl ⟨_,rfl⟩,?_⟩;refine kU cN fJ hb rfl ?_;refine (yE hr hi hT h1).mono λrv w2 ⟨p2,hrv,hO,x2⟩=>?_;subst hrv;refine cD.2 (cC.2 ?_);refine AC FB rfl hO.one λw3 hb3 x3=>?_;have hb3:bA w3 w2.heap.size (p2.cells (aP l to)) 46:=hb3;refine bC hb3.boxed bP gM rfl ?_;obtain ⟨cm,hcm,hrm⟩:=hO.mt;obtain ⟨mpv,mlv,mcv,hrow,op,ol,oc⟩:=hrm mth M hmth;have x23:=x3;refine aUx (B:=w.heap.size) iT oK (x3.own hcm) h2 hrow rfl ?_;obtain ⟨a1,c1,e1⟩:=(aC.of_own op).shape;obtain ⟨a2,c2,e2⟩:=(aC.of_own ol).shape;obtain ⟨a3,c3,e3⟩:=(aC.of_own oc).shape;refine AC NR rfl (by rw [e1,e2,e3];rfl) λw4 hb4 x4=>?_;have hb4:bA w4 w3.heap.size [mpv,i64 M.result,mlv,mcv] 74:=hb4;have x24:=x3.trans x4;have x04:=x2.trans x24;have D4:aG w4 w4.drew:=(aG.refl _).drew;refine aI.mk' (λw'=>aG w4 w') D4 ?_;refine yA (λw' hw=>(hb4.ext hw).boxed) oK rfl ?_;refine dS (λw' hw=>(hb4.ext hw).boxed) fN bB rfl ?_;rw [e1];refine aB.ok (λw' _=>lD underlying42) ?_;rw [<- e1];refine dS (λw' hw=>(hb4.ext hw).boxed) oL bB rfl ?_;rw [e2];refine aB.ok (λw' _=>lD underlying42) ?_
 refine aB.ok (λw' _=>lQ) ?_;have eN:IntKind.i64.wrap (((M.params.length:Nat):Int)+((M.locals.length:Nat):Int))=((M.params.length+M.locals.length:Nat):Int):=by rw [aY (by omega)];omega
 rw [eN];refine xV (n:=M.params.length+M.locals.length) rfl underlying37 uD rfl (by omega) (by omega) λw5 hb5 x5 hs5=>?_;have x45:=D4.trans x5;refine ⟨x45,?_⟩;rw [e1,e3];refine aB.ok (λw' _=>YF) ?_;have s2:=x2.size;have s3:=x3.size;have s4:=x4.size;have sD:=D4.size;have s5:=x5.size;have l3:=hb3.lt;have l4:=hb4.lt;have l5:=hb5.lt;refine uN λw6 hb6 x6=>?_;have hb6:bA w6 w5.heap.size [i64 (to:Int),i64 (mth:Int),i64 0,.slice a1 M.params.length c1,i64 M.result,.slice a2 M.locals.length c2,.slice a3 M.code.length c3,.slice (some ⟨w4.drew.heap.size,0,none⟩) (M.params.length+M.locals.length) (M.params.length+M.locals.length),.slice none 0 0] 114:=hb6;refine ⟨x45.trans x6,.inl ⟨_,rfl⟩,?_⟩;refine bC hb6.boxed dZ mP rfl ?_;have hb56:=hb5.ext x6;have x46:=x45.trans x6;have x06:=x04.trans x46;have l6:=hb6.lt;obtain ⟨pa1,pc1,hpe⟩:=hp.shape;have hp6:=hp.ext x06;rw [hpe] at hp6 ⊢;refine cpB MX hb56 (by simp) (by simp) (λ_=>hp6) (List.all_eq_true.2 λv hv=>by obtain ⟨x,_,rfl⟩:=List.mem_map.1 hv;rfl) λv7 w7 hb7 f7=>?_
 have eL:(t.map i32).take (min t.length (M.params.length+M.locals.length))++(List.replicate (M.params.length+M.locals.length) (i32 0)).drop (min t.length (M.params.length+M.locals.length))=(t++List.replicate M.locals.length 0).map i32:=by
  have hm:min t.length (M.params.length+M.locals.length)=t.length:=by omega
  rw [hm,List.take_of_length_le (by simp),List.drop_replicate,List.map_append,List.map_replicate,show M.params.length+M.locals.length - t.length=M.locals.length by omega]
 have hb7:bA w7 w4.drew.heap.size ((t++List.replicate M.locals.length 0).map i32) 21:=by rw [<- eL];exact hb7
 have hml:=hb.lt;have hbM:=f7.seg (hb.ext x06) (by show ¬ mb=_;omega);have hb67:=f7.blk hb6 (by show ¬ w5.heap.size=_;omega);have s6:=x6.size;have s7:=f7.size;have hsl7:=f7.own (x06.own hsl) λi hi he=>by have:=(hsl.lt i hi).2;omega
 refine ⟨.inl ⟨_,rfl⟩,?_⟩;refine kU cA fX hbM rfl ?_;refine kJ UN [.pointer (some ⟨w5.heap.size,0,none⟩)] rfl rfl (by simp) rfl λv8 w8 ho8 x8=>?_;refine apL UN (x8.own hsl7) ho8 (by decide) (by rfl) (by omega) (by unfold maxLen;omega) (Nat.zero_le _) λg' cap' w9 ho9 hg9 hlies=>?_;have f9:Fr (λi=>sl.ownBlock=some i) w8 w9:=Fr.of_grown hg9 λk hk=>hk;have s8:=x8.size;have s9:=f9.size;have hbM9:=f9.seg (hbM.ext x8) λhs=>hsm hs;refine ⟨.inl ⟨_,rfl⟩,?_⟩;refine fdA cA ?_;refine pE LN hbM9 (show 2 < 5 by decide) rfl ?_;have f10:Fr (λi=>i=mb) w9 (w9.setCell ⟨mb,0+2,none⟩ (.slice (some ⟨g',0,none⟩) (n+1) cap')):=Fr.of_set rfl;have hbM10:=hbM9.set (j:=2) (by simp) (.slice (some ⟨g',0,none⟩) (n+1) cap');have hsll:∀ i,sl.ownBlock=some i->i < w.heap.size:=λi hi=>(hsl.lt i hi).2
 have F79:∀ {g:Nat} {cs:List Z} {e:TypeId},bA w7 g cs e->w.heap.size<=g->bA (w9.setCell ⟨mb,0+2,none⟩ (.slice (some ⟨g',0,none⟩) (n+1) cap')) g cs e:=λ{g cs e} hbb hg=>
  f10.blk (f9.blk (hbb.ext x8) λhe=>by have:=hsll _ he;omega) (by omega)
 have O79:∀ {B e sz n':Nat} {v:Z} {xs:List Z},w7.ownsRow B e sz v n' xs->w.heap.size<=B->(w9.setCell ⟨mb,0+2,none⟩ (.slice (some ⟨g',0,none⟩) (n+1) cap')).ownsRow B e sz v n' xs:=λ{B e sz n' v xs} hbb hg=>
  f10.own (f9.own (x8.own hbb) λi hi he=>by have:=hsll _ he;have:=(hbb.lt i hi).1;omega) λi hi he=>by have:=(hbb.lt i hi).1;omega
 have oc7:=f7.own (x46.own (x4.own (x3.own oc))) λi hi he=>by have:=(oc.lt i hi).2;omega
 have hfr:=F79 hb67 (by omega);have hlo:=F79 hb7 (by omega)
 have hg':sl.ownBlock=some g'\/(w.heap.size<=g'/\g'≠w5.heap.size/\g'≠w4.drew.heap.size/\w7.heap.size<=g'):=by
  rcases hlies with hl|hl
  ·exact .inl hl
  ·exact .inr (by omega)
 rw [e3] at oc7 oc;refine ⟨_,⟨w5.heap.size,.slice (some ⟨w4.drew.heap.size,0,none⟩) (M.params.length+M.locals.length) (M.params.length+M.locals.length),.slice none 0 0,.slice a1 M.params.length c1,.slice a2 M.locals.length c2,.slice a3 M.code.length c3⟩,⟨hfr.seg,?_,World.ownsRow_nil _ _ _ _,aR (O79 oc7 (Nat.le_refl _)) (Nat.zero_le _),?_,?_,?_⟩,?_,hbM10,?_,?_,?_⟩
 ·have hlen:(t++List.replicate M.locals.length 0).length=M.params.length+M.locals.length:=by rw [List.length_append,List.length_replicate,ht]
  show World.ownsRow _ 0 21 1 _ (t++List.replicate M.locals.length 0).length _;rw [hlen];exact eF hlo (by simp [ht]) (Nat.zero_le _) (by unfold maxLen;omega)
 ·rintro i (hi|hi|hi)
  ·have:w4.drew.heap.size=i:=by simpa [Value.ownBlock] using hi
   show i≠w5.heap.size;omega
  ·cases hi
  ·have:=(oc.lt i hi).2;show i≠w5.heap.size;omega
 ·intro i hi;simp [Value.ownBlock]
 ·intro i hi;have:=(oc.lt i hi).2;refine ⟨λhe=>?_,by simp [Value.ownBlock]⟩;have:w4.drew.heap.size=i:=by simpa [Value.ownBlock] using he
  omega
 ·rintro i ((hi|hi|hi)|hi)
  ·have hi:i=w5.heap.size:=hi;omega
  ·have:w4.drew.heap.size=i:=by simpa [Value.ownBlock] using hi
   omega
  ·cases hi
  ·exact (oc.lt i hi).1
 ·have:=f10.own ho9 λi hi he=>by
   have hgi:g'=i:=by simpa [Value.ownBlock] using hi
   subst hgi;rcases hg' with h|h
   ·exact hsm (he▸h)
   ·omega
  exact this
 ·intro i hi;have hgi:g'=i:=by simpa [Value.ownBlock] using hi
  subst hgi;rcases hg' with h|⟨h1',h2',h3',h4'⟩
  ·exact .inl h
  ·refine .inr ⟨h1',?_⟩;rintro ((hi|hi|hi)|hi)
   ·exact h2' hi
   ·have:w4.drew.heap.size=g':=by simpa [Value.ownBlock] using hi
    omega
   ·cases hi
   ·have:=(oc.lt g' hi).2;omega
 ·have F7:aG w w7:=f7.ext x06 λi hi=>by have hi:i=w4.drew.heap.size:=hi;omega
  exact ((Fr.of_ext (S:=λi=>i=mb\/sl.ownBlock=some i) (F7.trans x8)).trans (f9.mono λi hi=>.inr hi) λ_ _ h=>h).trans (f10.mono λi hi=>.inl hi) λ_ _ h=>h
def Below (l:List bE) (w:O):List FP->List gY->Prop
 | [],[]=>True
 | q::qs,f::fs=>pQ w q (f.me l) f/\Below l w qs fs
 | _,_=>False
theorem Below.len {l:List bE} {w:O}:∀ {qs:List FP} {fs:List gY},Below l w qs fs->qs.length=fs.length
 | [],[],_=>rfl
 | q::qs,f::fs,h=>by simp [Below.len h.2]
 | [],_::_,h=>h.elim
 | _::_,[],h=>h.elim
theorem Below.fr {l:List bE} {w w':O} {S:Nat->Prop} (g:Fr S w w'):∀ {qs:List FP} {fs:List gY},Below l w qs fs->(∀ a∈qs,∀ i,qO a i->¬ S i)->Below l w' qs fs
 | [],[],_,_=>trivial
 | q::qs,f::fs,h,hn=>⟨h.1.fr g (hn q (by simp)),Below.fr g h.2 λa ha=>hn a (by simp [ha])⟩
 | [],_::_,h,_=>h.elim
 | _::_,[],h,_=>h.elim
def BX (X0:Nat->Prop) (fg:Nat) (qs:List FP) (i:Nat):Prop:=X0 i\/i=fg\/∃ a∈qs,qO a i
structure cO (l:List bE) (X0:Nat->Prop) (p:iP) (fg fcap:Nat) (qs:List FP) (q:FP) (m:PM) (w:O):Prop where
 wh:Wh l p q m.f m.r (BX X0 fg qs) (.slice (some ⟨fg,0,none⟩) (qs.length+1) fcap) m.fuel 0 w
 row:w.ownsRow 0 111 1 (.slice (some ⟨fg,0,none⟩) (qs.length+1) fcap) (qs.length+1) ((q::qs).reverse.map pf)
 bel:Below l w qs m.fs
 bd:qs.Pairwise λa b=>∀ i,qO a i->¬ qO b i
 bf:∀ a∈qs,¬ qO a fg
 x0:∀ i,X0 i->i≠fg/\∀ a∈qs,¬ qO a i
def GZ (l:List bE) (X0:Nat->Prop) (p:iP) (m':PM) (w w':O):Prop:=∃ p' fg' fcap' qs' q',cO l X0 p' fg' fcap' qs' q' m' w'/\p'.mb=p.mb/\p'.rp.rb=p.rp.rb/\Fr (λi=>¬ X0 i) w w'
def UH (l:List bE) (X0:Nat->Prop) (p:iP) (e:zR) (w:O):Prop:=∃ q f X a cap,Wh l p q f e.r X (.slice a e.depth cap) e.fuel e.s w/\∀ i,X0 i->X i
def EGo (l:List bE) (X0:Nat->Prop) (p:iP) (e:zR) (w w':O):Prop:=∃ p',UH l X0 p' e w'/\p'.mb=p.mb/\p'.rp.rb=p.rp.rb/\Fr (λi=>¬ X0 i) w w'
section
variable {l:List bE} {X0:Nat->Prop} {p p1:iP} {fg fcap:Nat} {qs:List FP} {q q1:FP} {m:PM} {w w1 w':O}
theorem jM.fx {X:Nat->Prop} {f:gY} {r:Rm} {sl:Z} {fu st:Int} (h:Wh l p q f r X sl fu st w) (s:jM p q p1 q1 w w1):Fr (λi=>¬ X i) w w1:=s.fr.mono λ_ hi hx=>h.other hx hi
theorem cO.len (h:cO l X0 p fg fcap qs q m w):qs.length=m.fs.length:=h.bel.len
theorem cO.top (h:cO l X0 p fg fcap qs q m w) {f':gY} {r':Rm} {fu':Nat} (h1:Wh l p1 q1 f' r' (BX X0 fg qs) (.slice (some ⟨fg,0,none⟩) (qs.length+1) fcap) fu' 0 w1) (s:jM p q p1 q1 w w1):cO l X0 p1 fg fcap qs q1 ⟨m.fs,f',fu',r'⟩ w1:=by
 have F:=jM.fx h.wh s;refine ⟨h1,?_,h.bel.fr F λa ha i hi hn=>hn (.inr (.inr ⟨a,ha,hi⟩)),h.bd,h.bf,h.x0⟩;have e:(q1::qs).reverse.map pf=(q::qs).reverse.map pf:=by simp [s.pf]
 rw [e];exact F.own h.row λi hi hn=>hn (.inr (.inl (by simpa [Value.ownBlock] using hi.symm)))
theorem cO.topGo (h:cO l X0 p fg fcap qs q m w) {f':gY} {r':Rm} {fu':Nat} (g:gR l p q f' r' (BX X0 fg qs) (.slice (some ⟨fg,0,none⟩) (qs.length+1) fcap) fu' 0 w w1):∃ p1 q1,cO l X0 p1 fg fcap qs q1 ⟨m.fs,f',fu',r'⟩ w1/\jM p q p1 q1 w w1:=by
 obtain ⟨p1,q1,h1,s⟩:=g;exact ⟨p1,q1,h.top h1 s,s⟩
theorem cO.fx (h:cO l X0 p fg fcap qs q m w) (s:jM p q p1 q1 w w1):Fr (λi=>¬ X0 i) w w1:=(jM.fx h.wh s).mono λ_ hn hx=>hn (.inl hx)
theorem aTz (h:cO l X0 p fg fcap qs q m w) (hd:m.fs.length < 8):aD prog 48 #[pm p] w λrv w'=>rv=pf q/\aG w w':=by
 have hl:=h.len;apply aSj;unfold QK;have D1:aG w w.drew:=(aG.refl _).drew;refine aI.mk' (λw'=>aG w w') D1 ⟨.inl ⟨_,rfl⟩,?_⟩;refine RS cA fX (λw' hw=>h.wh.box.ext hw) rfl ⟨.inl ⟨_,rfl⟩,?_⟩;refine RS cA fX (λw' hw=>h.wh.box.ext hw) rfl ?_;refine aB.ok (λw' _=>lD underlying107) ?_;refine aB.ok (λw' _=>nR) ?_;rw [show IntKind.i64.wrap (((qs.length+1:Nat):Int) - 1)=(qs.length:Int) from by rw [aY (by omega)];omega];refine hJ aNj jK (aC.of_own h.row) (λw' hw=>hw) (by omega) (by omega) (u:=pf q) ?_ ⟨rfl,D1⟩;rw [Int.toNat_natCast,List.reverse_cons,List.map_append,List.getElem?_append_right (by simp)];simp
theorem aVg (hT:oE l) (h:cO l X0 p fg fcap qs q m w) (hd:m.fs.length < 8) (h8:m.f.st.length<=8) (_:gP m.f.st) (hpc:m.f.pc<=1000) {to mth:Nat} (h1:to < l.length) (h2:mth < (aP l to).methods.length) {n:Nat} (hn:n=((aP l to).meth mth).params.length) (hnt:n<=m.f.st.length) :
  aD prog 89 #[pm p,pf q,i64 (to:Int),i64 (mth:Int)] w λrv w'=>
   (8<=m.fs.length+1/\rv=i64 28422/\gR l p q { m.f with st:=iU n m.f.st } m.r (BX X0 fg qs) (.slice (some ⟨fg,0,none⟩) (qs.length+1) fcap) m.fuel 0 w w') \/
   (¬ 8<=m.fs.length+1/\rv=i64 36864/\GZ l X0 p ⟨{ m.f with st:=iU n m.f.st,pc:=m.f.pc+1 }::m.fs,oU l to mth (gO n m.f.st),m.fuel,m.r⟩ w w'/\∃ cs,lV w' q.fb 0 cs/\cs[0]?=some (i64 (m.f.who:Int))):=by
 have hl:=h.len;have hmr:=(hT _ (fT h1)).1.2.2.1.2.1 _ (meth_mem h2)
 have hmth:(aP l to).methods[mth]?=some ((aP l to).meth (mth:Int)):=by
  unfold bE.meth;rw [Int.toNat_natCast,List.getD_eq_getElem?_getD,List.getElem?_eq_getElem h2];rfl
 apply aRt;unfold PZ;refine ⟨.inl ⟨_,rfl⟩,?_⟩;refine kU cN fJ h.wh.box rfl ?_;refine (yE h.wh.room.room h.wh.img.now hT h1).mono λrv w2 ⟨p2,hrv,hO,x2⟩=>?_;subst hrv;refine cD.2 (cC.2 ?_);refine AC FB rfl hO.one λw3 hb3 x3=>?_;have hb3:bA w3 w2.heap.size (p2.cells (aP l to)) 46:=hb3;refine bC hb3.boxed bP gM rfl ?_;refine qB (i:=mth) iT fN bB (hO.at_.mt.ext x3) hmth λrow ⟨mpv,mlv,mcv,hrow,hmp,_,_⟩=>⟨mpv,by rw [hrow];rfl,by decide,?_⟩;refine gL aK hmp ?_;rw [<- hn];have x03:=x2.trans x3;refine (aOr (h.wh.ext x03) (by omega) hnt).mono λrv w4 ⟨ho,p4,q4,h4,s4⟩=>?_;have s04:=(jM.of_ext (p:=p) (q:=q) x03).trans s4;have e:pm p=.pointer (some ⟨p4.mb,0,none⟩):=by unfold pm;rw [s4.mb]
 have e2:pf q=.pointer (some ⟨q4.fb,0,none⟩):=by unfold pf;rw [s4.fb]
 rw [e,e2];refine ⟨.inl ⟨_,rfl⟩,?_⟩;refine kU cA fX h4.box rfl (yU.2 (lT.2 (aL (λhge=>?_) λhlt=>?_)))
 ·exact .inl ⟨by omega,rfl,p4,q4,h4,s04⟩
 refine ⟨.inl ⟨_,rfl⟩,?_⟩;refine kU cI aJ h4.frm.box rfl (bQ.2 ?_);rw [show IntKind.i64.wrap (((m.f.pc:Nat):Int)+1)=((m.f.pc+1:Nat):Int) from by rw [aY (by omega)];omega];refine ⟨.inl ⟨_,rfl⟩,?_⟩;refine fdA cI ?_;refine pE gW h4.frm.box (show 2 < 9 by decide) rfl ?_;have g5:=h4.setPc (m.f.pc+1)
 have ho5:=(Fr.of_set (w:=w4) (b:=q4.fb) (o:=0+2) (v:=i64 ((m.f.pc+1:Nat):Int)) (S:=λi=>i=q4.fb) rfl).own ho λi hi he=>by
  have h0:=(ho.lt i hi).1;have:=(h.wh.ext x03).frm.hi q.fb (.inl (.inl rfl));rw [he,s4.fb] at h0;omega
 generalize w4.setCell ⟨q4.fb,0+2,none⟩ (i64 ((m.f.pc+1:Nat):Int))=w5 at g5 ho5 ⊢;obtain ⟨p5,q5,h5,s5⟩:=g5;have s05:=s04.trans s5;have F5:=h.fx s05;have hX5:=jM.fx h.wh s05
 have row5:w5.ownsRow 0 111 1 (.slice (some ⟨fg,0,none⟩) (qs.length+1) fcap) (qs.length+1) ((q5::qs).reverse.map pf):=by
  have e:(q5::qs).reverse.map pf=(q::qs).reverse.map pf:=by simp [s05.pf]
  rw [e];exact hX5.own h.row λi hi hn=>hn (.inr (.inl (by simpa [Value.ownBlock] using hi.symm)))
 have bel5:=h.bel.fr hX5 λa ha i hi hn=>hn (.inr (.inr ⟨a,ha,hi⟩));have emb:p4.mb=p5.mb:=s5.mb.symm;rw [emb];have hfgm:fg≠p5.mb:=λhe=>by cases h5.sep.dj .ex .mb fg (.inr (.inl rfl)) he
 have htl:(gO n m.f.st).length=n:=oH hnt;refine (YB hT h5.room.room h5.img.now (show lV w5 p5.mb 0 [.pointer (some ⟨p5.rp.rb,0,none⟩),qJ p5.rp,.slice (some ⟨fg,0,none⟩) (qs.length+1) fcap,i64 (m.fuel:Int),i64 0] from h5.box) row5 (by omega) (λhe=>hfgm (by simpa [Value.ownBlock] using he)) h1 h2 (pv:=rv) (t:=gO n m.f.st) (by rw [htl];exact aC.of_own ho5) (htl.trans hn)).mono λ_ w6 ⟨sl',qn,hq6,hnew,hb6,hr6,hsl6,F6⟩=>?_;refine .inr ⟨by omega,rfl,?_⟩
 suffices hM:GZ l X0 p ⟨{ m.f with st:=iU n m.f.st,pc:=m.f.pc+1 }::m.fs,oU l to mth (gO n m.f.st),m.fuel,m.r⟩ w w6 by
  refine ⟨hM,_,F6.seg (by rw [<- s05.fb];exact h5.frm.box) λhs=>?_,rfl⟩;rw [<- s05.fb] at hs;rcases hs with hs|hs
  ·cases h5.sep.dj .fr .mb _ (.inl (.inl rfl)) hs
  ·cases h5.sep.dj .fr .ex _ (.inl (.inl rfl)) (.inr (.inl (by simpa [Value.ownBlock] using hs.symm)))
 obtain ⟨g',cap',rfl⟩:=mA hr6 (by omega);have F6':Fr (λi=>i=p5.mb\/i=fg) w5 w6:=F6.mono λi hi=>hi.imp id λh=>by simpa [Value.ownBlock] using h.symm
 have s6:=F6.size;have nX:∀ {a:Lb} {i:Nat},WR p5 q5 (BX X0 fg qs) a i->a≠.mb->i≠p5.mb:=λ{a i} hi ha he=>ha (h5.sep.dj a .mb i hi he);have nF:∀ {a:Lb} {i:Nat},WR p5 q5 (BX X0 fg qs) a i->a≠.ex->i≠fg:=λ{a i} hi ha he=>ha (h5.sep.dj a .ex i hi (.inr (.inl he)));have n2:∀ {a:Lb} {i:Nat},WR p5 q5 (BX X0 fg qs) a i->a≠.mb->a≠.ex->¬ (i=p5.mb\/i=fg):=λhi h1 h2 h=>h.elim (nX hi h1) (nF hi h2);have rm6:=h5.room.fr F6' λi hs=>⟨λhm=>n2 (a:=.rm) (.inl hm) (by intro e;cases e) (by intro e;cases e) hs,λhm=>n2 (a:=.rm) (.inr hm) (by intro e;cases e) (by intro e;cases e) hs⟩;have fl6:=h5.fld.fr F6' (n2 (a:=.fo) rfl (by intro e;cases e) (by intro e;cases e)) λi hi=>n2 (a:=.fd) hi (by intro e;cases e) (by intro e;cases e);have im6:=h5.img.fr F6' λi hi=>n2 (a:=.im) hi (by intro e;cases e) (by intro e;cases e);have fr6:=h5.frm.fr F6' λi hi=>n2 (a:=.fr) hi (by intro e;cases e) (by intro e;cases e)
 have hg':g'=fg\/(w5.heap.size<=g'/\¬ qO qn g'):=by
  rcases hsl6 g' rfl with h|h
  ·exact .inl (by simpa [Value.ownBlock] using h.symm)
  ·exact .inr h
 have hgl:=(hr6.lt g' rfl).2;have old:∀ {a:Lb} {i:Nat},WR p5 q5 (BX X0 fg qs) a i->i < w5.heap.size:=λhi=>h5.sep.lt _ _ hi;have lq:∀ i,qO qn i->w5.heap.size<=i/\i < w6.heap.size:=λi hi=>⟨hnew i hi,hq6.hi i hi⟩;have eqs:qs.length+1+1=(q5::qs).length+1:=by simp
 refine ⟨p5,g',cap',q5::qs,qn,⟨⟨rm6,h5.rps,fl6,im6,by rw [<- eqs];exact hb6,hq6,⟨λa b i ha hb=>?_,λa i ha=>?_⟩⟩,?_,⟨fr6,?_⟩,?_,?_,?_⟩,s05.mb,s05.rb,?_⟩
 ·-- all apart
  have cls:∀ {a:Lb} {i:Nat},WR p5 qn (BX X0 g' (q5::qs)) a i->(a≠.fr/\a≠.ex/\WR p5 q5 (BX X0 fg qs) a i)\/(a=.fr/\qO qn i)\/(a=.ex/\(X0 i\/qO q5 i\/∃ c∈qs,qO c i))\/(a=.ex/\i=g'):=by
   intro a i hi;cases a with
   | fr=>exact .inr (.inl ⟨rfl,hi⟩)
   | ex=>
    rcases hi with h|h|⟨c,hc,h⟩
    ·exact .inr (.inr (.inl ⟨rfl,.inl h⟩))
    ·exact .inr (.inr (.inr ⟨rfl,h⟩))
    ·rcases List.mem_cons.1 hc with rfl|hc
     ·exact .inr (.inr (.inl ⟨rfl,.inr (.inl h)⟩))
     ·exact .inr (.inr (.inl ⟨rfl,.inr (.inr ⟨c,hc,h⟩)⟩))
   | _=>exact .inl ⟨(by intro e;cases e),(by intro e;cases e),hi⟩
  have exo:∀ {i:Nat},(X0 i\/qO q5 i\/∃ c∈qs,qO c i)->(qO q5 i\/BX X0 fg qs i):=λh=>by
   rcases h with h|h|h
   ·exact .inr (.inl h)
   ·exact .inl h
   ·exact .inr (.inr (.inr h))
  have exl:∀ {i:Nat},(X0 i\/qO q5 i\/∃ c∈qs,qO c i)->i < w5.heap.size:=λh=>by
   rcases exo h with h|h
   ·exact old (a:=.fr) h
   ·exact old (a:=.ex) h
  have main:∀ {a b:Lb} {i:Nat},WR p5 qn (BX X0 g' (q5::qs)) a i->WR p5 qn (BX X0 g' (q5::qs)) b i->a≠.fr->a≠.ex->a=b:=by
   intro a b i ha0 hb na1 na2;rcases cls ha0 with ⟨_,_,ha⟩|⟨e,_⟩|⟨e,_⟩|⟨e,_⟩
   ·rcases cls hb with ⟨_,_,hb'⟩|⟨_,hb'⟩|⟨_,hb'⟩|⟨_,hb'⟩
    ·exact h5.sep.dj a b i ha hb'
    ·have:=old ha;have:=(lq i hb').1;omega
    ·rcases exo hb' with hb'|hb'
     ·exact absurd (h5.sep.dj a .fr i ha hb') na1
     ·exact absurd (h5.sep.dj a .ex i ha hb') na2
    ·rcases hg' with h|h
     ·exact absurd (hb'.trans h) (nF ha na2)
     ·have:=old ha;omega
   ·exact absurd e na1
   iterate 2
    ·exact absurd e na2
  by_cases na1:a=.fr
  ·by_cases nb1:b=.fr
   ·rw [na1,nb1]
   ·by_cases nb2:b=.ex
    ·subst na1;subst nb2;exfalso;have ha:=lq i ha;rcases cls hb with ⟨_,h2,_⟩|⟨e,_⟩|⟨_,hb⟩|⟨_,hb⟩
     ·exact h2 rfl
     ·cases e
     ·have:=exl hb;omega
     ·subst hb;rcases hg' with h|h
      ·have:=old (a:=.ex) (i:=fg) (.inr (.inl rfl));omega
      ·exact h.2 ‹_›
    ·exact (main hb ha nb1 nb2).symm
  ·by_cases na2:a=.ex
   ·by_cases nb1:b=.fr
    ·subst na2;subst nb1;exfalso;have hb':=lq i hb;rcases cls ha with ⟨_,h2,_⟩|⟨e,_⟩|⟨_,ha⟩|⟨_,ha⟩
     ·exact h2 rfl
     ·cases e
     ·have:=exl ha;omega
     ·subst ha;rcases hg' with h|h
      ·have:=old (a:=.ex) (i:=fg) (.inr (.inl rfl));omega
      ·exact h.2 hb
    ·by_cases nb2:b=.ex
     ·rw [na2,nb2]
     ·exact (main hb ha nb1 nb2).symm
   ·exact main ha hb na1 na2
 ·cases a with
  | fr=>exact (lq i ha).2
  | ex=>
   rcases ha with h|h|⟨c,hc,h⟩
   ·have:=old (a:=.ex) (i:=i) (.inl h);omega
   ·subst h;exact hgl
   ·rcases List.mem_cons.1 hc with rfl|hc
    ·have:=old (a:=.fr) (i:=i) h;omega
    ·have:=old (a:=.ex) (i:=i) (.inr (.inr ⟨c,hc,h⟩));omega
  | rm=>have:=old (a:=.rm) (i:=i) ha;omega
  | im=>have:=old (a:=.im) (i:=i) ha;omega
  | fo=>have:=old (a:=.fo) (i:=i) ha;omega
  | fd=>have:=old (a:=.fd) (i:=i) ha;omega
  | mb=>have:=old (a:=.mb) (i:=i) ha;omega
 ·rw [<- eqs];have e:(qn::q5::qs).reverse.map pf=(q5::qs).reverse.map pf++[pf qn]:=by simp
  rw [e];exact hr6
 ·exact bel5.fr F6' λa ha i hi hs=>by
   rcases hs with hs|hs
   ·exact nX (a:=.ex) (.inr (.inr ⟨a,ha,hi⟩)) (by intro e;cases e) hs
   ·exact h.bf a ha (hs▸hi)
 ·refine List.pairwise_cons.2 ⟨λb hb i hi hb'=>?_,h.bd⟩;cases h5.sep.dj .fr .ex i hi (.inr (.inr ⟨b,hb,hb'⟩))
 ·intro a ha hi;rcases hg' with hge|hge
  ·subst hge;rcases List.mem_cons.1 ha with rfl|ha
   ·exact nF (a:=.fr) hi (by intro e;cases e) rfl
   ·exact h.bf a ha hi
  ·rcases List.mem_cons.1 ha with rfl|ha
   ·have:=old (a:=.fr) hi;omega
   ·have:=old (a:=.ex) (.inr (.inr ⟨a,ha,hi⟩));omega
 ·intro i hi;have hil:=old (a:=.ex) (i:=i) (.inl hi);refine ⟨λhe=>?_,λa ha hfa=>?_⟩
  ·subst he;rcases hg' with h'|h'
   ·exact (h.x0 _ hi).1 h'
   ·omega
  ·rcases List.mem_cons.1 ha with rfl|ha
   ·cases h5.sep.dj .fr .ex i hfa (.inl hi)
   ·exact (h.x0 i hi).2 a ha hfa
 ·refine F5.trans (F6'.mono λi hi hx=>?_) λ_ _ h=>h;rcases hi with hi|hi
  ·exact nX (a:=.ex) (.inl hx) (by intro e;cases e) hi
  ·exact (h.x0 i hx).1 hi
end
theorem aEb {P:Program} {w:O} {t e:TypeId} {z:Z} {by_:Nat} (ht:P.underlying t=some (.slice e)) (hi:Go.Vc.cT P e z 1 by_) {g n cap a:Nat} (ha:a<=n) (hn:n<=cap) :
  (Instr.sliceAt t (.slice (some ⟨g,0,none⟩) n cap) none (some (.int .i64 (a:Int))) none).run P w=.ok (.slice (some ⟨g,0,none⟩) a cap) w:=by
 have hc:a<=cap:=by omega
 simp [Instr.sliceAt,Instr.slice,run_underlying ht,dM hi,Instr.sliceBounds,Instr.sliceBound,asIntOf,hc,fR]
theorem aEn {w:O} {B e sz n g cap:Nat} {xs:List Z} (h:w.ownsRow B e sz (.slice (some ⟨g,0,none⟩) n cap) n xs):n<=cap:=by
 rcases h.2 with ⟨he,_⟩|⟨_,_,_,he,_,_,h2,_⟩
 ·cases he
 ·cases he;exact h2
section
variable {l:List bE} {X0 Y0:Nat->Prop} {p p1:iP} {fg fcap:Nat} {qs:List FP} {q q1:FP} {m:PM} {w w1 w':O}
theorem Sep.sub {R R':Lb->Nat->Prop} {n:Nat} (h:Sep R n) (hs:∀ a i,R' a i->R a i):Sep R' n:=⟨λa b i ha hb=>h.dj a b i (hs a i ha) (hs b i hb),λa i ha=>h.lt a i (hs a i ha)⟩
theorem Wh.weak {f:gY} {r:Rm} {X Y:Nat->Prop} {sl:Z} {fu st:Int} (h:Wh l p q f r X sl fu st w) (hs:∀ i,Y i->X i):Wh l p q f r Y sl fu st w:=
 ⟨h.room,h.rps,h.fld,h.img,h.box,h.frm,h.sep.sub λa i ha=>by
  cases a with
  | ex=>exact hs i ha
  | _=>exact ha⟩
theorem cO.weak (h:cO l X0 p fg fcap qs q m w) (hs:∀ i,Y0 i->X0 i):cO l Y0 p fg fcap qs q m w:=
 ⟨h.wh.weak λi hi=>hi.imp (hs i) id,h.row,h.bel,h.bd,h.bf,λi hi=>h.x0 i (hs i hi)⟩
theorem cO.go (h:cO l X0 p fg fcap qs q m w):GZ l X0 p m w w:=⟨p,fg,fcap,qs,q,h,rfl,rfl,Fr.refl _ _⟩
theorem GZ.after {m':PM} (hmb:p1.mb=p.mb) (hrb:p1.rp.rb=p.rp.rb) (F:Fr (λi=>¬ X0 i) w w1) (g:GZ l X0 p1 m' w1 w'):GZ l X0 p m' w w':=by
 obtain ⟨p',a,b,c,d,h1,h2,h3,h4⟩:=g;exact ⟨p',a,b,c,d,h1,h2.trans hmb,h3.trans hrb,F.trans h4 λ_ _ h=>h⟩
theorem EGo.after {e:zR} (hmb:p1.mb=p.mb) (hrb:p1.rp.rb=p.rp.rb) (F:Fr (λi=>¬ X0 i) w w1) (g:EGo l X0 p1 e w1 w'):EGo l X0 p e w w':=by
 obtain ⟨p',h1,h2,h3,h4⟩:=g;exact ⟨p',h1,h2.trans hmb,h3.trans hrb,F.trans h4 λ_ _ h=>h⟩
theorem cO.drop {q1:FP} {qs:List FP} {g:gY} {gs:List gY} {f:gY} {fuel:Nat} {r:Rm} (h:cO l X0 p fg fcap (q1::qs) q ⟨g::gs,f,fuel,r⟩ w) {w1:O} (hw:w1=w.setCell ⟨p.mb,0+2,none⟩ (.slice (some ⟨fg,0,none⟩) (qs.length+1) fcap)) :
  cO l (λi=>X0 i\/qO q i) p fg fcap qs q1 ⟨gs,g,fuel,r⟩ w1/\pQ w1 q (f.me l) f/\Fr (λi=>i=p.mb) w w1:=by
 subst hw;have F:Fr (λi=>i=p.mb) w (w.setCell ⟨p.mb,0+2,none⟩ (.slice (some ⟨fg,0,none⟩) (qs.length+1) fcap)):=Fr.of_set rfl;have S:=h.wh.sep;have nm:∀ {a:Lb} {i:Nat},a≠.mb->WR p q (BX X0 fg (q1::qs)) a i->¬ i=p.mb:=λha hi he=>ha (S.dj _ .mb _ hi he);have hb:=h.wh.box.set (j:=2) (by simp) (.slice (some ⟨fg,0,none⟩) (qs.length+1) fcap);obtain ⟨b1,b2⟩:=h.bel;have inq1:∀ {i},qO q1 i->BX X0 fg (q1::qs) i:=λhi=>.inr (.inr ⟨q1,by simp,hi⟩);have inqs:∀ {i a},a∈qs->qO a i->BX X0 fg (q1::qs) i:=λha hi=>.inr (.inr ⟨_,by simp [ha],hi⟩);have pw:=List.pairwise_cons.1 h.bd;refine ⟨⟨⟨?_,h.wh.rps,?_,?_,hb,?_,?_⟩,?_,?_,pw.2,λa ha=>h.bf a (by simp [ha]),λi hi=>?_⟩,?_,F⟩
 ·exact h.wh.room.fr F λi hs=>⟨λhm=>nm (a:=.rm) (by intro e;cases e) (.inl hm) hs,λhm=>nm (a:=.rm) (by intro e;cases e) (.inr hm) hs⟩
 ·exact h.wh.fld.fr F (nm (a:=.fo) (by intro e;cases e) rfl) λi hi=>nm (a:=.fd) (by intro e;cases e) hi
 ·exact h.wh.img.fr F λi hi=>nm (a:=.im) (by intro e;cases e) hi
 ·exact b1.fr F λi hi=>nm (a:=.ex) (by intro e;cases e) (inq1 hi)
 ·refine ⟨λa b i ha hb=>?_,λa i ha=>?_⟩
  ·-- where a block lay before
   have cls:∀ {a:Lb} {i:Nat},WR p q1 (BX (λi=>X0 i\/qO q i) fg qs) a i->(a≠.fr/\a≠.ex/\WR p q (BX X0 fg (q1::qs)) a i)\/(a=.fr/\qO q1 i)\/(a=.ex/\((X0 i\/i=fg\/∃ c∈qs,qO c i)\/qO q i)):=by
    intro a i hi;cases a with
    | fr=>exact .inr (.inl ⟨rfl,hi⟩)
    | ex=>
     rcases hi with (h|h)|h|h
     ·exact .inr (.inr ⟨rfl,.inl (.inl h)⟩)
     ·exact .inr (.inr ⟨rfl,.inr h⟩)
     ·exact .inr (.inr ⟨rfl,.inl (.inr (.inl h))⟩)
     ·exact .inr (.inr ⟨rfl,.inl (.inr (.inr h))⟩)
    | _=>exact .inl ⟨(by intro e;cases e),(by intro e;cases e),hi⟩
   have exo:∀ {i:Nat},((X0 i\/i=fg\/∃ c∈qs,qO c i)\/qO q i)->BX X0 fg (q1::qs) i\/qO q i:=λh=>by
    rcases h with (h|h|⟨c,hc,h⟩)|h
    ·exact .inl (.inl h)
    ·exact .inl (.inr (.inl h))
    ·exact .inl (inqs hc h)
    ·exact .inr h
   have no1:∀ {i:Nat},qO q1 i->((X0 i\/i=fg\/∃ c∈qs,qO c i)\/qO q i)->False:=λ{i} hi h'=>by
    rcases h' with (h'|h'|⟨c,hc,h'⟩)|h'
    ·exact (h.x0 i h').2 q1 (by simp) hi
    ·exact h.bf q1 (by simp) (h'▸hi)
    ·exact pw.1 c hc i hi h'
    ·cases S.dj .fr .ex i h' (inq1 hi)
   rcases cls ha with ⟨n1,n2,ha⟩|⟨e1,ha⟩|⟨e1,ha⟩<;>rcases cls hb with ⟨m1,m2,hb⟩|⟨e2,hb⟩|⟨e2,hb⟩
   ·exact S.dj a b i ha hb
   ·exact absurd (S.dj a .ex i ha (inq1 hb)) n2
   ·rcases exo hb with hb|hb
    ·exact absurd (S.dj a .ex i ha hb) n2
    ·exact absurd (S.dj a .fr i ha hb) n1
   ·exact absurd (S.dj b .ex i hb (inq1 ha)) m2
   ·rw [e1,e2]
   ·exact (no1 ha hb).elim
   ·rcases exo ha with ha|ha
    ·exact absurd (S.dj b .ex i hb ha) m2
    ·exact absurd (S.dj b .fr i hb ha) m1
   ·exact (no1 hb ha).elim
   ·rw [e1,e2]
  ·have:i < w.heap.size:=by
    cases a with
    | fr=>exact S.lt .ex i (inq1 ha)
    | ex=>
     rcases ha with (h'|h')|h'|⟨c,hc,h'⟩
     ·exact S.lt .ex i (.inl h')
     ·exact S.lt .fr i h'
     ·exact S.lt .ex i (.inr (.inl h'))
     ·exact S.lt .ex i (inqs hc h')
    | rm=>exact S.lt .rm i ha
    | im=>exact S.lt .im i ha
    | fo=>exact S.lt .fo i ha
    | fd=>exact S.lt .fd i ha
    | mb=>exact S.lt .mb i ha
   have:=F.size;omega
 ·have h1:=FL (F.own h.row λi hi=>nm (a:=.ex) (by intro e;cases e) (.inr (.inl (by simpa [Value.ownBlock] using hi.symm)))) (a:=qs.length+1) (by simp)
  have e:((q::q1::qs).reverse.map pf).take ((qs.length+1)*1)=(q1::qs).reverse.map pf:=by
   rw [List.reverse_cons,List.map_append,Nat.mul_one,List.take_left' (by simp)]
  rw [e] at h1;exact h1
 ·exact b2.fr F λa ha i hi=>nm (a:=.ex) (by intro e;cases e) (inqs ha hi)
 ·rcases hi with hi|hi
  ·exact ⟨(h.x0 i hi).1,λa ha=>(h.x0 i hi).2 a (by simp [ha])⟩
  ·refine ⟨λhe=>?_,λa ha hf=>?_⟩
   ·cases S.dj .fr .ex i hi (.inr (.inl he))
   ·cases S.dj .fr .ex i hi (inqs ha hf)
 ·exact h.wh.frm.fr F λi hi=>nm (a:=.fr) (by intro e;cases e) hi
theorem aXb (h:cO l X0 p fg fcap qs q m w) (hd:m.fs.length < 8) (h8:m.f.st.length<=8) (hg8:∀ g∈m.fs,g.st.length<=8) (hr0:0<=(m.f.me l).result) (hnt:(iM (m.f.me l).result).length<=m.f.st.length) (htr:m.r.ps.tr.length<=100000) :
  aD prog 93 #[pm p,pf q] w λ_ w'=>(m.fs=[]/\EGo l X0 p ⟨36864,0,m.fuel,m.r.ends 36864⟩ w w') \/
   ∃ g gs,m.fs=g::gs/\GZ l X0 p ⟨gs,{ g with st:=g.st++gO (iM (m.f.me l).result).length m.f.st },m.fuel,m.r⟩ w w':=by
 have hl:=h.len;apply aRo
 suffices key:∀ R:Z->O->Prop,(∀ rv w',((m.fs=[]/\EGo l X0 p ⟨36864,0,m.fuel,m.r.ends 36864⟩ w w') \/
   ∃ g gs,m.fs=g::gs/\GZ l X0 p ⟨gs,{ g with st:=g.st++gO (iM (m.f.me l).result).length m.f.st },m.fuel,m.r⟩ w w')->R rv w')->DT (pm p) (pf q) w R from key _ λrv w' h=>h
 intro R hR;unfold DT;have hcap:=aEn h.row;have D1:aG w w.drew:=(aG.refl _).drew;refine aI.mk' (λw'=>aG w w') D1 ⟨.inl ⟨_,rfl⟩,?_⟩;refine RS cA fX (λw' hw=>h.wh.box.ext hw) rfl ⟨.inl ⟨_,rfl⟩,?_⟩;refine RS cA fX (λw' hw=>h.wh.box.ext hw) rfl ?_;refine aB.ok (λw' _=>lD underlying107) ?_;refine aB.ok (λw' _=>nR) ?_;rw [show IntKind.i64.wrap (((qs.length+1:Nat):Int) - 1)=(qs.length:Int) from by rw [aY (by omega)];omega];refine aB.ok (λw' _=>aEb underlying107 LM (Nat.le_succ _) hcap) ⟨.inl ⟨_,rfl⟩,?_⟩;refine yFA cA ?_
 have hD:cO l X0 p fg fcap qs q m w.drew:=by
  have F:=Fr.of_ext (S:=λ_=>False) D1;exact ⟨h.wh.ext D1,D1.own h.row,h.bel.fr F λ_ _ _ _ h=>h,h.bd,h.bf,h.x0⟩
 refine pE LN hD.wh.box (show 2 < 5 by decide) rfl ?_;obtain ⟨fs,f,fuel,r⟩:=m;cases fs with
 | nil=>
  have hq0:qs=[]:=List.eq_nil_of_length_eq_zero hl;subst hq0;obtain ⟨p2,q2,h2,s2⟩:=hD.wh.cell (j:=2) (u:=.slice (some ⟨fg,0,none⟩) 0 fcap) (sl':=.slice (some ⟨fg,0,none⟩) 0 fcap) (fu':=(fuel:Int)) (st':=0) (by decide) rfl;have e:pm p=.pointer (some ⟨p2.mb,0,none⟩):=by unfold pm;rw [s2.mb]
  have e3:pm p=pm p2:=s2.pm.symm;have s02:=(jM.of_ext (p:=p) (q:=q) D1).trans s2;refine ⟨.inl ⟨_,rfl⟩,?_⟩;rw [e];refine kU cA fX h2.box rfl (yU.2 (aF.2 ?_));simp only [show (((0:Nat):Int)=0) by rfl,decide_true,aE];rw [<- e,e3];refine (aQe h2 htr (s:=36864)).mono λ_ w3 g=>?_;obtain ⟨p3,q3,h3,s3⟩:=gR.after s02 g;refine hR _ _ (.inl ⟨rfl,p3,⟨q3,f,BX X0 fg [],some ⟨fg,0,none⟩,fcap,h3,λi hi=>.inl hi⟩,s3.mb,s3.rb,h.fx s3⟩)
 | cons g gs=>
  cases qs with
  | nil=>simp at hl
  | cons q1 qs=>
  obtain ⟨h2,hq2,F2⟩:=hD.drop rfl;have F02:Fr (λi=>¬ X0 i) w (w.drew.setCell ⟨p.mb,0+2,none⟩ (.slice (some ⟨fg,0,none⟩) (qs.length+1) fcap)):=(Fr.of_ext (S:=λi=>¬ X0 i) D1).trans (F2.mono λi hi hx=>by cases h.wh.sep.dj .ex .mb i (.inl hx) hi) λ_ _ h=>h;have hlen1:(q1::qs).length=qs.length+1:=rfl;rw [hlen1];generalize w.drew.setCell ⟨p.mb,0+2,none⟩ (.slice (some ⟨fg,0,none⟩) (qs.length+1) fcap)=w2 at *;refine ⟨.inl ⟨_,rfl⟩,?_⟩;refine kU cA fX h2.wh.box rfl (yU.2 (aF.2 ?_));simp only [show ¬ (((qs.length+1:Nat):Int)=0) by omega,decide_false,aA];refine ⟨.inl ⟨_,rfl⟩,?_⟩;refine V.ok LC (V.ok SK (V.ok (VZ (hq2.box.cell (j:=4) rfl)) ?_));have hbelow:gs.length < 8:=by simp at hd;omega
  refine aX.2 (aL (λhne=>?_) λheq=>?_)
  ·have hres:(iM (f.me l).result).length=1:=by unfold iM;rw [if_neg hne];rfl
   have hnt:1<=f.st.length:=by rw [<- hres];exact hnt
   refine (aTz h2 hbelow).mono λrv w3 ⟨hrv,x3⟩=>?_;subst hrv;refine (xQ (hq2.ext x3) (by show f.st.length<=_;have h8:f.st.length<=8:=h8;omega) hnt).mono λrv w4 ⟨hrv,q4,hq4,s4⟩=>?_;subst hrv
   have hX3:cO l (λi=>X0 i\/qO q i) p fg fcap qs q1 ⟨gs,g,fuel,r⟩ w3:=by
    have F:=Fr.of_ext (S:=λ_=>False) x3;exact ⟨h2.wh.ext x3,x3.own h2.row,h2.bel.fr F λ_ _ _ _ h=>h,h2.bd,h2.bf,h2.x0⟩
   have nq:∀ {a:Lb} {i:Nat},a≠.ex->WR p q1 (BX (λi=>X0 i\/qO q i) fg qs) a i->¬ FM q i:=λha hi hf=>ha (hX3.wh.sep.dj _ .ex _ hi (.inl (.inr (.inl hf))))
   have h4:cO l (λi=>X0 i\/qO q i) p fg fcap qs q1 ⟨gs,g,fuel,r⟩ w4:=by
    refine ⟨hX3.wh.fr s4.fr λa i ha hi=>nq ha hi,s4.fr.own hX3.row λi hi hf=>?_,hX3.bel.fr s4.fr λa ha i hi hf=>?_,hX3.bd,hX3.bf,hX3.x0⟩
    ·exact (hX3.x0 i (.inr (.inl hf))).1 (by simpa [Value.ownBlock] using hi.symm)
    ·exact (hX3.x0 i (.inr (.inl hf))).2 a ha hi
   have F24:Fr (λi=>¬ X0 i) w2 w4:=(Fr.of_ext (S:=λi=>¬ X0 i) x3).trans (s4.fr.mono λi hi hx=>by cases h.wh.sep.dj .ex .fr i (.inl hx) (.inl hi)) λ_ _ h=>h;refine (oI h4.wh (by have:=hg8 g (by simp);show g.st.length<=_;omega)).mono λ_ w5 g5=>?_;obtain ⟨p5,q5,h5,s5⟩:=h4.topGo g5;have hF5:=h4.fx s5;refine hR _ _ (.inr ⟨g,gs,rfl,?_⟩);rw [hres]
   have et:gO 1 f.st=[nth (gO 1 f.st) 0]:=by
    obtain ⟨a,ha⟩:=List.length_eq_one_iff.1 (oH hnt);rw [ha];rfl
   rw [et];exact ⟨p5,fg,fcap,qs,q5,h5.weak λi hi=>.inl hi,s5.mb,s5.rb,(F02.trans F24 λ_ _ h=>h).trans (hF5.mono λi hi hx=>hi (.inl hx)) λ_ _ h=>h⟩
  ·have heq:(f.me l).result=0:=Classical.not_not.1 heq;refine hR _ _ (.inr ⟨g,gs,rfl,?_⟩);have hres:iM (f.me l).result=[]:=by unfold iM;rw [if_pos heq]
   show GZ l X0 p ⟨gs,{ g with st:=g.st++gO (iM (f.me l).result).length f.st },fuel,r⟩ w w2;rw [hres];have et:gO ([]:List Int).length f.st=[]:=by unfold gO;simp
   rw [et,List.append_nil];exact ⟨p,fg,fcap,qs,q1,h2.weak λi hi=>.inl hi,rfl,rfl,F02⟩
end
section
variable {l:List bE} {X0:Nat->Prop} {p p1:iP} {fg fcap:Nat} {qs:List FP} {q q1:FP} {m:PM} {w w1 w':O}
theorem cO.ext (h:cO l X0 p fg fcap qs q m w) (hx:aG w w'):cO l X0 p fg fcap qs q m w':=by
 have F:=Fr.of_ext (S:=λ_=>False) hx;exact ⟨h.wh.ext hx,hx.own h.row,h.bel.fr F λ_ _ _ _ h=>h,h.bd,h.bf,h.x0⟩
theorem cO.old (h:cO l X0 p fg fcap qs q m w) {i:Nat} (hi:(∃ a,WR p q (BX X0 fg qs) a i)):i < w.heap.size:=by
 obtain ⟨a,ha⟩:=hi;exact h.wh.sep.lt a i ha
theorem cO.add (h:cO l X0 p fg fcap qs q m w) {b:Nat} (hn:∀ i,(∃ a,WR p q (BX X0 fg qs) a i)->i≠b) (hb:b < w.heap.size):cO l (λi=>X0 i\/i=b) p fg fcap qs q m w:=by
 refine ⟨⟨h.wh.room,h.wh.rps,h.wh.fld,h.wh.img,h.wh.box,h.wh.frm,⟨λc d i hc hd=>?_,λc i hc=>?_⟩⟩,h.row,h.bel,h.bd,h.bf,λi hi=>?_⟩
 ·have up:∀ {c:Lb},WR p q (BX (λi=>X0 i\/i=b) fg qs) c i->WR p q (BX X0 fg qs) c i\/(c=.ex/\i=b):=λ{c} hc=>by
   cases c with
   | ex=>
    rcases hc with (hc|hc)|hc
    ·exact .inl (.inl hc)
    ·exact .inr ⟨rfl,hc⟩
    ·exact .inl (.inr hc)
   | _=>exact .inl hc
  rcases up hc with hc|⟨e1,hc⟩<;>rcases up hd with hd|⟨e2,hd⟩
  ·exact h.wh.sep.dj c d i hc hd
  ·exact absurd hd (hn i ⟨c,hc⟩)
  ·exact absurd hc (hn i ⟨d,hd⟩)
  ·rw [e1,e2]
 ·cases c with
  | ex=>
   rcases hc with (hc|hc)|hc
   ·exact h.wh.sep.lt .ex i (.inl hc)
   ·exact hc▸hb
   ·exact h.wh.sep.lt .ex i (.inr hc)
  | rm=>exact h.wh.sep.lt .rm i hc
  | im=>exact h.wh.sep.lt .im i hc
  | fo=>exact h.wh.sep.lt .fo i hc
  | fd=>exact h.wh.sep.lt .fd i hc
  | mb=>exact h.wh.sep.lt .mb i hc
  | fr=>exact h.wh.sep.lt .fr i hc
 ·rcases hi with hi|rfl
  ·exact h.x0 i hi
  ·refine ⟨λhe=>hn i ⟨.ex,.inr (.inl he)⟩ rfl,λa ha hf=>hn i ⟨.ex,.inr (.inr ⟨a,ha,hf⟩)⟩ rfl⟩
theorem NX {P:Program} {w:O} {a b c:Z}:(Instr.extract (.tuple #[a,b,c]) 0).run P w=.ok a w:=by simp [Instr.extract]
theorem NW {P:Program} {w:O} {a b c:Z}:(Instr.extract (.tuple #[a,b,c]) 1).run P w=.ok b w:=by simp [Instr.extract]
theorem NV {P:Program} {w:O} {a b c:Z}:(Instr.extract (.tuple #[a,b,c]) 2).run P w=.ok c w:=by simp [Instr.extract]
theorem WA {w:O} {a b c d:Z}:(Instr.field 180 (.agg #[a,b,c,d]) 2).run prog w=.ok c w:=by kernel_rfl
theorem VC {op:Int} (h:¬ cV op):aD prog 94 #[i64 op] w λr w'=>r=i64 (-1)/\w'=w:=by
 unfold cV at h;apply pB;suffices key:∀ R:Z->O->Prop,R (i64 (-1)) w->kS (i64 op) w R from key _ ⟨rfl,rfl⟩;intro R hR;unfold kS;refine ⟨λv w'=>v=.bool false/\w'=w,?_,?_⟩
 ·simp only [aF,show ¬ op=27 by omega,show ¬ op=28 by omega,decide_false,aA];exact ⟨by first|rfl|trivial,by first|rfl|trivial⟩
 rintro _ w' ⟨rfl,hw⟩ _;have hw:=hw.symm;subst hw;refine aA.2 ⟨λv w'=>v=.bool false/\w'=w,?_,?_⟩
 ·simp only [aF,show ¬ op=17 by omega,show ¬ op=18 by omega,show ¬ op=29 by omega,decide_false,aA];exact ⟨by first|rfl|trivial,by first|rfl|trivial⟩
 rintro _ w' ⟨rfl,hw⟩ _;have hw:=hw.symm;subst hw;refine aA.2 ⟨λv w'=>v=.bool false/\w'=w,?_,?_⟩
 ·simp only [aF,show ¬ op=30 by omega,show ¬ op=36 by omega,decide_false,aA];exact ⟨by first|rfl|trivial,by first|rfl|trivial⟩
 rintro _ w' ⟨rfl,hw⟩ _;have hw:=hw.symm;subst hw;refine aA.2 ?_;simp only [aF,show ¬ op=31 by omega,show ¬ op=32 by omega,decide_false,aA];exact hR
theorem TK (hT:oE l) (h:cO l X0 p fg fcap qs q m w) (hw:m.f.who < l.length) {k:Nat} (hk:k < (aP l m.f.who).imports.length) :
  aD prog 92 #[pm p,pf q,i64 (k:Int)] w λrv w'=>∃ pv,rv=.agg #[.string ((aP l m.f.who).imp k).name,i64 ((aP l m.f.who).imp k).exp,pv,i64 ((aP l m.f.who).imp k).result]/\aS w' pv ((aP l m.f.who).imp k).params/\aG w w':=by
 have himp:(aP l m.f.who).imports[k]?=some ((aP l m.f.who).imp (k:Int)):=by
  unfold bE.imp;rw [Int.toNat_natCast,List.getD_eq_getElem?_getD,List.getElem?_eq_getElem hk];rfl
 apply aRp;unfold PW;refine MO mY λw1 hz x1=>?_;have D1:aG w1 w1.drew:=(aG.refl _).drew;have hzl:=hz.lt;have s1:=x1.size;have hbox:∀ w',aG w1 w'->lV w' p.mb 0 _:=λw' hw=>(h.wh.box.ext x1).ext hw;have hfr:∀ w',aG w1 w'->lV w' q.fb 0 _:=λw' hw=>(h.wh.frm.box.ext x1).ext hw;refine aI.mk' (λw'=>aG w1 w') D1 ⟨.inl ⟨_,rfl⟩,?_⟩;refine RS cN fJ hbox rfl ⟨.inl ⟨_,rfl⟩,?_⟩;refine RS cM aJ hfr rfl ?_
 have fin:∀ {w3:O} {b:Nat} {p2:cQ},aG w1 w3->bA w3 b (p2.cells (aP l m.f.who)) 46->pO w1.heap.size w3 p2 (aP l m.f.who) ->
   V prog (Instr.fieldAt 46 (.pointer (some ⟨b,0,none⟩)) 2) w3 λt21 w6=>V prog (Instr.loadAt 43 t21) w6 λt22 w7=>V prog (Instr.indexAt 43 t22 (i64 (k:Int))) w7 λt24 w8=>V prog (Instr.loadAt 180 t24) w8 λt25 w9=>U prog (Instr.storeAt 180 (.pointer (some ⟨w.heap.size,0,none⟩)) t25) w9 λ_ w10=>
    ∃ r1,(loadVar 180 (match (Value.pointer (some ⟨w.heap.size,0,none⟩)) with|.pointer (some p)=>p|_=>⟨0,0,none⟩)).run prog w10=.ok r1 w10/\(∃ p,(Value.pointer (some ⟨w.heap.size,0,none⟩))=Value.pointer (some p))/\(∃ pv,r1=.agg #[.string ((aP l m.f.who).imp k).name,i64 ((aP l m.f.who).imp k).exp,pv,i64 ((aP l m.f.who).imp k).result]/\aS w10 pv ((aP l m.f.who).imp k).params/\aG w w10):=by
  intro w3 b p2 X hb hO3;refine bC hb.boxed cS kE rfl ?_;obtain ⟨ci,hci,hri⟩:=hO3.im;obtain ⟨pv,hrow,hpv⟩:=hri k _ himp;refine aUx mN LH hci hk hrow rfl ?_;refine EV mY (hz.ext X) (l:=[.string ((aP l m.f.who).imp k).name,i64 ((aP l m.f.who).imp k).exp,pv,i64 ((aP l m.f.who).imp k).result]) rfl rfl rfl (by simp [bR hpv];exact ⟨rfl,rfl,rfl⟩) λw4 h4 hch=>?_;have f4:=mZ hch;refine ⟨_,sH underlying180 rfl mY h4 rfl,⟨_,rfl⟩,pv,rfl,?_,?_⟩
  ·exact aC.of_own (f4.own hpv λi hi he=>by have:=(hpv.lt i hi).1;omega)
  ·exact f4.ext (x1.trans X) λi hi=>by omega
 have hIm:∀ {w2},aG w1 w2->aD prog 88 #[kM p.rp,i64 (m.f.who:Int)] w2 λr w'=>∃ p':cQ,r=.tuple #[p'.val (aP l m.f.who),.bool true]/\pO w2.heap.size w' p' (aP l m.f.who)/\aG w2 w':=λhx=>yE (h.wh.room.room.ext (x1.trans hx)) ((h.wh.img.ext (x1.trans hx)).now) hT hw;refine ⟨?_,?_⟩
 ·refine (hIm D1).mono λrv w2 ⟨p2,hrv,hO,x2⟩=>?_;subst hrv;have X2:=D1.trans x2;refine ⟨X2,aB.ok (λw' _=>fW) (aB.ok (λw' _=>fV) ?_)⟩;refine MO iN λw3 hz3 x3=>?_;have hO:=hO.mono (B':=w1.heap.size) (Nat.le_refl _);refine ⟨X2.trans x3,?_⟩;refine EV iN hz3 (l:=p2.cells (aP l m.f.who)) rfl rfl rfl hO.one λw4 h4 hch=>?_;have e:=hch.ext w2 x3 (Nat.le_refl _);exact ⟨X2.trans e,fin (X2.trans e) h4 (hO.fr (Fr.of_ext (S:=λ_=>False) e) λ_ _ h=>h)⟩
 ·refine MO iN λw3 hz3 x3=>?_;refine ⟨D1.trans x3,?_⟩;have s3:=x3.size;have sD:=D1.size;have l3:=hz3.lt;refine (hIm (D1.trans x3)).mono λrv w2 ⟨p2,hrv,hO,x2⟩=>?_;subst hrv;have X2:=(D1.trans x3).trans x2;refine ⟨X2,aB.ok (λw' _=>fW) (aB.ok (λw' _=>fV) ?_)⟩;refine EV iN (hz3.ext x2) (l:=p2.cells (aP l m.f.who)) rfl rfl rfl hO.one λw4 h4 hch=>?_;have f4:=mZ hch;have e:aG w1 w4:=f4.ext X2 λi hi=>by omega
  refine ⟨e,fin e h4 ((hO.fr f4 λi hi he=>by omega).mono (by omega))⟩
inductive DoR (l:List bE) (X0:Nat->Prop) (p:iP) (q:FP) (X:Nat->Prop) (sl:Z) (d0 fu0:Nat) (o:Out) (rv:Z) (w w':O):Prop
 | run (m':PM):o=.run m'->rv=i64 36864->GZ l X0 p m' w w'->DoR l X0 p q X sl d0 fu0 o rv w w'
 | fin (s:Int) (d fu:Nat) (r:Rm):o=.fin s d fu r->rv=i64 36864->EGo l X0 p ⟨s,d,fu,r⟩ w w'->DoR l X0 p q X sl d0 fu0 o rv w w'
 | bad (s:Int) (r:Rm) (f':gY):o=.fin s d0 fu0 (r.ends s)->s≠36864->s≠0->rv=i64 s->gR l p q f' r X sl fu0 0 w w'->DoR l X0 p q X sl d0 fu0 o rv w w'
theorem xC {s:PS} {who:Int} {x:fS} {t:List Int}:(eB s who x t).2.1≠0:=by
 have chk0:∀ {l:List PA} {r who:Int},qF l r who≠0:=λ{l r who}=>by
  unfold qF;refine mI ?_ (by decide);split
  ·exact mI (by decide) (by decide)
  ·decide
 have rng0:∀ {l:List PA} {r a n who:Int},fU l r a n who≠0:=λ{l r a n who}=>by
  unfold fU;refine mI ?_ chk0;split
  ·exact mI (by decide) (by decide)
  ·decide
 have qN:∀ {s:PS} {who r1 a1 r2 a2 n:Int},iE s who r1 a1 r2 a2 n≠0:=λ{s who r1 a1 r2 a2 n}=>mI rng0 rng0;unfold eB oR oQ dT pG pH pF kL kD eY
 repeat' (with_reducible apply UX)
 all_goals first|exact chk0|exact rng0|exact qN|(dsimp only;decide)
theorem doW (hT:oE l) (hll:l.length<=1000) (h:cO l X0 p fg fcap qs q m w) (hok:m.ok l) (htr:m.r.ps.tr.length<=99000) :
  aD prog 53 #[pm p,pf q,.agg #[i64 (m.f.ins l).op,i64 (m.f.ins l).a,i64 (m.f.ins l).b]] w λrv w'=>
   DoR l X0 p q (BX X0 fg qs) (.slice (some ⟨fg,0,none⟩) (qs.length+1) fcap) (m.fs.length+1) m.fuel (vD l m.fs m.f m.fuel m.r (m.f.ins l) (gO (aZ l m.f) m.f.st) (iU (aZ l m.f) m.f.st)) rv w w':=by
 have hA:=hok.top.at_ hT;have hrt:=hok.top.rt hT;have hdep:=hok.dep;have h8:=hA.hi;have hnt:=hA.nt;have hpc:m.f.pc<=1000:=by have:=hA.pc;have:=hrt.2.1.2.2.2.1.2;omega
 have h32:=hok.top.s32;have hl:=h.len;generalize hx:m.f.ins l=x at *;have hokx:AF (m.f.img l) (m.f.me l) x:=hx▸hA.okx;have hN:aZ l m.f=(aT (m.f.img l) (m.f.me l) x).length:=by unfold aZ;rw [hx]
 apply aSf;suffices key:∀ R:Z->O->Prop,(∀ rv w',DoR l X0 p q (BX X0 fg qs) (.slice (some ⟨fg,0,none⟩) (qs.length+1) fcap) (m.fs.length+1) m.fuel (vD l m.fs m.f m.fuel m.r x (gO (aZ l m.f) m.f.st) (iU (aZ l m.f) m.f.st)) rv w w'->R rv w')->EB (pm p) (pf q) (.agg #[i64 x.op,i64 x.a,i64 x.b]) w R from key _ λrv w' h=>h;intro R hR;unfold EB;refine uN λw1 hb x1=>?_;have hb:bA w1 w.heap.size [i64 x.op,i64 x.a,i64 x.b] 70:=hb;have h1:=h.ext x1;refine bC hb.boxed bU aJ rfl (aF.2 ?_)
 have call:∀ {to mth:Nat} {w2:O},mB l m.f x=some (to,mth)->x.op=37\/x.op=38->x.op≠39->aG w1 w2->aD prog 89 #[pm p,pf q,i64 (to:Int),i64 (mth:Int)] w2 λrv w3=>((∃ cs,lV w3 q.fb 0 cs/\cs[0]?=some (i64 (m.f.who:Int)))/\bA w3 w.heap.size [i64 x.op,i64 x.a,i64 x.b] 70)/\R rv w3:=by
  intro to mth w2 hq hc h39 x2;have x02:=x1.trans x2
  have key:to < l.length/\mth < (aP l to).methods.length/\aZ l m.f=((aP l to).meth mth).params.length:=by
   have hnm:=hokx.nm;have hxr:=hokx.xr;rw [hN];unfold mB at hq;obtain ⟨op,a,b⟩:=x;dsimp only at hc hq h39;rcases hc with rfl|rfl
   ·rw [if_pos rfl] at hq;cases hq;have ha:0<=a:=hxr.2.1;have hn:a < ((m.f.img l).methods.length:Int):=hnm;have e:((a.toNat:Nat):Int)=a:=by omega
    refine ⟨hok.top.who,by have:m.f.img l=aP l m.f.who:=rfl;rw [this] at hn;omega,?_⟩;simp only [e];rfl
   ·rw [if_neg (by decide)] at hq;have ha:0<=a:=hxr.2.1;have hn:a < ((m.f.img l).imports.length:Int):=hnm;obtain ⟨r1,r2,r3,_⟩:=sU hT hok.top.who ha hn hq;refine ⟨r1,r2,?_⟩;rw [r3];rfl
  obtain ⟨k1,k2,k3⟩:=key
  have eD:vD l m.fs m.f m.fuel m.r x (gO (aZ l m.f) m.f.st) (iU (aZ l m.f) m.f.st)=if 8<=m.fs.length+1 then .fin 28422 (m.fs.length+1) m.fuel (m.r.ends 28422) else .run ⟨{ m.f with st:=iU (aZ l m.f) m.f.st,pc:=m.f.pc+1 }::m.fs,oU l to mth (gO (aZ l m.f) m.f.st),m.fuel,m.r⟩:=by
   unfold vD;rw [if_neg h39,if_pos hc,hq]
  have hB:=((h.ext x1).add (b:=w.heap.size) (λi hi=>Nat.ne_of_lt (h.old hi)) hb.lt).ext x2;have hb2:=hb.ext x2;refine (aVg hT hB hdep h8 h32 hpc k1 k2 k3 hnt).mono λrv w3 hc3=>?_;rcases hc3 with ⟨g1,g2,p3,q3,g3,s3⟩|⟨g1,g2,g3,g4⟩
  ·rw [if_pos g1] at eD
   have g3':=g3.weak (Y:=BX X0 fg qs) λi hi=>by
    rcases hi with hi|hi|hi
    ·exact .inl (.inl hi)
    ·exact .inr (.inl hi)
    ·exact .inr (.inr hi)
   refine ⟨⟨⟨_,by rw [<- s3.fb];exact g3.frm.box,rfl⟩,s3.fr.blk hb2 (hB.wh.other (.inl (.inr rfl)))⟩,?_⟩;exact hR _ _ (.bad 28422 _ _ eD (by decide) (by decide) g2 (gR.of_ext x02 ⟨p3,q3,g3',s3⟩))
  ·rw [if_neg g1] at eD;obtain ⟨p3,a3,b3,c3,d3,m1,m2,m3,m4⟩:=g3;refine ⟨⟨g4,m4.blk hb2 λhn=>hn (.inr rfl)⟩,?_⟩;exact hR _ _ (.run _ eD g2 (GZ.after rfl rfl (Fr.of_ext x02) ⟨p3,a3,b3,c3,d3,m1.weak λi hi=>.inl hi,m2,m3,m4.mono λi hn hx=>hn (.inl hx)⟩))
 refine aL (λh37=>?_) λn37=>?_
 ·-- Call
  have hc0:mB l m.f x=some (m.f.who,x.a.toNat):=by unfold mB;rw [if_pos h37]
  have ha:0<=x.a:=by
   have:=hokx.xr.2.1;unfold lim at this;rw [h37] at this;exact this
  have D1:aG w1 w1.drew:=(aG.refl _).drew;refine aI.mk' (λw'=>(∃ cs,lV w' q.fb 0 cs/\cs[0]?=some (i64 (m.f.who:Int)))/\bA w' w.heap.size [i64 x.op,i64 x.a,i64 x.b] 70) ⟨⟨_,h1.wh.frm.box.ext D1,rfl⟩,hb.ext D1⟩ ⟨.inl ⟨_,rfl⟩,?_⟩;refine yFE cM aJ (λw' hw=>hw.1) ?_;refine dS (λw' hw=>hw.2.boxed) bD aJ rfl ?_;have:=call hc0 (.inl h37) (by omega) D1;rw [show ((x.a.toNat:Nat):Int)=x.a by omega] at this;exact this
 refine aF.2 (aL (λh38=>?_) λn38=>?_)
 ·-- CallX
  have hxr:=hokx.xr.2.1;unfold lim at hxr;rw [h38] at hxr;have ha:0<=x.a:=hxr
  have hnm:x.a < ((m.f.img l).imports.length:Int):=by
   have:=hokx.nm;unfold gT at this;rw [h38] at this;exact this
  obtain ⟨k,hk⟩:∃ k:Nat,x.a=k:=⟨x.a.toNat,by omega⟩;have D1:aG w1 w1.drew:=(aG.refl _).drew;refine aI.mk' (λw'=>aG w1 w') D1 ⟨.inl ⟨_,rfl⟩,?_⟩;refine RS cN fJ (λw' hw=>h1.wh.box.ext hw) rfl ⟨.inl ⟨_,rfl⟩,?_⟩;refine RS cM aJ (λw' hw=>h1.wh.frm.box.ext hw) rfl ?_;refine dS (λw' hw=>(hb.ext hw).boxed) bD aJ rfl ?_;have hD:=h1.ext D1;have hkl:k < (aP l m.f.who).imports.length:=by have e:m.f.img l=aP l m.f.who:=rfl;rw [e] at hnm;omega
  refine aD.mono (R:=λrv w2=>rv=(match lC l m.f.who (k:Int) with|some q=>.tuple #[i64 (q.1:Int),i64 (q.2:Int),.bool true]|none=>.tuple #[i64 0,i64 0,.bool false])/\aG w1.drew w2) ?_ λrv w2 ⟨hrv,x2⟩=>?_
  ·apply aRr;unfold PY;refine ⟨.inl ⟨_,rfl⟩,?_⟩;refine kU cH jC hD.wh.room.room rfl ?_;rw [hk];refine (CO hD.wh.img.now hT hll hok.top.who hkl).mono λrv w2 ⟨hrv,x2⟩=>?_;cases hq:lC l m.f.who (k:Int) with
   | none=>
    rw [hq] at hrv;subst hrv;exact V.ok NX (V.ok NW (V.ok NV ⟨rfl,x2⟩))
   | some z=>
    rw [hq] at hrv;subst hrv;exact V.ok NX (V.ok NW (V.ok NV ⟨rfl,x2⟩))
  have x12:=D1.trans x2;have x02:=x1.trans x12;have eq38:mB l m.f x=lC l m.f.who (k:Int):=by unfold mB;rw [if_neg (by omega),hk]
  refine ⟨x12,?_⟩;cases hq:lC l m.f.who (k:Int) with
  | none=>
   rw [hq] at hrv;subst hrv;refine aB.ok (λw' _=>NX) (aB.ok (λw' _=>NW) (aB.ok (λw' _=>NV) (eU.2 ?_)));refine aE.2 ?_;refine bC (hb.ext x12).boxed bD aJ rfl ?_;rw [hk];refine (TK hT (h1.ext x12) hok.top.who hkl).mono λrv w3 ⟨pv,hrv,hpv,x3⟩=>?_;subst hrv;refine V.ok WA ?_;refine gL aK hpv ?_
   have e1:((aP l m.f.who).imp (k:Int)).params.length=aZ l m.f:=by
    rw [hN];unfold aT;simp only [h38,iF,Int.reduceEq,or_self,Int.reduceLE,and_false,if_false,if_true];rw [hk];rfl
   rw [e1];refine (aOr (h1.ext (x12.trans x3)).wh (by omega) hnt).mono λrv w4 ⟨_,g⟩=>?_
   have eD:vD l m.fs m.f m.fuel m.r x (gO (aZ l m.f) m.f.st) (iU (aZ l m.f) m.f.st)=.fin 28424 (m.fs.length+1) m.fuel (m.r.ends 28424):=by
    unfold vD;rw [if_neg (by omega),if_pos (.inr h38),eq38,hq]
   exact hR _ _ (.bad 28424 _ _ eD (by decide) (by decide) rfl (gR.of_ext (x1.trans (x12.trans x3)) g))
  | some z=>
   rw [hq] at hrv;subst hrv;refine aB.ok (λw' _=>NX) (aB.ok (λw' _=>NW) (aB.ok (λw' _=>NV) (eU.2 ?_)));refine aA.2 ?_;exact (call (eq38.trans hq) (.inr h38) (by omega) x12).mono λ_ _ h=>h.2
 refine aF.2 (aL (λh39=>?_) λn39=>?_)
 ·-- Ret
  have hnr:aZ l m.f=(iM (m.f.me l).result).length:=by
   rw [hN];unfold aT;simp only [h39,iF,Int.reduceEq,or_self,Int.reduceLE,and_false,if_false,if_true]
  have hg8:∀ g∈m.fs,g.st.length<=8:=by
   have:∀ (c:gY) (fs:List gY),aDb l c fs->∀ g∈fs,g.st.length<=8:=by
    intro c fs;induction fs generalizing c with
    | nil=>intro _ g hg;simp at hg
    | cons a fs ih=>
     intro hch g hg;obtain ⟨c1,c2⟩:=hch;rcases List.mem_cons.1 hg with rfl|hg
     ·obtain ⟨K,hK,hl⟩:=c1.rch;have hr:=c1.rt hT;obtain ⟨_,_,_,g4,_⟩:=hK.go hr.1 hr.2.1;omega
     ·exact ih a c2 g hg
   exact this _ _ hok.ch
  refine (aXb h1 hdep h8 hg8 hrt.2.1.2.1.1 (by rw [<- hnr];exact hnt) (by omega)).mono λrv w2 hr=>?_;rcases hr with ⟨e,g⟩|⟨g0,gs,e,g⟩
  ·have eD:vD l m.fs m.f m.fuel m.r x (gO (aZ l m.f) m.f.st) (iU (aZ l m.f) m.f.st)=.fin 36864 0 m.fuel (m.r.ends 36864):=by
    unfold vD;rw [if_pos h39,e]
   exact hR _ _ (.fin _ _ _ _ eD rfl (EGo.after rfl rfl (Fr.of_ext x1) g))
  ·have eD:vD l m.fs m.f m.fuel m.r x (gO (aZ l m.f) m.f.st) (iU (aZ l m.f) m.f.st)=.run ⟨gs,{ g0 with st:=g0.st++gO (aZ l m.f) m.f.st },m.fuel,m.r⟩:=by
    unfold vD;rw [if_pos h39,e]
   refine hR _ _ (.run _ eD rfl (GZ.after rfl rfl (Fr.of_ext x1) ?_));rw [hnr];exact g
 refine bC hb.boxed bU aJ rfl ?_;have hne:¬ (x.op=37\/x.op=38):=by omega
 by_cases hs:cV x.op
 ·-- served
  have hNs:aZ l m.f=oO x.op:=by rw [hN];exact CM hs
  refine (SB hs).mono λrv w2 ⟨hrv,hw⟩=>?_;subst hrv;have hw:=hw.symm;subst hw;refine lT.2 ?_;simp only [show ((oO x.op:Nat):Int)>=0 by omega,decide_true,aE];refine qL hb.boxed uA rfl ?_;refine (aNv h1.wh hokx.xr hs (by rw [<- hNs];exact hnt) h8 h32 hpc htr rfl).mono λrv w2 ⟨hrv,g1,g2⟩=>?_
  have eD:vD l m.fs m.f m.fuel m.r x (gO (aZ l m.f) m.f.st) (iU (aZ l m.f) m.f.st)=if (eB m.r.ps m.f.who x (gO (aZ l m.f) m.f.st)).2.1=36864 then .run ⟨m.fs,{ m.f with st:=iU (aZ l m.f) m.f.st++(if gV x.op then [] else [(eB m.r.ps m.f.who x (gO (aZ l m.f) m.f.st)).1]),pc:=m.f.pc+1 },m.fuel,{ m.r with ps:=(eB m.r.ps m.f.who x (gO (aZ l m.f) m.f.st)).2.2 }⟩
   else .fin (eB m.r.ps m.f.who x (gO (aZ l m.f) m.f.st)).2.1 (m.fs.length+1) m.fuel (Rm.ends { m.r with ps:=(eB m.r.ps m.f.who x (gO (aZ l m.f) m.f.st)).2.2 } (eB m.r.ps m.f.who x (gO (aZ l m.f) m.f.st)).2.1):=by
   unfold vD;rw [if_neg n39,if_neg hne,if_pos hs]
  rw [hNs] at eD;rw [hNs] at hR;by_cases hf:(eB m.r.ps m.f.who x (gO (oO x.op) m.f.st)).2.1=36864
  ·rw [if_pos hf] at eD;obtain ⟨p2,q2,hm2,s2⟩:=h1.topGo (fu':=m.fuel) (g1 hf);refine hR _ _ (.run _ eD (by rw [hrv,hf]) (GZ.after rfl rfl (Fr.of_ext x1) ⟨p2,fg,fcap,qs,q2,hm2,s2.mb,s2.rb,h1.fx s2⟩))
  ·rw [if_neg hf] at eD;exact hR _ _ (.bad _ _ _ eD hf xC hrv (gR.of_ext x1 (g2 hf)))
 ·-- plain
  refine (VC hs).mono λrv w2 ⟨hrv,hw⟩=>?_;subst hrv;have hw:=hw.symm;subst hw;refine lT.2 ?_;simp only [show ¬ ((-1:Int)>=0) by omega,decide_false,aA];refine qL hb.boxed uA rfl ?_;refine (aOs h1.wh hokx ⟨by omega,by omega,n39,hs⟩ (by rw [<- hN];exact hnt) h8 h32 hok.top.loc hok.top.who hok.fd hpc).mono λrv w2 ⟨hrv,g⟩=>?_;subst hrv;rw [<- hN] at g ⊢;obtain ⟨p2,q2,h2,s2⟩:=g;have e:pf q=.pointer (some ⟨q2.fb,0,none⟩):=by unfold pf;rw [s2.fb]
  rw [e];refine ⟨.inl ⟨_,rfl⟩,?_⟩;refine fdA cI ?_;refine pE gW h2.frm.box (show 2 < 9 by decide) rfl ?_;have g3:=gR.after s2 (h2.setPc (zU x m.f.pc (gO (aZ l m.f) m.f.st)));obtain ⟨p3,q3,hm3,s3⟩:=h1.topGo (fu':=m.fuel) g3
  have eD:vD l m.fs m.f m.fuel m.r x (gO (aZ l m.f) m.f.st) (iU (aZ l m.f) m.f.st)=.run ⟨m.fs,{ m.f with st:=iU (aZ l m.f) m.f.st++nW x m.f m.r.fd (gO (aZ l m.f) m.f.st),pc:=zU x m.f.pc (gO (aZ l m.f) m.f.st),loc:=uY x m.f.loc (gO (aZ l m.f) m.f.st) },m.fuel,{ m.r with fd:=XZ x m.f.who m.r.fd (gO (aZ l m.f) m.f.st) }⟩:=by
   unfold vD;rw [if_neg n39,if_neg hne,if_neg hs]
  refine hR _ _ (.run _ eD rfl (GZ.after rfl rfl (Fr.of_ext x1) ⟨p3,fg,fcap,qs,q3,hm3,s3.mb,s3.rb,h1.fx s3⟩))
end
end Go.Proofs.YtgkkecladbmjkaaGreatDoor
namespace Go.Vc
theorem yxA {P:Program} {w:O} {S:O->Prop} {L:Z->Prop} {t x:TypeId} {v:Z} {n sz:Nat} {cs l:List Z} {k:IntKind} {i:Int} (h:XA P t sz) (ht:∃ d z by_,P.underlying x=some d/\mU d=true/\Go.Vc.cT P x z sz by_) (hs0:aC w v sz n cs) (hs:∀ w',S w'->aC w' v sz n cs) (h0:0<=i) (h1:i < n)
  (hl:(cs.drop (i.toNat*sz)).take sz=l) (hlen:l.length=sz) (hk:L (.agg l.toArray)) :
  aB P S (Instr.indexAt t v (.int k i)) λp=>aB P S (Instr.loadAt x p) L:=by
 obtain ⟨e,z,b',hte,hi⟩:=h;obtain ⟨d,z',by_,h2,h3,h4⟩:=ht;obtain ⟨b,off,cap,rfl,_⟩:=hs0.there (by omega);refine aB.ok (λw' _=>eW hte hi h0 h1) (aB.ok (λw' hw=>jG h2 h3 h4 hlen λj hj=>?_) hk);have hj':j < l.length:=by omega
 obtain ⟨u,hu⟩:∃ u,l[j]?=some u:=⟨_,List.getElem?_eq_getElem hj'⟩;rw [hu];rcases (hs w' hw).2 with ⟨he,_⟩|⟨b2,off2,cap2,he,_,_,hc2⟩
 ·cases he
 ·cases he
  have hcu:cs[i.toNat*sz+j]?=some u:=by
   rw [<- hl,List.getElem?_take,if_pos (by omega),List.getElem?_drop] at hu;exact hu
  rw [Nat.add_assoc];exact hc2 _ _ hcu
end Go.Vc
namespace Go.Proofs.YtgkkecladbmjkaaGreatDoor
open Tryz
open Go.Vc Go.Tc
section
variable {l:List bE} {X0:Nat->Prop} {p p1:iP} {fg fcap:Nat} {qs:List FP} {q q1:FP} {m:PM} {w w1 w':O}
theorem aFc {m:fY} {pc:Nat} (h:pc < m.code.length):m.code[pc]?=some (m.ins pc):=by
 unfold fY.ins;rw [List.getD_eq_getElem?_getD,List.getElem?_eq_getElem h];rfl
theorem aOh {n:Nat} {c:Prop} [Decidable c] {a b:zW} (ha:a.2.2.tr.length<=n) (hb:b.2.2.tr.length<=n):(if c then a else b).2.2.tr.length<=n:=by split<;>assumption
theorem SF {s:PS} {who:Int} {x:fS} {t:List Int}:(eB s who x t).2.2.tr.length<=s.tr.length+2:=by
 unfold eB oR oQ dT pG pH pF kL kD eY
 repeat' (with_reducible apply aOh)
 all_goals simp [PS.ev,PS.ev2]
theorem YC (l:List bE) (fs:List gY) (f:gY) (fu:Nat) (r:Rm) (x:fS) (t u:List Int):(vD l fs f fu r x t u).r.ps.tr.length<=r.ps.tr.length+3:=by
 have e1:∀ (r:Rm) (s:Int),(r.ends s).ps.tr.length=r.ps.tr.length+1:=λr s=>by simp [Rm.ends,Rm.ev,PS.ev]
 have hs:=SF (s:=r.ps) (who:=f.who) (x:=x) (t:=t);unfold vD;split
 ·cases fs with
  | nil=>show (r.ends 36864).ps.tr.length<=_;rw [e1];omega
  | cons g gs=>show r.ps.tr.length<=_;omega
 split
 ·split
  ·show (r.ends 28424).ps.tr.length<=_;rw [e1];omega
  ·split
   ·show (r.ends 28422).ps.tr.length<=_;rw [e1];omega
   ·show r.ps.tr.length<=_;omega
 split
 ·split
  ·show (eB r.ps f.who x t).2.2.tr.length<=_;omega
  ·show (Rm.ends _ _).ps.tr.length<=_;rw [e1];show (eB r.ps f.who x t).2.2.tr.length+1<=_;omega
 ·show r.ps.tr.length<=_;omega
theorem stW {f:gY} {r:Rm} {X:Nat->Prop} {sl:Z} {fu st:Int} (h:Wh l p1 q1 f r X sl fu st w) (hp:p1.mb=p.mb) {R:Z->O->Prop} (hR:R (i64 st) w) :
  Go.Vc.aM (pm p)/\V prog (Instr.fieldAt 109 (pm p) 4) w λa w1=>V prog (Instr.loadAt 3 a) w1 λb w2=>R b w2:=by
 have e:pm p=.pointer (some ⟨p1.mb,0,none⟩):=by unfold pm;rw [hp]
 rw [e];exact ⟨.inl ⟨_,rfl⟩,kU eA aJ h.box rfl hR⟩
theorem aUa (hT:oE l) (hll:l.length<=1000) (h:cO l X0 p fg fcap qs q m w) (hok:m.ok l) (htr:m.r.ps.tr.length<=90000) (hfu:m.fuel<=1000000) :
  aD prog 19 #[pm p] w λrv w'=>(∃ m',kC l m=.run m'/\rv=i64 0/\GZ l X0 p m' w w')\/(∃ s d fu r,kC l m=.fin s d fu r/\s≠0/\rv=i64 s/\EGo l X0 p ⟨s,d,fu,r⟩ w w'):=by
 have hA:=hok.top.at_ hT;have hrt:=hok.top.rt hT;have hpc:=hA.pc;have hc120:=hrt.2.1.2.2.2.1.2;have hm8:m.f.mth<=1000:=by have:=hok.top.mth;have:=hrt.1.2.2.1.1.2;omega
 apply aTc;suffices key:∀ R:Z->O->Prop,(∀ rv w',((∃ m',kC l m=.run m'/\rv=i64 0/\GZ l X0 p m' w w')\/(∃ s d fu r,kC l m=.fin s d fu r/\s≠0/\rv=i64 s/\EGo l X0 p ⟨s,d,fu,r⟩ w w'))->R rv w')->EH (pm p) w R from key _ λrv w' h=>h;intro R hR;unfold EH;refine ⟨.inl ⟨_,rfl⟩,?_⟩;refine kU eA aJ h.wh.box rfl (aX.2 ?_);simp only [ne_eq,not_true_eq_false,decide_false,aA];refine ⟨.inl ⟨_,rfl⟩,?_⟩;refine kU dQ aJ h.wh.box rfl (aF.2 (aL (λh0=>?_) λh0=>?_))
 ·have h0:m.fuel=0:=by omega
  have eS:kC l m=.fin 28423 (m.fs.length+1) 0 (m.r.ends 28423):=by unfold kC;rw [if_pos h0]
  refine (aQe h.wh (by omega) (s:=28423)).mono λ_ w2 ⟨p2,q2,h2,s2⟩=>?_;refine stW h2 s2.mb (hR _ _ (.inr ⟨_,_,_,_,eS,by decide,rfl,p2,⟨q2,m.f,BX X0 fg qs,some ⟨fg,0,none⟩,fcap,?_,λi hi=>.inl hi⟩,s2.mb,s2.rb,h.fx s2⟩));rw [h0,h.len] at h2;exact h2
 have h0:¬ m.fuel=0:=by omega
 refine ⟨.inl ⟨_,rfl⟩,?_⟩;refine kU dQ aJ h.wh.box rfl (jE.2 ?_);rw [show IntKind.i64.wrap (((m.fuel:Nat):Int) - 1)=((m.fuel - 1:Nat):Int) from by rw [aY (by omega)];omega];refine ⟨.inl ⟨_,rfl⟩,?_⟩;refine fdA dQ ?_;refine pE gW h.wh.box (show 3 < 5 by decide) rfl ?_;obtain ⟨p1,q1,h1,s1⟩:=h.topGo (h.wh.cell (j:=3) (u:=i64 ((m.fuel - 1:Nat):Int)) (sl':=.slice (some ⟨fg,0,none⟩) (qs.length+1) fcap) (fu':=((m.fuel - 1:Nat):Int)) (st':=0) (by decide) rfl);have e1:pm p=pm p1:=s1.pm.symm;rw [e1];have F1:=h.fx s1;generalize w.setCell ⟨p.mb,0+3,none⟩ (i64 ((m.fuel - 1:Nat):Int))=w1 at *;refine (aTz h1 hok.dep).mono λrv w2 ⟨hrv,x2⟩=>?_;subst hrv;have h2:=h1.ext x2;have D2:aG w2 w2.drew:=(aG.refl _).drew;refine aI.mk' (λw'=>aG w2 w') D2 ⟨.inl ⟨_,rfl⟩,?_⟩;refine yFF fG gJ gX (λw' hw=>h2.wh.frm.box.ext hw) (u:=q1.cv) rfl ⟨.inl ⟨_,rfl⟩,?_⟩;refine RS cI aJ (λw' hw=>h2.wh.frm.box.ext hw) rfl ?_;have hcode:=aC.of_own h2.wh.frm.code;refine yxA kK uA hcode (λw' hw=>hcode.ext hw) (by omega) (show ((m.f.pc:Nat):Int) < (((m.f.me l).code.length:Nat):Int) by omega) (l:=[i64 (m.f.ins l).op,i64 (m.f.ins l).a,i64 (m.f.ins l).b]) (by rw [Int.toNat_natCast];exact pL (aFc hpc)) rfl ?_;refine MO oA λw4 hz x4=>?_;refine ⟨D2.trans x4,?_⟩;refine EV oA hz (l:=[i64 (m.f.ins l).op,i64 (m.f.ins l).a,i64 (m.f.ins l).b]) rfl rfl rfl rfl λw5 h5b hch=>?_
 have x25:aG w2 w5:=D2.trans (hch.ext _ x4 (Nat.le_refl _));have h5:=h2.ext x25;have hbn:¬ WM p1 q1 w2.drew.heap.size:=λhm=>by have:=h2.wh.wm_lt _ hm;have:=D2.size;omega
 have D5:aG w5 w5.drew:=(aG.refl _).drew;refine aI.mk' (SG l p1 q1 m.f (BX X0 fg qs) (.slice (some ⟨fg,0,none⟩) (qs.length+1) fcap) ((m.fuel - 1:Nat):Int) 0 w5) (h5.wh.sg D5) ⟨.inl ⟨_,rfl⟩,?_⟩;refine yMa (λ_ h=>h) dR rC (u:=qJ p1.rp) rfl ⟨.inl ⟨_,rfl⟩,?_⟩;refine yFr (λ_ h=>h) cM aJ (by decide) (u:=i64 (m.f.who:Int)) rfl ⟨.inl ⟨_,rfl⟩,?_⟩;refine yFr (λ_ h=>h) fH aJ (by decide) (u:=i64 (m.f.mth:Int)) rfl ?_;refine aB.ok (λw' _=>VX) ⟨.inl ⟨_,rfl⟩,?_⟩;refine yFr (λ_ h=>h) cI aJ (by decide) (u:=i64 (m.f.pc:Int)) rfl ?_;refine aB.ok (λw' _=>lQ) ?_;rw [iW (n:=1000*((m.f.mth:Nat):Int)) (by omega) (by omega),iW (n:=1000*((m.f.mth:Nat):Int)+((m.f.pc:Nat):Int)) (by omega) (by omega)];refine dS (λw' hw=>(SG.blk h5.wh h5b hbn hw).boxed) bU aJ rfl ?_;refine (aVj (h5.ext D5).wh (by show m.r.ps.tr.length<=_;omega) (e:=iK l m.f)).mono λ_ w6 g=>?_;have g:=gR.of_ext D5 g;refine ⟨g.sg,?_⟩;have hb6:=SG.blk h5.wh h5b hbn g.sg;obtain ⟨p6,q6,h6,s6⟩:=h5.topGo (fu':=m.fuel - 1) g;have hok6:PM.ok l ⟨m.fs,m.f,m.fuel - 1,m.r.ev (iK l m.f)⟩:=⟨hok.top,hok.ch,hok.dep,hok.fd⟩;refine qL hb6.boxed uA rfl ?_;rw [<- s6.pm,<- s6.pf];refine (doW hT hll h6 hok6 (by show (m.r.ps.tr++[_]).length<=_;rw [List.length_append];simp;omega)).mono λrv w7 hd=>?_;have F06:Fr (λi=>¬ X0 i) w w6:=(F1.trans (Fr.of_ext (S:=λi=>¬ X0 i) (x2.trans x25)) λ_ _ h=>h).trans (h5.fx s6) λ_ _ h=>h
 have emb:p6.mb=p.mb:=s6.mb.trans s1.mb;have erb:p6.rp.rb=p.rp.rb:=s6.rb.trans s1.rb;have eS:kC l m=vD l m.fs m.f (m.fuel - 1) (m.r.ev (iK l m.f)) (m.f.ins l) (gO (aZ l m.f) m.f.st) (iU (aZ l m.f) m.f.st):=by unfold kC;rw [if_neg h0]
 cases hd with
 | run m' he hrv g=>
  subst hrv;refine aX.2 ?_;simp only [show ¬ ((36864:Int)≠36864) by decide,decide_false,aA];obtain ⟨p7,a7,b7,c7,q7,h7,m7,r7,F7⟩:=g;refine stW h7.wh m7 (hR _ _ (.inl ⟨m',eS.trans he,rfl,p7,a7,b7,c7,q7,h7,m7.trans emb,r7.trans erb,F06.trans F7 λ_ _ h=>h⟩))
 | fin s d fu r he hrv g=>
  subst hrv;refine aX.2 ?_;simp only [show ¬ ((36864:Int)≠36864) by decide,decide_false,aA];obtain ⟨p7,⟨q7,f7,X7,a7,c7,h7,hX7⟩,m7,r7,F7⟩:=g
  have hs0:s≠0:=by
   intro hs;have:=(GR.2 s d fu r he)
   have hne:∀ (o:Out),vD l m.fs m.f (m.fuel - 1) (m.r.ev (iK l m.f)) (m.f.ins l) (gO (aZ l m.f) m.f.st) (iU (aZ l m.f) m.f.st)=o->∀ s d fu r,o=.fin s d fu r->s≠0:=by
    intro o ho s d fu r hos;subst hos;unfold vD at ho;split at ho
    ·cases hfs:m.fs with
     | nil=>rw [hfs] at ho;cases ho;decide
     | cons _ _=>rw [hfs] at ho;cases ho
    split at ho
    ·split at ho
     ·cases ho;decide
     ·split at ho
      ·cases ho;decide
      ·cases ho
    split at ho
    ·split at ho
     ·cases ho
     ·cases ho;exact xC
    ·cases ho
   exact hne _ he _ _ _ _ rfl hs
  refine stW h7 m7 (hR _ _ (.inr ⟨s,d,fu,r,eS.trans he,hs0,rfl,p7,⟨q7,f7,X7,a7,c7,h7,hX7⟩,m7.trans emb,r7.trans erb,F06.trans F7 λ_ _ h=>h⟩))
 | bad s r f' he hs hs0 hrv g=>
  subst hrv;refine aX.2 ?_;simp only [show s≠36864 from hs,ne_eq,not_false_eq_true,decide_true,aE]
  have F7:Fr (λi=>¬ X0 i) w6 w7:=by
   obtain ⟨p7,q7,h7,s7⟩:=g;exact h6.fx s7
  have htr7:r.ps.tr.length<=100000:=by
   have hp:=YC l m.fs m.f (m.fuel - 1) (m.r.ev (iK l m.f)) (m.f.ins l) (gO (aZ l m.f) m.f.st) (iU (aZ l m.f) m.f.st);rw [he] at hp;have h1:(r.ends s).ps.tr.length=r.ps.tr.length+1:=by simp [Rm.ends,Rm.ev,PS.ev]
   have h2:(m.r.ev (iK l m.f)).ps.tr.length=m.r.ps.tr.length+1:=by simp [Rm.ev,PS.ev]
   have:(r.ends s).ps.tr.length<=(m.r.ev (iK l m.f)).ps.tr.length+3:=hp;omega
  obtain ⟨p7,q7,h7,s7⟩:=g;rw [<- s7.pm];refine (aQe h7 htr7 (s:=s)).mono λ_ w8 ⟨p8,q8,h8,s8⟩=>?_;have F8:Fr (λi=>¬ X0 i) w7 w8:=(jM.fx h7 s8).mono λi hn hx=>hn (.inl hx);refine stW h8 s8.mb (hR _ _ (.inr ⟨s,_,_,_,eS.trans he,hs0,rfl,p8,⟨q8,f',BX X0 fg qs,some ⟨fg,0,none⟩,fcap,?_,λi hi=>.inl hi⟩,s8.mb.trans (s7.mb.trans emb),s8.rb.trans (s7.rb.trans erb),(F06.trans F7 λ_ _ h=>h).trans F8 λ_ _ h=>h⟩));have:m.fs.length+1=qs.length+1:=by rw [h.len]
  show Wh l p8 q8 f' (r.ends s) (BX X0 fg qs) (.slice (some ⟨fg,0,none⟩) (m.fs.length+1) fcap) ((m.fuel - 1:Nat):Int) s w8;rw [this];exact h8
end
section
variable {l:List bE} {X0:Nat->Prop} {p p1:iP} {fg fcap:Nat} {qs:List FP} {q q1:FP} {m:PM} {w w1 w':O}
def PB (w:O) (b o:Nat):Int:=match w.cell? ⟨b,o,none⟩ with
 | some v=>RowKit.intOf v
 | none=>0
theorem yO {w:O} {b o:Nat} {n:Int} (h:w.cell? ⟨b,o,none⟩=some (i64 n)):PB w b o=n:=by unfold PB;rw [h];rfl
def qK (mb:Nat) (w:O):Nat:=if PB w mb 4=0 then (PB w mb 3).toNat+1 else 0
theorem AM {f:gY} {r:Rm} {X:Nat->Prop} {sl:Z} {fu:Nat} (h:Wh l p q f r X sl fu 0 w):qK p.mb w=fu+1:=by
 unfold qK;have h4:=h.box.cell (j:=4) rfl;have h3:=h.box.cell (j:=3) rfl;rw [Nat.zero_add] at h4 h3;rw [yO h4,if_pos rfl,yO h3];rfl
theorem SI {f:gY} {r:Rm} {X:Nat->Prop} {sl:Z} {fu s:Int} (h:Wh l p q f r X sl fu s w) (hs:s≠0):qK p.mb w=0:=by
 unfold qK;have h4:=h.box.cell (j:=4) rfl;rw [Nat.zero_add] at h4;rw [yO h4,if_neg hs]
def UL (m:PM):Prop:=m.r.ps.tr.length+5*m.fuel<=80000
theorem NN (l:List bE) (m:PM):(kC l m).r.ps.tr.length<=m.r.ps.tr.length+4:=by
 unfold kC;split
 ·show (m.r.ends 28423).ps.tr.length<=_;simp [Rm.ends,Rm.ev,PS.ev]
 ·have:=YC l m.fs m.f (m.fuel - 1) (m.r.ev (iK l m.f)) (m.f.ins l) (gO (aZ l m.f) m.f.st) (iU (aZ l m.f) m.f.st);have h2:(m.r.ev (iK l m.f)).ps.tr.length=m.r.ps.tr.length+1:=by simp [Rm.ev,PS.ev]
  omega
theorem ET {l:List bE} {m m':PM} (h:kC l m=.run m') (hb:UL m):UL m':=by
 have hf:=(wW h).1;have:=NN l m;rw [h] at this;have this:m'.r.ps.tr.length<=m.r.ps.tr.length+4:=this;unfold UL at *;omega
theorem aFm {l:List bE} {m:PM} {e:zR} (h:uM l m e):UL m->e.r.ps.tr.length<=80004:=by
 induction h with
 | @fin m s d f r h1=>
  intro hb;have:=NN l m;rw [h1] at this;have this:r.ps.tr.length<=m.r.ps.tr.length+4:=this;show r.ps.tr.length<=80004;unfold UL at hb;omega
 | go h1 _ ih=>exact λhb=>ih (ET h1 hb)
theorem aNy (hT:oE l) (hll:l.length<=1000) (h:cO l X0 p fg fcap qs q m w) (hok:m.ok l) (hb:UL m) :
  aD prog 20 #[pm p] w λrv w'=>∃ e,uM l m e/\e.s≠0/\rv=i64 e.s/\EGo l X0 p e w w':=by
 apply aTb;unfold RD;refine ⟨λw'=>(∃ m',(∀ e,uM l m' e->uM l m e)/\m'.ok l/\UL m'/\GZ l X0 p m' w w')\/(∃ e,uM l m e/\e.s≠0/\EGo l X0 p e w w'),λw'=>qK p.mb w',.inl ⟨m,λ_ h=>h,hok,hb,h.go⟩,?_⟩;rintro w1 (⟨m1,he1,hok1,hb1,p1,a1,b1,c1,q1,h1,mb1,rb1,F1⟩|⟨e,he,hs,p1,⟨q1,f1,X1,a1,c1,h1,hX1⟩,mb1,rb1,F1⟩) _
 ·refine stW h1.wh mb1 (aF.2 ?_);simp only [decide_true,aE];have e1:pm p=pm p1:=by unfold pm;rw [mb1]
  rw [e1];have mu1:qK p.mb w1=m1.fuel+1:=by rw [<- mb1];exact AM h1.wh
  refine (aUa hT hll h1 hok1 (by unfold UL at hb1;omega) (by unfold UL at hb1;omega)).mono λrv w2 hstep=>?_;rcases hstep with ⟨m2,hs,_,p2,a2,b2,c2,q2,h2,mb2,rb2,F2⟩|⟨s,d,fu,r,hs,hs0,_,p2,⟨q2,f2,X2,a2,c2,h2,hX2⟩,mb2,rb2,F2⟩
  ·refine ⟨.inl ⟨m2,λe he=>he1 e (.go hs he),sQ hT hok1 hs,ET hs hb1,p2,a2,b2,c2,q2,h2,mb2.trans mb1,rb2.trans rb1,F1.trans F2 λ_ _ h=>h⟩,?_⟩;have mu2:qK p.mb w2=m2.fuel+1:=by rw [<- mb1,<- mb2];exact AM h2.wh
   have:=(wW hs).1;show qK p.mb w2 < qK p.mb w1;rw [mu1,mu2];omega
  ·refine ⟨.inr ⟨⟨s,d,fu,r⟩,he1 _ (.fin hs),hs0,p2,⟨q2,f2,X2,a2,c2,h2,hX2⟩,mb2.trans mb1,rb2.trans rb1,F1.trans F2 λ_ _ h=>h⟩,?_⟩;have mu2:qK p.mb w2=0:=by rw [<- mb1,<- mb2];exact SI h2 hs0
   show qK p.mb w2 < qK p.mb w1;rw [mu1,mu2];omega
 ·refine stW h1 mb1 (aF.2 ?_);simp only [show ¬ e.s=0 from hs,decide_false,aA];refine stW h1 mb1 ⟨e,he,hs,rfl,p1,⟨q1,f1,X1,a1,c1,h1,hX1⟩,mb1,rb1,F1⟩
theorem aDm {f:gY} {r:Rm} {X:Nat->Prop} {sl:Z} {fu st:Int} (h:Wh l p q f r X sl fu st w):aD prog 15 #[pm p] w λrv w'=>rv=i64 st/\w'=w:=by
 apply aTe;unfold RJ;exact stW h rfl ⟨rfl,rfl⟩
theorem XU {f:gY} {r:Rm} {X:Nat->Prop} {sl:Z} {fu st:Int} (h:Wh l p q f r X sl fu st w):aD prog 18 #[pm p] w λrv w'=>rv=i64 fu/\w'=w:=by
 apply aTd;unfold RF;exact ⟨.inl ⟨_,rfl⟩,kU dQ aJ h.box rfl ⟨rfl,rfl⟩⟩
theorem UQ {f:gY} {r:Rm} {X:Nat->Prop} {sl:Z} {fu st:Int} (h:Wh l p q f r X sl fu st w):aD prog 21 #[pm p] w λrv w'=>rv=qJ p.rp/\w'=w:=by
 apply aTa;unfold QZ;exact ⟨.inl ⟨_,rfl⟩,kU dR rC h.box rfl ⟨rfl,rfl⟩⟩
end
def YP (p:iP) (X:Nat->Prop):Lb->Nat->Prop
 | .rm,i=>jF p.rp i
 | .im,i=>p.IB i
 | .fo,i=>i=p.fo
 | .fd,i=>FdM p.vs i
 | .ex,i=>X i
 | _,_=>False
structure YS (l:List bE) (X0:Nat->Prop) (p:iP) (r:Rm) (w:O):Prop where
 room:kF p.rp w
 rps:p.rp.size=r.ps.size/\p.rp.ar.map pa=r.ps.ar/\p.rp.tp=r.ps.tp/\p.rp.ts=r.ps.ts
 fld:tI w p.rp.fv p.fo p.vs r.fd
 img:vH p.IB w λw'=>jS w' p.rp.iv l
 sep:Sep (YP p X0) w.heap.size
section
variable {l:List bE} {X0:Nat->Prop} {p:iP} {r:Rm} {w w':O}
theorem YS.fr {S:Nat->Prop} (h:YS l X0 p r w) (g:Fr S w w') (hn:∀ a i,a≠Lb.ex->YP p X0 a i->¬ S i):YS l X0 p r w':=
 ⟨h.room.fr g λi hi=>hn .rm i (by intro e;cases e) hi,h.rps,h.fld.fr g (hn .fo _ (by intro e;cases e) rfl) λi hi=>hn .fd i (by intro e;cases e) hi,h.img.fr g λi hi=>hn .im i (by intro e;cases e) hi,h.sep.step g.size .ex λa i ha=>.inl ha⟩
theorem YS.ext (h:YS l X0 p r w) (hx:aG w w'):YS l X0 p r w':=h.fr (Fr.of_ext (S:=λ_=>False) hx) λ_ _ _ _ h=>h
def qU (l:List bE) (who fuel:Nat) (r:Rm):PM:=⟨[],oU l who 0 [],fuel,{ r with ps:={ r.ps with tr:=[] } }⟩
theorem RX (hT:oE l) {who fuel:Nat} (hw:who < l.length) (hfd:yY l r.fd):(qU l who fuel r).ok l:=by
 have hi:=(hT _ (fT hw)).1.2.2.1;have h0:((aP l who).meth 0).params=[]:=hi.2.2.1;exact ⟨BE hT hw (by have:=hi.1.1;omega) uE (by show (0:Nat)=((aP l who).meth ((0:Nat):Int)).params.length;rw [show (((0:Nat):Int))=0 from rfl,h0];first|rfl|done),trivial,by show 0 < 8;decide,hfd⟩
theorem aQk (h:YS l X0 p r w):aD prog 45 #[kM p.rp] w λrv w'=>rv=i64 (l.length:Int)/\w'=w:=by
 apply aSm;unfold QO;exact ⟨.inl ⟨_,rfl⟩,kU cH jC h.room.room rfl (AA lO h.img.now ⟨rfl,rfl⟩)⟩
theorem UR:aD prog 46 #[] w λrv w'=>(rv=.pointer (some ⟨w.heap.size,0,none⟩)/\bA w' w.heap.size [.slice none 0 0] 125)/\aG w w':=by
 apply aSl;unfold QN;refine bld aQx [] rfl rfl ?_;exact uN λw1 hb x1=>⟨⟨rfl,hb⟩,x1⟩
theorem aXh (hT:oE l) (h:YS l X0 p r w) {who fuel:Nat} (hw:who < l.length) (hf:fuel<=100000) :
  aD prog 13 #[kM p.rp,i64 (who:Int),i64 (fuel:Int)] w λrv w'=>∃ p' fg fcap q,rv=.tuple #[pm p',i64 0]/\cO l X0 p' fg fcap [] q (qU l who fuel r) w'/\p'.rp.rb=p.rp.rb/\aG w w'/\w.heap.size<=fg/\∀ a i,a≠Lb.ex->WR p' q (λ_=>False) a i->(∃ b,b≠Lb.ex/\YP p X0 b i)\/w.heap.size<=i:=by
 have hi:=(hT _ (fT hw)).1.2.2.1;have h0:((aP l who).meth ((0:Nat):Int)).params=[]:=hi.2.2.1;apply aTf;unfold RK;refine V.ok (gF underlying26) ?_;simp only [aV,fA,aH,reduceIte,Bool.false_eq_true];simp only [show ¬ ((fuel:Int) < 0) by omega,show ¬ ((fuel:Int) > 100000) by omega,show ¬ ((who:Int) < 0) by omega,aV,dI,fA,aH,reduceIte,Bool.false_eq_true,decide_false];refine (aQk h).mono λrv w1 ⟨hrv,hw1⟩=>?_;subst hrv;have hw1:=hw1.symm;subst hw1;simp only [show ¬ ((who:Int)>=(l.length:Int)) by omega,lT,aA,decide_false];refine UR.mono λrv w1 ⟨⟨hrv,hb1⟩,x1⟩=>?_;subst hrv;refine bld aQy [(0,kM p.rp),(1,.pointer (some ⟨w.heap.size,0,none⟩)),(3,i64 (fuel:Int))] rfl rfl ?_;refine uN λw2 hb2 x2=>?_;have hb2:bA w2 w1.heap.size [kM p.rp,.pointer (some ⟨w.heap.size,0,none⟩),.slice none 0 0,i64 (fuel:Int),i64 0] 109:=hb2;have x02:=x1.trans x2;have h2:=h.ext x02;have hb12:=hb1.ext x2;have l1:=hb1.lt;have l2:=hb2.lt;have s1:=x1.size;have s2:=x2.size;refine (YB hT h2.room.room h2.img.now (n:=0) (ptrs:=[]) (sl:=.slice none 0 0) (fu:=(fuel:Int)) (st:=0) (tbv:=.pointer (some ⟨w.heap.size,0,none⟩)) hb2.seg (World.ownsRow_nil _ _ _ _) (by decide) (by intro e;cases e) hw (by have:=hi.1.1;omega) (mth:=0) (pv:=.slice none 0 0) (t:=[]) (aC.nil _ _) (by rw [h0];first|rfl|done)).mono λrv w3 ⟨sl',qn,hq,hnew,hb3,hr3,hsl3,F3⟩=>?_
 obtain ⟨fg,fcap,rfl⟩:=mA hr3 (by decide);have F3':Fr (λi=>i=w1.heap.size) w2 w3:=F3.mono λi hi=>hi.elim id λh=>(by cases h);have s3:=F3.size;have old:∀ {a:Lb} {i:Nat},YP p X0 a i->i < w.heap.size:=λhi=>h.sep.lt _ _ hi;have h3:=h2.fr F3' λa i _ hi he=>by have:=old hi;omega
 have hb13:=F3'.blk hb12 (by omega);have hR:=h3.room.trace hb13 (λhm=>by have:=old (a:=.rm) hm;omega);have x03:aG w w3:=F3'.ext x02 λi hi=>by omega
 have hfg:w2.heap.size<=fg/\¬ qO qn fg:=by
  rcases hsl3 fg rfl with h|h
  ·cases h
  ·exact h
 have hfl:=(hr3.lt fg rfl).2;have hql:=λi hi=>hq.hi i hi;refine ⟨{ p with rp:={ p.rp with tb:=w.heap.size,tv:=.slice none 0 0,tr:=[] },mb:=w1.heap.size },fg,fcap,qn,rfl,⟨⟨hR,?_,h3.fld,h3.img,hb3,hq,⟨λa b i ha hb=>?_,λa i ha=>?_⟩⟩,?_,trivial,List.Pairwise.nil,λa ha=>by simp at ha,λi hi=>⟨λhe=>?_,λa ha=>by simp at ha⟩⟩,rfl,x03,by omega,λa i ha hi=>?_⟩
 ·show (⟨p.rp.size,p.rp.ar.map pa,p.rp.tp,p.rp.ts,[]⟩:PS)=⟨r.ps.size,r.ps.ar,r.ps.tp,r.ps.ts,[]⟩;obtain ⟨e1,e2,e3,e4⟩:=h.rps;rw [e1,e2,e3,e4]
 ·have cls:∀ {a:Lb} {i:Nat},WR { p with rp:={ p.rp with tb:=w.heap.size,tv:=.slice none 0 0,tr:=[] },mb:=w1.heap.size } qn (BX X0 fg []) a i->(YP p X0 a i/\i < w.heap.size)\/(a=.rm/\i=w.heap.size)\/(a=.mb/\i=w1.heap.size)\/(a=.fr/\qO qn i/\w2.heap.size<=i)\/(a=.ex/\i=fg):=by
   intro a i hi;cases a with
   | rm=>
    rcases hi with hi|hi|hi
    ·exact .inl ⟨hi,old (a:=.rm) hi⟩
    ·exact .inr (.inl ⟨rfl,hi⟩)
    ·cases hi
   | mb=>exact .inr (.inr (.inl ⟨rfl,hi⟩))
   | fr=>exact .inr (.inr (.inr (.inl ⟨rfl,hi,hnew i hi⟩)))
   | ex=>
    rcases hi with hi|hi|⟨c,hc,_⟩
    ·exact .inl ⟨hi,old (a:=.ex) hi⟩
    ·exact .inr (.inr (.inr (.inr ⟨rfl,hi⟩)))
    ·simp at hc
   | im=>exact .inl ⟨hi,old (a:=.im) hi⟩
   | fo=>exact .inl ⟨hi,old (a:=.fo) hi⟩
   | fd=>exact .inl ⟨hi,old (a:=.fd) hi⟩
  rcases cls ha with ⟨ha,la⟩|⟨ea,ha⟩|⟨ea,ha⟩|⟨ea,ha,la⟩|⟨ea,ha⟩<;>rcases cls hb with ⟨hb,lb⟩|⟨eb,hb⟩|⟨eb,hb⟩|⟨eb,hb,lb⟩|⟨eb,hb⟩
  all_goals first|exact h.sep.dj a b i ha hb|(rw [ea,eb];done)|(exfalso;omega)|(exfalso;exact hfg.2 (hb▸ha))|(exfalso;exact hfg.2 (ha▸hb))
 ·cases a with
  | rm=>
   rcases ha with hi|hi|hi
   ·have:=old (a:=.rm) hi;omega
   ·have hi:i=w.heap.size:=hi;omega
   ·cases hi
  | mb=>have ha:i=w1.heap.size:=ha;omega
  | fr=>exact hql i ha
  | ex=>
   rcases ha with hi|hi|⟨c,hc,_⟩
   ·have:=old (a:=.ex) hi;omega
   ·rw [hi];exact hfl
   ·simp at hc
  | im=>have:=old (a:=.im) ha;omega
  | fo=>have:=old (a:=.fo) ha;omega
  | fd=>have:=old (a:=.fd) ha;omega
 ·exact hr3
 ·have:=old (a:=.ex) hi;omega
 ·cases a with
  | rm=>
   rcases hi with hi|hi|hi
   ·exact .inl ⟨.rm,(by intro e;cases e),hi⟩
   ·have hi:i=w.heap.size:=hi;exact .inr (by omega)
   ·cases hi
  | mb=>have hi:i=w1.heap.size:=hi;exact .inr (by omega)
  | fr=>have:=hnew i hi;exact .inr (by omega)
  | ex=>exact absurd rfl ha
  | im=>exact .inl ⟨.im,(by intro e;cases e),hi⟩
  | fo=>exact .inl ⟨.fo,(by intro e;cases e),hi⟩
  | fd=>exact .inl ⟨.fd,(by intro e;cases e),hi⟩
end
end Go.Proofs.YtgkkecladbmjkaaGreatDoor
