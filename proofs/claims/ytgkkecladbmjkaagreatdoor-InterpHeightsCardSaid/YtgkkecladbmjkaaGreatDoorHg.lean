/- A frame of the machine in memory: its stack. -/
import Derived.Test.YtgkkecladbmjkaaGreatDoorHf
set_option maxHeartbeats 4000000
namespace Go.Vc
def uO (IB:Nat->Prop) (w:Ω) (R:Ω->Prop):Prop:=∀ w',Fr (λi=>¬ IB i) w w'->R w'
section
variable {IB JB:Nat->Prop} {w w':Ω} {R Q:Ω->Prop} {S:Nat->Prop}
theorem uO.now (h:uO IB w R):R w:=h w (Fr.refl _ _)
theorem uO.fr (h:uO IB w R) (f:Fr S w w') (hd:∀ i,IB i->¬ S i):uO IB w' R:=λw'' g=>h w'' ((f.mono λi hs hi=>hd i hi hs).trans g λ_ _ h=>h)
theorem uO.ext (h:uO IB w R) (hx:aG w w'):uO IB w' R:=h.fr (Fr.of_ext (S:=λ_=>False) hx) λ_ _ h=>h
theorem uO.mono (h:uO IB w R) (hs:∀ i,i < w.heap.size->IB i->JB i):uO JB w R:=λw' f=>h w' ⟨f.os,f.tape,f.output,f.size,λi hi hn=>f.block i hi λhj=>hn λhI=>hj (hs i hi hI)⟩
theorem uO.imp (h:uO IB w R) (k:∀ w',R w'->Q w'):uO IB w Q:=λw' f=>k w' (h w' f)
theorem uO.lt (h:uO IB w R):uO (λi=>IB i/\i < w.heap.size) w R:=h.mono λ_ hi h=>⟨h,hi⟩
end
theorem aNi {P:Program} {w:Ω} {t e:TypeId} {z:O} {by_:Nat} (ht:P.underlying t=some (.slice e)) (hi:cP P e z 1 by_) {v:O} {n a:Nat} {xs:List O} (ho:w.ownsRow 0 e 1 v n xs) (ha:a<=n) :
  ∃ v',(∀ w',(Instr.sliceAt t v none (some (.int .i64 (a:Int))) none).run P w'=.ok v' w')/\v'.ownBlock=v.ownBlock/\∀ w2:Ω,w2.ownsRow 0 e 1 v n xs->w2.ownsRow 0 e 1 v' a (xs.take a):=by
 rcases ho.2 with ⟨rfl,h0⟩|⟨g,cap,cur,rfl,h1,h2,h3,h4,h5,h6⟩
 ·have ea:a=0:=by omega
  subst ea;refine ⟨.slice none 0 0,λw'=>?_,rfl,λw2 _=>?_⟩
  ·simp [Instr.sliceAt,Instr.slice,run_underlying ht,dN hi,Instr.sliceBounds,Instr.sliceBound,asIntOf]
  ·rw [List.take_zero];exact World.ownsRow_nil _ _ _ _
 ·refine ⟨.slice (some ⟨g,0,none⟩) a cap,λw'=>?_,rfl,λw2 h=>?_⟩
  ·have hc:a<=cap:=by omega
   simp [Instr.sliceAt,Instr.slice,run_underlying ht,dN hi,Instr.sliceBounds,Instr.sliceBound,asIntOf,hc,fL]
  ·have:=EI h ha
   rwa [Nat.mul_one] at this
end Go.Vc
namespace Go.Proofs.YtgkkecladbmjkaaGreatDoor
open Tryz
open Go.Vc Go.Tc
structure FP where
 fb:Nat
 (lv sv pv lc cv:O)
def pf (q:FP):O:=.pointer (some ⟨q.fb,0,none⟩)
def SK (q:FP) (me:fV) (f:iK):List O:=[i64 (f.who:Int),i64 (f.mth:Int),i64 (f.pc:Int),q.pv,i64 me.result,q.lc,q.cv,q.lv,q.sv]
structure oX (w:Ω) (q:FP) (me:fV) (f:iK):Prop where
 box:lM w q.fb 0 (SK q me f)
 loc:w.ownsRow 0 21 1 q.lv f.loc.length (f.loc.map i32)
 st:w.ownsRow 0 21 1 q.sv f.st.length (f.st.map i32)
 code:w.ownsRow 0 70 3 q.cv me.code.length (hU me.code)
 db:∀ i,q.lv.ownBlock=some i\/q.sv.ownBlock=some i\/q.cv.ownBlock=some i->i≠q.fb
 dl:∀ i,q.lv.ownBlock=some i->q.sv.ownBlock≠some i
 dc:∀ i,q.cv.ownBlock=some i->q.lv.ownBlock≠some i/\q.sv.ownBlock≠some i
def FM (q:FP) (i:Nat):Prop:=i=q.fb\/q.lv.ownBlock=some i\/q.sv.ownBlock=some i
structure uN (q q':FP) (w w':Ω):Prop where
 same:q'={ q with sv:=q'.sv }
 sv:∀ i,q'.sv.ownBlock=some i->q.sv.ownBlock=some i\/w.heap.size<=i
 fr:Fr (FM q) w w'
variable {q q1:FP} {me:fV} {f f':iK} {w w' w1:Ω}
theorem uN.of_ext (hx:aG w w'):uN q q w w':=⟨rfl,λ_ h=>.inl h,Fr.of_ext hx⟩
theorem uN.fm {q':FP} (h:uN q q' w w') {i:Nat} (hi:FM q' i):FM q i\/w.heap.size<=i:=by
 obtain ⟨fb,lv,sv,pv,lc,cv⟩:=q;have e:=h.same;rcases hi with hi|hi|hi
 ·rw [e] at hi;exact .inl (.inl hi)
 ·rw [e] at hi;exact .inl (.inr (.inl hi))
 ·rcases h.sv i hi with h1|h1
  ·exact .inl (.inr (.inr h1))
  ·exact .inr h1
theorem uN.trans {q':FP} (h:uN q q1 w w1) (k:uN q1 q' w1 w'):uN q q' w w':=by
 refine ⟨?_,λi hi=>?_,h.fr.trans k.fr λi hi hm=>?_⟩
 ·rw [k.same,h.same]
 ·rcases k.sv i hi with h1|h1
  ·exact h.sv i h1
  ·exact .inr (Nat.le_trans h.fr.size h1)
 ·rcases h.fm hm with h1|h1
  ·exact h1
  ·omega
def XL (q:FP) (me:fV) (f':iK) (w w':Ω):Prop:=∃ q',oX w' q' me f'/\uN q q' w w'
theorem oX.hi (h:oX w q me f):∀ i,FM q i\/q.cv.ownBlock=some i->i < w.heap.size:=by
 rintro i ((rfl|hi|hi)|hi)
 ·exact h.box.lt
 ·exact (h.loc.lt i hi).2
 ·exact (h.st.lt i hi).2
 ·exact (h.code.lt i hi).2
theorem oX.fr {S:Nat->Prop} (h:oX w q me f) (g:Fr S w w') (hn:∀ i,FM q i\/q.cv.ownBlock=some i->¬ S i):oX w' q me f:=
 ⟨g.seg h.box (hn _ (.inl (.inl rfl))),g.own h.loc λi hi=>hn i (.inl (.inr (.inl hi))),g.own h.st λi hi=>hn i (.inl (.inr (.inr hi))),g.own h.code λi hi=>hn i (.inr hi),h.db,h.dl,h.dc⟩
theorem oX.ext (h:oX w q me f) (hx:aG w w'):oX w' q me f:=h.fr (Fr.of_ext (S:=λ_=>False) hx) λ_ _ h=>h
theorem oX.setS (h:oX w q me f) {w1:Ω} {v:O} {s:List Int} (g:Fr (λi=>q.sv.ownBlock=some i) w w1) (ho:w1.ownsRow 0 21 1 v s.length (s.map i32)) (hl:∀ i,v.ownBlock=some i->q.sv.ownBlock=some i\/w.heap.size<=i) :
  oX (w1.setCell ⟨q.fb,0+8,none⟩ v) { q with sv:=v } me { f with st:=s }/\uN q { q with sv:=v } w (w1.setCell ⟨q.fb,0+8,none⟩ v):=by
 have f2:Fr (λi=>i=q.fb) w1 (w1.setCell ⟨q.fb,0+8,none⟩ v):=Fr.of_set rfl;have hsb:∀ i,q.sv.ownBlock=some i->i≠q.fb:=λi hi=>h.db i (.inr (.inl hi));have hfb:=h.box.lt
 have hv:∀ i,v.ownBlock=some i->i≠q.fb:=λi hi=>by
  rcases hl i hi with h1|h1
  ·exact hsb i h1
  ·omega
 have box1:=(g.seg h.box λhs=>hsb _ hs rfl).set (j:=8) (by simp [SK]) v;have F:Fr (FM q) w (w1.setCell ⟨q.fb,0+8,none⟩ v):=(g.or f2).mono λi hi=>hi.elim (λh=>.inr (.inr h)) .inl;have ol:=h.loc.lt;have oc:=h.code.lt;refine ⟨⟨box1,f2.own (g.own h.loc λi hi=>h.dl i hi) λi hi hs=>h.db i (.inl hi) hs,f2.own ho λi hi=>hv i hi,f2.own (g.own h.code λi hi=>(h.dc i hi).2) λi hi hs=>h.db i (.inr (.inr hi)) hs,?_,?_,?_⟩,rfl,hl,F⟩
 ·rintro i (hi|hi|hi)
  ·exact h.db i (.inl hi)
  ·exact hv i hi
  ·exact h.db i (.inr (.inr hi))
 ·intro i hi hv';rcases hl i hv' with h1|h1
  ·exact h.dl i hi h1
  ·have:=(ol i hi).2;omega
 ·intro i hi;refine ⟨(h.dc i hi).1,λhv'=>?_⟩;rcases hl i hv' with h1|h1
  ·exact (h.dc i hi).2 h1
  ·have:=(oc i hi).2;omega
theorem XL.of_ext {f':iK} (hx:aG w w1) (h:XL q me f' w1 w'):XL q me f' w w':=by
 obtain ⟨q',h1,h2⟩:=h;exact ⟨q',h1,(uN.of_ext hx).trans h2⟩
theorem aCz (h:oX w q me f) (hl:f.st.length<=1000) {n:Int}:aD prog 134 #[pf q,i32 n] w λ_ w'=>XL q me { f with st:=f.st++[n] } w w':=by
 apply aJv;unfold IL;refine ⟨.inl ⟨_,rfl⟩,?_⟩;refine kK cK lH h.box rfl ?_;refine kC DJ [i32 n] rfl rfl (by simp) rfl λv1 w1 ho1 x1=>?_;have h1:=h.ext x1;refine apL DJ h1.st ho1 (by decide) (by rfl) (by omega) (by unfold maxLen;omega) (Nat.zero_le _) λg' cap' w2 ho2 hg2 hlies=>?_;have f2:Fr (λi=>q.sv.ownBlock=some i) w1 w2:=Fr.of_grown hg2 λk hk=>hk;refine ⟨.inl ⟨_,rfl⟩,?_⟩;refine fdA cK ?_;have hb2:=f2.seg h1.box λhs=>h.db _ (.inr (.inl hs)) rfl;refine oP xF hb2 (show 8 < 9 by decide) rfl ?_
 obtain ⟨h3,s3⟩:=h1.setS (v:=.slice (some ⟨g',0,none⟩) (f.st.length+1) cap') (s:=f.st++[n]) f2 (by simpa using ho2) λi hi=>by
  have:g'=i:=by simpa [Value.ownBlock] using hi
  subst this;rcases hlies with hl|hl
  ·exact .inl hl
  ·exact .inr (by omega)
 exact XL.of_ext x1 ⟨_,h3,s3⟩
theorem BN (h:oX w q me f) (hl:f.st.length<=1000) {k:Nat} (hk:k<=f.st.length):aD prog 91 #[pf q,i64 (k:Int)] w λr w'=>w'.ownsRow w.heap.size 21 1 r k ((gL k f.st).map i32)/\XL q me { f with st:=jA k f.st } w w':=by
 apply aQf;unfold OQ;refine ⟨.inl ⟨_,rfl⟩,?_⟩;refine kK cK lH h.box rfl (gD fM (aC.of_own h.st) ?_);refine iJ.2 ?_;rw [aX (by omega)];have ea:(f.st.length:Int) - (k:Int)=((f.st.length - k:Nat):Int):=by omega
 rw [ea];generalize hat:f.st.length - k=at';refine ⟨.inl ⟨_,rfl⟩,?_⟩;refine kK cK lH h.box rfl ?_;obtain ⟨v',hrun,hsl⟩:=uD underlying37 tJ (aC.of_own h.st) (lo:=some (.int .i64 (at':Int))) (hi':=none) (a:=at') (b:=f.st.length) (.inr rfl) (.inl ⟨rfl,rfl⟩) (by omega) (Nat.le_refl _);refine V.ok (hrun _) ?_;have etk:gL k f.st=f.st.drop at':=by unfold gL;rw [hat]
 have eun:jA k f.st=f.st.take at':=by unfold jA;rw [hat]
 have hsv:aC w v' 1 k ((f.st.drop at').map i32):=by
  have:=hsl w (aC.of_own h.st);rw [show f.st.length - at'=k by omega] at this;rw [List.map_drop];have e2:((f.st.map i32).drop at').take k=(f.st.map i32).drop at':=List.take_of_length_le (by simp;omega)
  rwa [e2] at this
 rw [etk,eun];refine aD.mono (R:=λr w'=>w'.ownsRow w.heap.size 21 1 r k ((f.st.drop at').map i32)/\aG w w') ?_ λr w1 ⟨hr1,x1⟩=>?_
 ·apply XQ;unfold CV;exact CD (R:=λr w'=>w'.ownsRow w.heap.size 21 1 r k ((f.st.drop at').map i32)/\aG w w') DJ hsv (List.all_eq_true.2 λv hv=>by obtain ⟨x,_,rfl⟩:=List.mem_map.1 hv;rfl) (by omega) λv' w' g1 g2=>⟨g1,g2⟩
 have h1:=h.ext x1;refine ⟨.inl ⟨_,rfl⟩,?_⟩;refine kK cK lH h1.box rfl ?_;obtain ⟨v2,hr2,hb2,ho2⟩:=aNi underlying37 tJ h1.st (a:=at') (by omega);refine V.ok (hr2 _) ?_;refine ⟨.inl ⟨_,rfl⟩,?_⟩;refine fdA cK ?_;have ho:=ho2 _ h1.st;refine oP xF h1.box (show 8 < 9 by decide) (bR ho) ?_;have eta:(f.st.take at').length=at':=by simp;omega
 obtain ⟨h3,s3⟩:=h1.setS (v:=v2) (s:=f.st.take at') (Fr.refl _ _) (by rw [eta,List.map_take];exact ho) λi hi=>.inl (hb2▸hi);refine ⟨s3.fr.own hr1 λi hi hm=>?_,XL.of_ext x1 ⟨_,h3,s3⟩⟩;have:=(hr1.lt i hi).1;have:=h.hi i (.inl hm);omega
theorem wS (h:oX w q me f) (hl:f.st.length<=1000) (hk:1<=f.st.length):aD prog 135 #[pf q] w λr w'=>r=i32 (bM (gL 1 f.st) 0)/\XL q me { f with st:=jA 1 f.st } w w':=by
 apply aJu;unfold IK;refine (BN h hl (k:=1) hk).mono λr w1 ⟨hs,hm⟩=>?_;obtain ⟨a,ha⟩:∃ a,gL 1 f.st=[a]:=List.length_eq_one_iff.1 (nS hk);rw [ha] at hs ⊢;exact mH fM eU (aC.of_own hs) (by omega) (by omega) rfl ⟨rfl,hm⟩
def EL (op:Int) (t:List Int):Int:=if op=15\/op=16\/op=26 then unF op (bM t 0) else if op=22 then wQ (bM t 0) (bM t 1) (bM t 2) else oU op (bM t 0) (bM t 1)
def tB (op:Int):Nat:=if op=15\/op=16\/op=26 then 1 else if op=22 then 3 else 2
theorem RQ {op:Int} (ho:iV op\/op=15\/op=16\/op=26\/op=22) (h:oX w q me f) (hl:f.st.length<=1000) (hk:tB op<=f.st.length) (h32:gE f.st) :
  aD prog 138 #[pf q,i64 op] w λr w'=>r=i32 (EL op (gL (tB op) f.st))/\XL q me { f with st:=jA (tB op) f.st } w w':=by
 apply aJs;suffices key:∀ R:O->Ω->Prop,(∀ w',XL q me { f with st:=jA (tB op) f.st } w w'->R (i32 (EL op (gL (tB op) f.st))) w')->yN (pf q) (i64 op) w R from key _ λw' h1=>⟨rfl,h1⟩;intro R hR;have ht:=(CA h32 (tB op)).1;unfold yN;by_cases h15:op=15
 ·subst h15;simp only [aF,Int.reduceEq,decide_true,decide_false,aE,aA];refine (wS h hl hk).mono λr w1 ⟨hr,hg⟩=>?_;subst hr;exact aUy.mono λr w' ⟨hr,hw⟩=>hr▸hw▸hR _ hg
 by_cases h16:op=16
 ·subst h16;simp only [aF,Int.reduceEq,decide_true,decide_false,aE,aA];refine (wS h hl hk).mono λr w1 ⟨hr,hg⟩=>?_;subst hr;exact aUx.mono λr w' ⟨hr,hw⟩=>hr▸hw▸hR _ hg
 by_cases h26:op=26
 ·subst h26;simp only [aF,Int.reduceEq,decide_true,decide_false,aE,aA];refine (wS h hl hk).mono λr w1 ⟨hr,hg⟩=>?_;subst hr;refine (wEq (tC ht 0) (by unfold mD;omega)).mono λr w' ⟨hr,hw⟩=>?_;have hw:=hw.symm;subst hw;subst hr;exact hR _ hg
 by_cases h22:op=22
 ·subst h22;simp only [aF,Int.reduceEq,decide_true,decide_false,aE,aA];refine (BN h hl (k:=3) hk).mono λr w1 ⟨ho,hg⟩=>?_;have ht3:(gL 3 f.st).length=3:=nS hk;have e22:tB 22=3:=rfl;rw [e22] at hR ht
  obtain ⟨x,y,z,hxyz⟩:∃ x y z,gL 3 f.st=[x,y,z]:=by
   match gL 3 f.st,ht3 with
   | [x,y,z],_=>exact ⟨x,y,z,rfl⟩
  rw [hxyz] at ho hR ht;have hs:=aC.of_own ho;have D1:aG w1 w1.drew:=(aG.refl _).drew;refine aI.mk' (λw'=>aG w1 w') D1 ?_;refine gR fM eU hs (λw' hw=>hw) (by omega) (by omega) (u:=i32 x) rfl ?_;refine gR fM eU hs (λw' hw=>hw) (by omega) (by omega) (u:=i32 y) rfl ?_;refine gR fM eU hs (λw' hw=>hw) (by omega) (by omega) (u:=i32 z) rfl ?_;refine (aSj (ht x (by simp)) (ht y (by simp)) (ht z (by simp))).mono λr w' ⟨hr,hw⟩=>?_;have hw:=hw.symm;subst hw;subst hr;obtain ⟨q',h1,h2⟩:=hg;exact ⟨D1,hR _ ⟨q',h1.ext D1,h2.trans (uN.of_ext D1)⟩⟩
 have hb:iV op:=ho.resolve_right (by omega);have e2:tB op=2:=by unfold tB;rw [if_neg (by omega),if_neg h22]
 rw [e2] at hR ht hk;simp only [aF,h15,h16,h26,h22,decide_false,aA];refine (BN h hl (k:=2) hk).mono λr w1 ⟨ho,hg⟩=>?_;have ht2:(gL 2 f.st).length=2:=nS hk
 obtain ⟨x,y,hxy⟩:∃ x y,gL 2 f.st=[x,y]:=by
  match gL 2 f.st,ht2 with
  | [x,y],_=>exact ⟨x,y,rfl⟩
 rw [hxy] at ho hR ht;have eN:EL op [x,y]=oU op x y:=by unfold EL;rw [if_neg (by omega),if_neg h22];rfl
 rw [eN] at hR;have hs:=aC.of_own ho;have D1:aG w1 w1.drew:=(aG.refl _).drew;refine aI.mk' (λw'=>aG w1 w') D1 ?_;refine gR fM eU hs (λw' hw=>hw) (by omega) (by omega) (u:=i32 x) rfl ?_;refine gR fM eU hs (λw' hw=>hw) (by omega) (by omega) (u:=i32 y) rfl ?_;refine (SL hb (ht x (by simp)) (ht y (by simp))).mono λr w' ⟨hr,hw⟩=>?_;have hw:=hw.symm;subst hw;subst hr;obtain ⟨q',h1,h2⟩:=hg;exact ⟨D1,hR _ ⟨q',h1.ext D1,h2.trans (uN.of_ext D1)⟩⟩
end Go.Proofs.YtgkkecladbmjkaaGreatDoor
namespace Go.Vc
theorem LA {P:Program} {w:Ω} {t e by_ sz:Nat} {z:O} (ht:P.underlying t=some (.slice e)) (hi:cP P e z sz by_) (hz:(z.cells.size == sz)=true) (hsz:0 < sz) (hb0:∀ w,(Instr.buildSlice t 0 #[]).run P w=.ok (.slice (some ⟨w.heap.size,0,none⟩) 0 0) (w.alloc (.cells #[] e)))
  {v:O} {n:Nat} {cs:List O} (hs:aC w v sz n cs) (h1:cs.all cB=true) (hb:n*by_<=140737488355328) (hm:n<=maxLen) {x y:Operand} {R:O->Ω->Prop} (hk:∀ v' w',w'.ownsRow w.heap.size e sz v' n cs->aG w w'->R v' w') :
  V P (do eqGuard .eql t x y v (Value.slice none 0 0);binOp .eql t v (Value.slice none 0 0)) w λt4 w1=>
   aO t4 (R (Value.slice none 0 0) w1) (V P (Instr.buildSlice t 0 #[]) w1 λt5 w2=>V P (Builtin.append_ #[t,t] t #[t5,v]) w2 λt7 w3=>R t7 w3):=by
 rcases hs.2 with ⟨rfl,h0⟩|⟨b,off,cap,rfl,hc1,hc2,hc⟩
 ·refine V.ok (kT ht) (aE.2 (hk _ _ ?_ (aG.refl w)));have hl:=hs.1;rw [h0,Nat.zero_mul] at hl;rw [List.eq_nil_of_length_eq_zero hl,h0];exact World.ownsRow_nil _ _ _ _
 ·refine V.ok (kT ht) (aA.2 (V.ok (hb0 w) ?_));have hb1:aY (w.alloc (.cells (([]:List O)).toArray e)) w.heap.size [] e:=by unfold aY;rw [heap_alloc_new]
  have x1:aG w (w.alloc (.cells (([]:List O)).toArray e)):=(aG.refl _).alloc _;have e0:(([]:List O)).toArray=#[]:=rfl;rw [e0] at hb1 x1;generalize w.alloc (.cells #[] e)=w1 at hb1 x1 ⊢;have ho1:w1.ownsRow w.heap.size e sz (.slice (some ⟨w.heap.size,0,none⟩) 0 0) 0 []:=dX hb1 (by simp) (Nat.le_refl _) (by unfold maxLen;omega);refine apA ht hi hz hsz ho1 (hs.ext x1) h1 (by simpa using hb) (by omega) x1.size λv2 w2 ho2 hg=>?_;rw [Nat.zero_add,List.nil_append] at ho2;exact hk v2 w2 ho2 (x1.grown hg λk hk=>(ho1.lt k hk).1)
end Go.Vc
namespace Go.Proofs.YtgkkecladbmjkaaGreatDoor
open Tryz
open Go.Vc Go.Tc
theorem aLn {l:List Int} {j:Nat} (h:j < l.length):(l.map i32)[j]?=some (i32 (l.getD j 0)):=by
 rw [List.getElem?_map,List.getD_eq_getElem?_getD,List.getElem?_eq_getElem h];rfl
structure sN (w:Ω) (fv:O) (fo:Nat) (vs:List O) (fd:List (List Int)):Prop where
 eq:∃ cap,fv=.slice (some ⟨fo,0,none⟩) fd.length cap
 out:lM w fo 0 vs
 len:vs.length=fd.length
 row:∀ (k:Nat) v d,vs[k]?=some v->fd[k]?=some d->w.ownsRow 0 21 1 v d.length (d.map i32)
 dj:∀ (j k:Nat) u v i,vs[j]?=some u->vs[k]?=some v->u.ownBlock=some i->v.ownBlock=some i->j=k
 ne:∀ v∈vs,v.ownBlock≠some fo
variable {w w':Ω} {fv:O} {fo:Nat} {vs:List O} {fd:List (List Int)}
def FdM (vs:List O) (i:Nat):Prop:=∃ v∈vs,v.ownBlock=some i
theorem sN.fr {S:Nat->Prop} (h:sN w fv fo vs fd) (f:Fr S w w') (hn:¬ S fo) (hm:∀ i,FdM vs i->¬ S i):sN w' fv fo vs fd:=
 ⟨h.eq,f.seg h.out hn,h.len,λk v d hk hd=>f.own (h.row k v d hk hd) λi hi=>hm i ⟨v,List.mem_of_getElem? hk,hi⟩,h.dj,h.ne⟩
theorem sN.get (h:sN w fv fo vs fd) {k:Nat} (hk:k < fd.length):∃ v,vs[k]?=some v/\w.ownsRow 0 21 1 v (fd.getD k []).length ((fd.getD k []).map i32):=by
 obtain ⟨v,hv⟩:=bQ (l:=vs) (j:=k) (by have:=h.len;omega);refine ⟨v,hv,h.row k v _ hv ?_⟩;rw [List.getD_eq_getElem?_getD,List.getElem?_eq_getElem hk];rfl
theorem sN.set (h:sN w fv fo vs fd) {k j:Nat} {n:Int} {v:O} {w1:Ω} (hv:vs[k]?=some v) (hk:k < fd.length) (ho:w1.ownsRow 0 21 1 v (fd.getD k []).length (((fd.getD k []).map i32).set j (i32 n))) (f:Fr (λi=>v.ownBlock=some i) w w1) :
  sN w1 fv fo vs (fd.set k ((fd.getD k []).set j n)):=by
 refine ⟨by simpa using h.eq,f.seg h.out λhs=>h.ne v (List.mem_of_getElem? hv) hs,by simpa using h.len,λq u d hq hd=>?_,h.dj,h.ne⟩;by_cases hqk:k=q
 ·subst hqk;rw [List.getElem?_set_self hk] at hd;cases hd;rw [hv] at hq;cases hq;rw [List.length_set,List.map_set];exact ho
 ·rw [List.getElem?_set_ne hqk] at hd;exact f.own (h.row q u d hq hd) λi hi hs=>hqk (h.dj k q v u i hv hq hs hi)
section
variable {rb hb:Nat} {iv pub sec:O}
theorem FN (hr:lM w rb 0 [.pointer (some ⟨hb,0,none⟩),iv,fv,pub,sec]) (h:sN w fv fo vs fd) {k j:Nat} (hk:k < fd.length) (hj:j < (fd.getD k []).length) :
  aD prog 37 #[.pointer (some ⟨rb,0,none⟩),i64 (k:Int),i64 (j:Int)] w λr w'=>r=.tuple #[i32 ((fd.getD k []).getD j 0),.bool true]/\w'=w:=by
 obtain ⟨cap,hfv⟩:=h.eq;subst hfv;obtain ⟨v,hv,ho⟩:=h.get hk;apply aRi;unfold PN;refine aV.2 ?_;simp only [show ¬ ((k:Int) < 0) by omega,dZ,aH,reduceIte,Bool.false_eq_true,decide_false];refine ⟨.inl ⟨_,rfl⟩,?_⟩;refine kK cV gK hr rfl (XD.2 (kF.2 ?_));simp only [show ¬ ((k:Int)>=((fd.length:Nat):Int)) by omega,aV,dZ,aH,reduceIte,Bool.false_eq_true,decide_false];simp only [show ¬ ((j:Int) < 0) by omega,dZ,reduceIte,Bool.false_eq_true,decide_false];refine ⟨.inl ⟨_,rfl⟩,?_⟩;refine kK cV gK hr rfl ?_;refine aNs JJ lH h.out (by omega) (by omega) (u:=v) (by simpa using hv) ?_;refine gD fM (aC.of_own ho) (kF.2 ?_);simp only [show ¬ ((j:Int)>=(((fd.getD k []).length:Nat):Int)) by omega,aA,decide_false];refine ⟨.inl ⟨_,rfl⟩,?_⟩;refine kK cV gK hr rfl ?_;refine aNs JJ lH h.out (by omega) (by omega) (u:=v) (by simpa using hv) ?_;refine mH fM eU (aC.of_own ho) (by omega) (by omega) (u:=i32 ((fd.getD k []).getD j 0)) ?_ ⟨rfl,rfl⟩;rw [Int.toNat_natCast];exact aLn hj
theorem DV (hr:lM w rb 0 [.pointer (some ⟨hb,0,none⟩),iv,fv,pub,sec]) (h:sN w fv fo vs fd) {k j:Nat} (hk:k < fd.length) (hj:j < (fd.getD k []).length) {n:Int} :
  aD prog 137 #[.pointer (some ⟨rb,0,none⟩),i64 (k:Int),i64 (j:Int),i32 n] w λr w'=>r=.bool true/\sN w' fv fo vs (fd.set k ((fd.getD k []).set j n))/\Fr (FdM vs) w w':=by
 have h0:=h;obtain ⟨cap,hfv⟩:=h.eq;subst hfv;obtain ⟨v,hv,ho⟩:=h.get hk;apply aJt;unfold IJ;refine (FN hr h hk hj).mono λr w' ⟨hr',hw⟩=>?_;subst hr';have hw:=hw.symm;subst hw;refine cH.2 (cG.2 (eJ.2 (aA.2 ⟨.inl ⟨_,rfl⟩,?_⟩)));refine kK cV gK hr rfl ?_;refine aNs JJ lH h.out (by omega) (by omega) (u:=v) (by simpa using hv) ?_;refine stO fM tJ ho (by omega) (by omega) rfl λw2 ho2 hg=>?_;have f:Fr (λi=>v.ownBlock=some i) w w2:=Fr.of_grown hg λk hk=>hk;exact ⟨rfl,h.set hv hk (by simpa using ho2) f,f.mono λi hi=>⟨v,List.mem_of_getElem? hv,hi⟩⟩
end
def xZ (w:Ω) (row:List O) (i:bF):Prop:=∃ p:cN,row=p.cells i/\hJ w p i
theorem xZ.len {w:Ω} {row:List O} {i:bF} (h:xZ w row i):row.length=5:=by obtain ⟨p,rfl,_⟩:=h;rfl
def jL (w:Ω) (v:O) (l:List bF):Prop:=dG xZ 5 w v l
theorem xZ.ext {w w':Ω} {row:List O} {i:bF} (h:xZ w row i) (hx:aG w w'):xZ w' row i:=by obtain ⟨p,h1,h2⟩:=h;exact ⟨p,h1,h2.ext hx⟩
theorem jL.ext {w w':Ω} {v:O} {l:List bF} (h:jL w v l) (hx:aG w w'):jL w' v l:=dG.ext (λh k=>h.ext k) h hx
def xX (B:Nat) (w:Ω) (row:List O) (m:fV):Prop:=∃ pv lv cv,row=[pv,i64 m.result,lv,cv]/\w.ownsRow B 3 1 pv m.params.length (m.params.map i64)/\w.ownsRow B 3 1 lv m.locals.length (m.locals.map i64)/\w.ownsRow B 70 3 cv m.code.length (hU m.code)
def xY (B:Nat) (w:Ω) (row:List O) (x:yX):Prop:=∃ pv,row=[.string x.name,i64 x.exp,pv,i64 x.result]/\w.ownsRow B 3 1 pv x.params.length (x.params.map i64)
def LP {α:Type} (T:List O->α->Prop) (sz:Nat) (cs:List O) (l:List α):Prop:=∀ (k:Nat) x,l[k]?=some x->T ((cs.drop (k*sz)).take sz) x
structure oV (B:Nat) (w:Ω) (p:cN) (i:bF):Prop where
 fl:w.ownsRow B 3 1 p.fv i.fields.length (i.fields.map i64)
 ex:w.ownsRow B 3 1 p.xv i.exports.length (i.exports.map i64)
 im:∃ cs,w.ownsRow B 180 4 p.iv i.imports.length cs/\LP (xY B w) 4 cs i.imports
 mt:∃ cs,w.ownsRow B 74 4 p.mv i.methods.length cs/\LP (xX B w) 4 cs i.methods
theorem xX.at_ {B:Nat} {row:List O} {m:fV} (h:xX B w row m):jK w row m:=by
 obtain ⟨pv,lv,cv,h1,h2,h3,h4⟩:=h;exact ⟨pv,lv,cv,h1,aC.of_own h2,aC.of_own h3,aC.of_own h4⟩
theorem xY.at_ {B:Nat} {row:List O} {m:yX} (h:xY B w row m):qV w row m:=by
 obtain ⟨pv,h1,h2⟩:=h;exact ⟨pv,h1,aC.of_own h2⟩
theorem oV.at_ {B:Nat} {p:cN} {i:bF} (h:oV B w p i):hJ w p i:=by
 obtain ⟨h1,h2,⟨c1,h3,h4⟩,c2,h5,h6⟩:=h;exact ⟨aC.of_own h1,⟨c1,aC.of_own h3,λk x hx=>⟨_,rfl,(h4 k x hx).at_⟩⟩,⟨c2,aC.of_own h5,λk x hx=>⟨_,rfl,(h6 k x hx).at_⟩⟩,aC.of_own h2⟩
theorem xX.fr {B:Nat} {row:List O} {m:fV} {S:Nat->Prop} (h:xX B w row m) (f:Fr S w w') (hS:∀ i,B<=i->¬ S i):xX B w' row m:=by
 obtain ⟨pv,lv,cv,h1,h2,h3,h4⟩:=h;exact ⟨pv,lv,cv,h1,f.own h2 λi hi=>hS i (h2.lt i hi).1,f.own h3 λi hi=>hS i (h3.lt i hi).1,f.own h4 λi hi=>hS i (h4.lt i hi).1⟩
theorem xY.fr {B:Nat} {row:List O} {m:yX} {S:Nat->Prop} (h:xY B w row m) (f:Fr S w w') (hS:∀ i,B<=i->¬ S i):xY B w' row m:=by
 obtain ⟨pv,h1,h2⟩:=h;exact ⟨pv,h1,f.own h2 λi hi=>hS i (h2.lt i hi).1⟩
theorem oV.fr {B:Nat} {p:cN} {i:bF} {S:Nat->Prop} (h:oV B w p i) (f:Fr S w w') (hS:∀ i,B<=i->¬ S i):oV B w' p i:=by
 obtain ⟨h1,h2,⟨c1,h3,h4⟩,c2,h5,h6⟩:=h;exact ⟨f.own h1 λi hi=>hS i (h1.lt i hi).1,f.own h2 λi hi=>hS i (h2.lt i hi).1,⟨c1,f.own h3 λi hi=>hS i (h3.lt i hi).1,λk x hx=>(h4 k x hx).fr f hS⟩,c2,f.own h5 λi hi=>hS i (h5.lt i hi).1,λk x hx=>(h6 k x hx).fr f hS⟩
theorem oV.dep {B:Nat} {p:cN} {i:bF} (h:oV B w p i):uO (λi=>B<=i) w λw'=>oV B w' p i:=λ_ f=>h.fr f λ_ hi hn=>hn hi
end Go.Proofs.YtgkkecladbmjkaaGreatDoor
namespace Go.Proofs.YtgkkecladbmjkaaGreatDoor
open Tryz
open Go.Vc Go.Tc
variable {w w':Ω}
variable {B B' n sz:Nat} {cs row:List O} {m:fV}
theorem DP {α:Type} {T:List O->α->Prop} {l:List α} (hl:cs.length=l.length*sz) (hsz:0 < sz) (hr:LP T sz cs l) (h1:∀ row x,T row x->row.all cB=true):cs.all cB=true:=by
 rw [List.all_eq_true];intro v hv;obtain ⟨j,hj⟩:=List.getElem?_of_mem hv;have hlt:=(List.getElem?_eq_some_iff.1 hj).1;have hk:j / sz < l.length:=by rw [Nat.div_lt_iff_lt_mul hsz];omega
 obtain ⟨x,hx⟩:=bQ (l:=l) (j:=j / sz) hk;have hrow:=h1 _ _ (hr _ _ hx);rw [List.all_eq_true] at hrow;refine hrow v (List.mem_of_getElem? (i:=j % sz) ?_);rw [List.getElem?_take,if_pos (Nat.mod_lt _ hsz),List.getElem?_drop,Nat.mul_comm,Nat.div_add_mod];exact hj
theorem BE {v:O} (h:aC w v sz n cs):cB v=true:=by
 obtain ⟨a,c,rfl⟩:=h.shape;rfl
theorem jK.one (h:jK w row m):row.all cB=true:=by
 obtain ⟨pv,lv,cv,rfl,h1,h2,h3⟩:=h;simp [BE h1,BE h2,BE h3];rfl
theorem qV.one {m:yX} (h:qV w row m):row.all cB=true:=by
 obtain ⟨pv,rfl,h1⟩:=h;simp [BE h1];exact ⟨rfl,rfl,rfl⟩
theorem VW (l:List Int):(l.map i64).all cB=true:=List.all_eq_true.2 λv hv=>by obtain ⟨x,_,rfl⟩:=List.mem_map.1 hv;rfl
theorem oS {v:O} {l:List Int} (h:aS w v l) (hl:l.length<=1000000):aD prog 122 #[v] w λr w'=>w'.ownsRow w.heap.size 3 1 r l.length (l.map i64)/\aG w w':=by
 apply aKd;unfold IV;exact CD (R:=λr w'=>w'.ownsRow w.heap.size 3 1 r l.length (l.map i64)/\aG w w') bE h (VW l) (by omega) λv' w' g1 g2=>⟨g1,g2⟩
theorem SF {v:O} {l:List fO} (h:nP w v l) (hl:l.length<=1000000):aD prog 125 #[v] w λr w'=>w'.ownsRow w.heap.size 70 3 r l.length (hU l)/\aG w w':=by
 apply aKa;unfold IQ;exact LA (R:=λr w'=>w'.ownsRow w.heap.size 70 3 r l.length (hU l)/\aG w w') underlying71 nL rfl (by omega) (λw=>by kernel_rfl) h (VY l) (by omega) (by unfold maxLen;omega) λv' w' g1 g2=>⟨g1,g2⟩
theorem SD {v:O} (h:aC w v 4 n cs) (h1:cs.all cB=true) (hl:n<=1000000):aD prog 123 #[v] w λr w'=>w'.ownsRow w.heap.size 180 4 r n cs/\aG w w':=by
 apply aKc;unfold IU;exact LA (R:=λr w'=>w'.ownsRow w.heap.size 180 4 r n cs/\aG w w') underlying43 mN rfl (by omega) (λw=>by kernel_rfl) h h1 (by omega) (by unfold maxLen;omega) λv' w' g1 g2=>⟨g1,g2⟩
theorem SE {v:O} (h:aC w v 4 n cs) (h1:cs.all cB=true) (hl:n<=1000000):aD prog 124 #[v] w λr w'=>w'.ownsRow w.heap.size 74 4 r n cs/\aG w w':=by
 apply aKb;unfold IR;exact LA (R:=λr w'=>w'.ownsRow w.heap.size 74 4 r n cs/\aG w w') underlying44 lI rfl (by omega) (λw=>by kernel_rfl) h h1 (by omega) (by unfold maxLen;omega) λv' w' g1 g2=>⟨g1,g2⟩
def aTu {α:Type} (T U:List O->α->Prop) (j sz:Nat) (cs:List O) (l:List α):Prop:=∀ (k:Nat) x,l[k]?=some x->(k < j->U ((cs.drop (k*sz)).take sz) x)/\(j<=k->T ((cs.drop (k*sz)).take sz) x)
theorem xX.mono (h:xX B w row m) (hB:B'<=B):xX B' w row m:=by
 obtain ⟨pv,lv,cv,h1,h2,h3,h4⟩:=h;exact ⟨pv,lv,cv,h1,aP h2 hB,aP h3 hB,aP h4 hB⟩
theorem xY.mono {m:yX} (h:xY B w row m) (hB:B'<=B):xY B' w row m:=by
 obtain ⟨pv,h1,h2⟩:=h;exact ⟨pv,h1,aP h2 hB⟩
theorem lS {e:Nat} {v:O} {xs:List O} (h:w.ownsRow B e sz v n xs) (hn:0 < n):∃ g cap,v=.slice (some ⟨g,0,none⟩) n cap:=by
 rcases h.2 with ⟨_,h0⟩|⟨g,cap,cur,e,_⟩
 ·omega
 ·exact ⟨g,cap,e⟩
theorem AJ {p:cN} {i:bF} (h:hJ w p i) (hi:i.right):aD prog 78 #[p.val i] w λr w'=>∃ p':cN,r=p'.val i/\oV w.heap.size w' p' i/\aG w w':=by
 obtain ⟨⟨fk,fl⟩,⟨iml,imr⟩,⟨⟨_,mtl⟩,mtr,_⟩,exl,_⟩:=hi;apply aQo;suffices key:∀ R:O->Ω->Prop,(∀ p' w',oV w.heap.size w' p' i->aG w w'->R (p'.val i) w')->CP (p.val i) w R from key _ λp' w' h1 h2=>⟨p',rfl,h1,h2⟩;intro R hR;unfold CP;refine sO λw1 hb1 x1=>?_;refine LN iE λw2 hz2 x2=>?_;have hb1:aY w1 w.heap.size [.string i.name,p.fv,p.iv,p.mv,p.xv] 46:=hb1;have hb2:=hb1.ext x2;have s1:=x1.size;have s2:=x2.size;have l1:=hb1.lt;have l2:=hz2.lt;have x02:=x1.trans x2;generalize hb:w.heap.size=b at *;generalize hc:w1.heap.size=c at *;have D2:aG w2 w2.drew:=(aG.refl _).drew;refine aI.mk' (λw'=>aG w2 w') D2 ?_;refine dU (λw' hw=>(hb2.ext hw).boxed) iA aZ rfl ?_;refine dU (λw' hw=>(hb2.ext hw).boxed) hY aZ rfl ?_;refine (oS (h.fl.ext (x02.trans D2)) (by omega)).mono λfv4 w4 ⟨of4,x4⟩=>?_;have x24:=D2.trans x4;refine ⟨x24,?_⟩;refine aB.ok (λw' _=>RE) ?_;refine (oS (h.ex.ext (x02.trans x24)) (by omega)).mono λxv5 w5 ⟨ox5,x5⟩=>?_;have x25:=x24.trans x5;refine ⟨x25,?_⟩;have hb5:=hb2.ext x25;have of5:=x5.own of4;have s4:=x4.size;have s5:=x5.size;have sD:=D2.size;refine sT iI hb5 rfl (by simp) (bR of5) ?_;have hb6:=hb5.set 1 fv4;have f6:Fr (λi=>i=b) w5 (w5.setCell ⟨b,1,none⟩ fv4):=Fr.of_set rfl;generalize w5.setCell ⟨b,1,none⟩ fv4=w6 at hb6 f6 ⊢
 refine ⟨(λw'=>w'=w6),rfl,?_⟩;refine aB.ok (λw' _=>RB) ?_;refine sT iI hb6 rfl (by simp) (bR ox5) ?_;have hb7:=hb6.set 4 xv5;have f7:Fr (λi=>i=b) w5 (w6.setCell ⟨b,4,none⟩ xv5):=f6.set rfl;generalize w6.setCell ⟨b,4,none⟩ xv5=w7 at hb7 f7 ⊢;have hb7:aY w7 b [.string i.name,fv4,p.iv,p.mv,xv5] 46:=hb7;have of7:=f7.own of5 λk hk he=>by have:=(of5.lt k hk).1;omega
 have ox7:=f7.own ox5 λk hk he=>by have:=(ox5.lt k hk).1;omega
 have x07:aG w w7:=f7.ext (x02.trans x25) λk hk=>by omega
 have hz7:=f7.blk (hz2.ext x25) (by omega);have s7:=f7.size;clear hb6 f6 f7 hb5 of5 ox5 of4 hb2 hz2;have D7:aG w7 w7.drew:=(aG.refl _).drew;obtain ⟨ci,hci,hri⟩:=h.im;obtain ⟨cm,hcm,hrm⟩:=h.mt;have hri':LP (qV w) 4 ci i.imports:=λk x hx=>by obtain ⟨row,e,hrow⟩:=hri k x hx;rw [e];exact hrow
 have hrm':LP (jK w) 4 cm i.methods:=λk x hx=>by obtain ⟨row,e,hrow⟩:=hrm k x hx;rw [e];exact hrow
 refine aI.mk' (λw'=>aG w7 w') D7 ?_;refine dU (λw' hw=>(hb7.ext hw).boxed) cO jY rfl ?_;refine dU (λw' hw=>(hb7.ext hw).boxed) bK fS rfl ?_;refine (SD (hci.ext (x07.trans D7)) (DP hci.1 (by decide) hri' λrow x hx=>hx.one) (by omega)).mono λiv8 w8 ⟨oi8,x8⟩=>?_;have x78:=D7.trans x8;refine ⟨x78,?_⟩;refine aB.ok (λw' _=>RD) ?_;refine (SE (hcm.ext ((x07.trans D7).trans x8)) (DP hcm.1 (by decide) hrm' λrow x hx=>hx.one) (by omega)).mono λmv9 w9 ⟨om9,x9⟩=>?_;have x79:=x78.trans x9;refine ⟨x79,?_⟩;have hb9:=hb7.ext x79;have oi9:=x9.own oi8;have sD7:=D7.size;have s8:=x8.size;have s9:=x9.size;refine sT EZ hb9 rfl (by simp) (bR oi9) ?_;have hb10:=hb9.set 2 iv8;have f10:Fr (λi=>i=b) w9 (w9.setCell ⟨b,2,none⟩ iv8):=Fr.of_set rfl;generalize w9.setCell ⟨b,2,none⟩ iv8=w10 at hb10 f10 ⊢;refine ⟨(λw'=>w'=w10),rfl,?_⟩;refine aB.ok (λw' _=>RC) ?_;refine sT EY hb10 rfl (by simp) (bR om9) ?_;have hb11:=hb10.set 3 mv9;have f11:Fr (λi=>i=b) w9 (w10.setCell ⟨b,3,none⟩ mv9):=f10.set rfl;generalize w10.setCell ⟨b,3,none⟩ mv9=w11 at hb11 f11 ⊢;have hb11:aY w11 b [.string i.name,fv4,iv8,mv9,xv5] 46:=hb11;have oi11:=f11.own oi9 λk hk he=>by have:=(oi9.lt k hk).1;omega
 have om11:=f11.own om9 λk hk he=>by have:=(om9.lt k hk).1;omega
 have x011:aG w w11:=f11.ext (x07.trans x79) λk hk=>by omega
 have of11:=f11.own (x79.own of7) λk hk he=>by have:=(of7.lt k hk).1;omega
 have ox11:=f11.own (x79.own ox7) λk hk he=>by have:=(ox7.lt k hk).1;omega
 have hz11:=f11.blk (hz7.ext x79) (by omega);have s11:=f11.size;have li:∀ k,iv8.ownBlock=some k->c < k/\k < w11.heap.size:=λk hk=>by have:=(oi8.lt k hk).1;have:=(oi11.lt k hk).2;omega
 have lm:∀ k,mv9.ownBlock=some k->c < k/\k < w11.heap.size:=λk hk=>by have:=(om9.lt k hk).1;have:=(om11.lt k hk).2;omega
 have hne:∀ k,iv8.ownBlock=some k->mv9.ownBlock≠some k:=λk hk hm=>by have:=(om9.lt k hm).1;have:=(oi8.lt k hk).2;omega
 have hfi:∀ k,fv4.ownBlock=some k->c < k/\iv8.ownBlock≠some k/\mv9.ownBlock≠some k:=λk hk=>by
  have a1:=of7.lt k hk;exact ⟨by omega,λhe=>by have:=(oi8.lt k he).1;omega,λhe=>by have:=(om9.lt k he).1;omega⟩
 have hxi:∀ k,xv5.ownBlock=some k->c < k/\iv8.ownBlock≠some k/\mv9.ownBlock≠some k:=λk hk=>by
  have a1:=ox7.lt k hk;exact ⟨by omega,λhe=>by have:=(oi8.lt k he).1;omega,λhe=>by have:=(om9.lt k he).1;omega⟩
 clear oi9 om9 hb9 hb10 f10 f11 hb7 hz7 of7 ox7 oi8 x78 x79 x8 x9;refine bB hb11.boxed cO jY rfl (gD mF (aC.of_own oi11) ?_);have oib:=aP oi11 (show 0<=_ from Nat.zero_le _);have omb:=aP om11 (show 0<=_ from Nat.zero_le _)
 refine ⟨λv w'=>∃ (j:Nat) (cs:List O),v=i64 j/\j<=i.imports.length/\Fr (λk=>iv8.ownBlock=some k) w11 w'/\w'.ownsRow 0 180 4 iv8 i.imports.length cs/\aTu (qV w) (xY w11.heap.size w') j 4 cs i.imports,
  λv _=>i.imports.length - (RowKit.intOf v).toNat,⟨0,ci,rfl,Nat.zero_le _,Fr.refl _ _,oib,λk x hx=>⟨λhk=>absurd hk (Nat.not_lt_zero _),λ_=>hri' k x hx⟩⟩,?_⟩
 rintro _ wa ⟨j,cs,rfl,hj,fa,oa,ra⟩ _;have hba:=fa.blk hb11 λhe=>by have:=li b he;omega
 have x0a:aG w wa:=fa.ext x011 λk hk=>by have:=li k hk;omega
 refine aV.2 (aL (λhlt=>?_) λhge=>?_)
 ·have hj':j < i.imports.length:=by omega
  obtain ⟨g,cap,hg⟩:=lS oa (by omega);obtain ⟨x,hx⟩:=bQ hj';obtain ⟨pv,hrow,hpv⟩:=(ra j x hx).2 (Nat.le_refl _);have Da:aG wa wa.drew:=(aG.refl _).drew;have hlx:=(imr x (List.mem_of_getElem? hx)).2.1.2
  have hcell:∀ (o:Nat) u,o < 4->[Value.string x.name,i64 x.exp,pv,i64 x.result][o]?=some u->cs[j*4+o]?=some u:=λo u ho hu=>by
   rw [<- hrow,List.getElem?_take,if_pos ho,List.getElem?_drop] at hu;exact hu
  subst hg;refine aI.mk' (λw'=>aG wa w') Da ?_;refine dU (λw' hw=>(hba.ext hw).boxed) cO jY rfl ?_;refine dU (λw' hw=>(hba.ext hw).boxed) cO jY rfl ?_;refine aB.ok (λw' _=>MV (by omega) (by omega)) ?_;refine aB.ok (λw' _=>wM) ?_;refine aB.ok (λw' hw=>BI (v:=pv) ?_) ?_
  ·have:=(hw.own oa).cells (g:=g) rfl (j*4+2) pv (hcell 2 pv (by decide) rfl);rw [fL] at this;rw [Int.toNat_natCast];simpa [Nat.add_assoc] using this
  refine (oS (hpv.ext (x0a.trans Da)) (by omega)).mono λpv2 wb ⟨ob,xb⟩=>?_;have xab:=Da.trans xb;refine ⟨xab,?_⟩;refine aB.ok (λw' _=>MV (by omega) (by omega)) ?_;refine aB.ok (λw' _=>wM) ?_;rw [Int.toNat_natCast];have hsa:=fa.size;have hsD:=Da.size;refine QO underlying43 mN cJ iI (xab.own oa) hj' (by decide) (bR ob) λwc _ oc fc=>?_;refine mR (by omega) ?_;have hgl:=li g rfl;refine ⟨⟨j+1,_,rfl,by omega,(fa.trans (Fr.of_ext (S:=λ_=>False) xab) λ_ _ h=>h.elim).trans (fc.mono λk hk=>by show Value.ownBlock _=_;rw [hk];rfl) λ_ _ h=>h,oc,λk y hy=>?_⟩,by simp only [aU];omega⟩
  have hr4:=vF (q:=j) (o:=2) (v:=pv2) (show (cs.drop (k*4)).take 4=(cs.drop (k*4)).take 4 from rfl) (by
   have hkl:=(List.getElem?_eq_some_iff.1 hy).1;have:=oa.1;rw [List.length_take,List.length_drop];omega) (by decide)
  by_cases hkj:k=j
  ·subst hkj;rw [hx] at hy;cases hy;refine ⟨λ_=>?_,λhh=>by omega⟩;rw [hr4,if_pos rfl,hrow];exact ⟨pv2,rfl,aP (fc.own ob λq hq he=>by have:=(ob.lt q hq).1;omega) (by omega)⟩
  ·rw [hr4,if_neg hkj];refine ⟨λhh=>?_,λhh=>(ra k y hy).2 (by omega)⟩;exact (((ra k y hy).1 (by omega)).fr (Fr.of_ext (S:=λ_=>False) xab) λ_ _ h=>h.elim).fr fc λq hq he=>by omega
 have hjn:j=i.imports.length:=by omega
 have ra:LP (xY w11.heap.size wa) 4 cs i.imports:=λk x hx=>(ra k x hx).1 (by have:=(List.getElem?_eq_some_iff.1 hx).1;omega);have oma:=fa.own omb λk hk he=>hne k he hk;have hsa:=fa.size;refine bB hba.boxed bK fS rfl (gD iB (aC.of_own oma) ?_)
 refine ⟨λv w'=>∃ (j:Nat) (cs:List O),v=i64 j/\j<=i.methods.length/\Fr (λk=>mv9.ownBlock=some k) wa w'/\w'.ownsRow 0 74 4 mv9 i.methods.length cs/\aTu (jK w) (xX wa.heap.size w') j 4 cs i.methods,
  λv _=>i.methods.length - (RowKit.intOf v).toNat,⟨0,cm,rfl,Nat.zero_le _,Fr.refl _ _,oma,λk x hx=>⟨λhk=>absurd hk (Nat.not_lt_zero _),λ_=>hrm' k x hx⟩⟩,?_⟩
 rintro _ wd ⟨jm,cs2,rfl,hjm,fd,od,rd⟩ _;have hbd:=fd.blk hba λhe=>by have:=lm b he;omega
 have x0d:aG w wd:=fd.ext x0a λk hk=>by have:=lm k hk;omega
 refine aV.2 (aL (λhlt=>?_) λhge=>?_)
 ·have hj':jm < i.methods.length:=by omega
  obtain ⟨g,cap,hg⟩:=lS od (by omega);obtain ⟨x,hx⟩:=bQ hj';obtain ⟨pv,lv,cv,hrow,hpv,hlv,hcv⟩:=(rd jm x hx).2 (Nat.le_refl _);have hmr:=mtr x (List.mem_of_getElem? hx);obtain ⟨⟨_,hp1⟩,_,⟨_,hp2⟩,⟨_,hp3⟩,_⟩:=hmr
  have hcell:∀ (o:Nat) u,o < 4->[pv,i64 x.result,lv,cv][o]?=some u->cs2[jm*4+o]?=some u:=λo u ho hu=>by
   rw [<- hrow,List.getElem?_take,if_pos ho,List.getElem?_drop] at hu;exact hu
  subst hg;have hgl:=lm g rfl;refine bB hbd.boxed bK fS rfl ?_;refine V.ok (aCx (by omega) (by omega)) ?_;rw [Int.toNat_natCast];have Dd:aG wd wd.drew:=(aG.refl _).drew
  have hld:∀ (o:Nat) u,o < 4->[pv,i64 x.result,lv,cv][o]?=some u->∀ w',aG wd w'->w'.cell? ⟨g,0+jm*4+o,none⟩=some u:=λo u ho hu w' hw=>by
   have:=(hw.own od).cells (g:=g) rfl (jm*4+o) u (hcell o u ho hu);rw [fL] at this;simpa [Nat.add_assoc] using this
  refine aI.mk' (λw'=>aG wd w') Dd ⟨.inl ⟨_,rfl⟩,?_⟩;refine aB.ok (λw' _=>zP) ?_;refine aB.ok (λw' hw=>BI (hld 0 pv (by decide) rfl w' hw)) ⟨.inl ⟨_,rfl⟩,?_⟩;refine aB.ok (λw' _=>zO) ?_;refine aB.ok (λw' hw=>BI (hld 2 lv (by decide) rfl w' hw)) ⟨.inl ⟨_,rfl⟩,?_⟩;refine aB.ok (λw' _=>zN) ?_;refine aB.ok (λw' hw=>aCw (hld 3 cv (by decide) rfl w' hw)) ?_;refine (oS (hpv.ext (x0d.trans Dd)) (by omega)).mono λpv2 w21 ⟨op21,x21⟩=>?_;have e21:=Dd.trans x21;refine ⟨e21,?_⟩;refine (oS (hlv.ext (x0d.trans e21)) (by omega)).mono λlv2 w22 ⟨ol22,x22⟩=>?_;have e22:=e21.trans x22;refine ⟨e22,?_⟩;refine (SF (hcv.ext (x0d.trans e22)) (by omega)).mono λcv2 w23 ⟨oc23,x23⟩=>?_;have e23:=e22.trans x23;refine ⟨e23,.inl ⟨_,rfl⟩,?_⟩;have hsd:=fd.size;have hsD:=Dd.size;have hs21:=x21.size;have hs22:=x22.size;have hs23:=x23.size;refine aB.ok (λw' _=>zP) ?_;refine QO (o:=0) underlying44 lI fD iI (e23.own od) hj' (by decide) (bR op21) λwc1 _ oc1 fc1=>?_;refine ⟨(λ_=>True),trivial,.inl ⟨_,rfl⟩,?_⟩;refine aB.ok (λw' _=>zO) ?_;refine QO (o:=2) underlying44 lI nY iI oc1 hj' (by decide) (bR ol22) λwc2 _ oc2 fc2=>?_;refine ⟨(λ_=>True),trivial,.inl ⟨_,rfl⟩,?_⟩;refine aB.ok (λw' _=>zN) ?_;refine QO (o:=3) underlying44 lI fZ tI oc2 hj' (by decide) (bR oc23) λwc3 _ oc3 fc3=>?_
  refine mR (by omega) ?_;have fc:Fr (λk=>k=g) w23 wc3:=(fc1.trans fc2 λ_ _ h=>h).trans fc3 λ_ _ h=>h;have fdc:Fr (λk=>(Value.slice (some ⟨g,0,none⟩) i.methods.length cap).ownBlock=some k) wa wc3:=(fd.trans (Fr.of_ext (S:=λ_=>False) e23) λ_ _ h=>h.elim).trans (fc.mono λk hk=>by show Value.ownBlock _=_;rw [hk];rfl) λ_ _ h=>h;refine ⟨⟨jm+1,_,rfl,by omega,fdc,oc3,λk y hy=>?_⟩,by simp only [aU];omega⟩;have hkl:=(List.getElem?_eq_some_iff.1 hy).1;have hl0:=od.1;have hr1:=vF (q:=jm) (o:=0) (v:=pv2) (show (cs2.drop (k*4)).take 4=(cs2.drop (k*4)).take 4 from rfl) (by rw [List.length_take,List.length_drop];omega) (by decide);have hr2:=vF (q:=jm) (o:=2) (v:=lv2) (show ((cs2.set (jm*4+0) pv2).drop (k*4)).take 4=((cs2.set (jm*4+0) pv2).drop (k*4)).take 4 from rfl) (by rw [List.length_take,List.length_drop,List.length_set];omega) (by decide);have hr3:=vF (q:=jm) (o:=3) (v:=cv2) (show (((cs2.set (jm*4+0) pv2).set (jm*4+2) lv2).drop (k*4)).take 4=(((cs2.set (jm*4+0) pv2).set (jm*4+2) lv2).drop (k*4)).take 4 from rfl) (by rw [List.length_take,List.length_drop,List.length_set,List.length_set];omega) (by decide);by_cases hkj:k=jm
  ·subst hkj;rw [hx] at hy;cases hy;refine ⟨λ_=>?_,λhh=>by omega⟩;rw [hr3,if_pos rfl,hr2,if_pos rfl,hr1,if_pos rfl,hrow];refine ⟨pv2,lv2,cv2,rfl,aP (fc.own (x23.own (x22.own op21)) λq hq he=>by have:=(op21.lt q hq).1;omega) (by omega),aP (fc.own (x23.own ol22) λq hq he=>by have:=(ol22.lt q hq).1;omega) (by omega),aP (fc.own oc23 λq hq he=>by have:=(oc23.lt q hq).1;omega) (by omega)⟩
  ·rw [hr3,if_neg hkj,hr2,if_neg hkj,hr1,if_neg hkj];refine ⟨λhh=>?_,λhh=>(rd k y hy).2 (by omega)⟩;exact (((rd k y hy).1 (by omega)).fr (Fr.of_ext (S:=λ_=>False) e23) λ_ _ h=>h.elim).fr fc λq hq he=>by omega
 have hjn2:jm=i.methods.length:=by omega
 have rd:LP (xX wa.heap.size wd) 4 cs2 i.methods:=λk x hx=>(rd k x hx).1 (by have:=(List.getElem?_eq_some_iff.1 hx).1;omega);refine oY hbd.boxed jQ rfl ?_;have hzd:=fd.blk (fa.blk hz11 λhe=>by have:=li c he;omega) λhe=>by have:=lm c he;omega
 have ofd:=fd.own (fa.own of11 λk hk=>(hfi k hk).2.1) λk hk=>(hfi k hk).2.2;have oxd:=fd.own (fa.own ox11 λk hk=>(hxi k hk).2.1) λk hk=>(hxi k hk).2.2;have oid:=fd.own oa λk hk=>hne k hk;refine DS iE hzd (l:=[.string i.name,fv4,iv8,mv9,xv5]) rfl rfl rfl (by simp [bR ofd,bR oid,bR od,bR oxd];rfl) λw9 h9 hch=>?_;have f9:=mO hch;refine ⟨_,rJ underlying46 rfl iE h9 rfl,⟨_,rfl⟩,?_⟩
 have up:∀ {B e sz n:Nat} {v:O} {xs:List O},wd.ownsRow B e sz v n xs->(∀ k,v.ownBlock=some k->c < k)->w9.ownsRow b e sz v n xs:=λ{B e sz n v xs} ho hk=>by
  have h1:=f9.own ho λk hk' he=>by have:=hk k hk';omega
  refine ⟨h1.1,?_⟩;rcases h1.2 with h2|⟨g,cap,cur,rfl,_,rest⟩
  ·exact .inl h2
  ·exact .inr ⟨g,cap,cur,rfl,by have:=hk g rfl;omega,rest⟩
 have hsd:=fd.size;have f9':∀ B,w11.heap.size<=B->∀ q,B<=q->¬ q=c:=λB hB q hq he=>by omega
 refine hR ⟨fv4,iv8,mv9,xv5⟩ w9 ⟨up ofd λk hk=>(hfi k hk).1,up oxd λk hk=>(hxi k hk).1,⟨cs,up oid λk hk=>(li k hk).1,λk x hx=>?_⟩,⟨cs2,up od λk hk=>(lm k hk).1,λk x hx=>?_⟩⟩ ?_
 ·exact (((ra k x hx).fr fd λq hq he=>by have:=lm q he;omega).fr f9 (f9' _ (Nat.le_refl _))).mono (by omega)
 ·exact ((rd k x hx).fr f9 (f9' _ hsa)).mono (by omega)
 ·exact f9.ext x0d λk hk=>by omega
end Go.Proofs.YtgkkecladbmjkaaGreatDoor
namespace Go.Proofs.YtgkkecladbmjkaaGreatDoor
open Tryz
open Go.Vc Go.Tc
variable {w w':Ω} {K:O->Ω->Prop}
theorem oV.mono {B B':Nat} {p:cN} {i:bF} (h:oV B w p i) (hB:B'<=B):oV B' w p i:=by
 obtain ⟨h1,h2,⟨c1,h3,h4⟩,c2,h5,h6⟩:=h;exact ⟨aP h1 hB,aP h2 hB,⟨c1,aP h3 hB,λk x hx=>(h4 k x hx).mono hB⟩,c2,aP h5 hB,λk x hx=>(h6 k x hx).mono hB⟩
theorem oV.one {B:Nat} {p:cN} {i:bF} (h:oV B w p i):(p.cells i).all cB=true:=by
 obtain ⟨h1,h2,⟨c1,h3,_⟩,c2,h5,_⟩:=h;simp [cN.cells,bR h1,bR h2,bR h3,bR h5];rfl
theorem AF (w:Ω) (row:List O) (m:bF) (h:xZ w row m):row.length=5:=h.len
theorem gX {l:List bF} {k:Nat} (hk:k < l.length):l[k]?=some (aR l k):=by
 unfold aR;rw [List.getD_eq_getElem?_getD,List.getElem?_eq_getElem hk];rfl
section
variable {rb:Nat} {hv iv fv pub sec:O} {l:List bF}
theorem xI (hr:lM w rb 0 [hv,iv,fv,pub,sec]) (hi:jL w iv l) (hT:pO l) {k:Nat} (hk:k < l.length) :
  aD prog 88 #[.pointer (some ⟨rb,0,none⟩),i64 (k:Int)] w λr w'=>∃ p':cN,r=.tuple #[p'.val (aR l k),.bool true]/\oV w.heap.size w' p' (aR l k)/\aG w w':=by
 apply aQj;unfold OT;refine LN iE λw1 hz x1=>?_;refine aV.2 ?_;simp only [show ¬ ((k:Int) < 0) by omega,dZ,aH,reduceIte,Bool.false_eq_true,decide_false];refine ⟨.inl ⟨_,rfl⟩,?_⟩;refine kK cD iU (hr.ext x1) rfl (wZ kM (hi.ext x1) (kF.2 ?_));simp only [show ¬ ((k:Int)>=((l.length:Nat):Int)) by omega,aA,decide_false];refine ⟨.inl ⟨_,rfl⟩,?_⟩;refine kK cD iU (hr.ext x1) rfl ?_;refine ldS (i:=k) kM jQ (hi.ext x1) (gX hk) AF λrow hrow=>?_;obtain ⟨p,hp,hA⟩:=hrow;subst hp;refine (AJ hA (hT _ (gQ hk)).1).mono λr w2 ⟨p2,hr2,hO,x2⟩=>?_;subst hr2;have hzl:=hz.lt;have hO:=hO.mono (B':=w1.heap.size) (Nat.le_refl _);refine DS iE (hz.ext x2) (l:=p2.cells (aR l k)) rfl rfl rfl hO.one λw3 h3 hch=>?_;have f3:=mO hch;refine ⟨_,rJ underlying46 rfl iE h3 rfl,⟨_,rfl⟩,p2,rfl,?_,?_⟩
 ·exact (hO.fr f3 λi hi he=>by omega).mono (by omega)
 ·exact f3.ext (x1.trans x2) λi hi=>by omega
theorem aEb (hi:jL w iv l) {name:ByteArray} (hl:l.length<=1000):aD prog 182 #[iv,.string name] w λr w'=>r=i64 (match qP l name with|some t=>(t:Int)|none=>-1)/\aG w w':=by
 apply aIg;unfold HB;refine bx λb w1 hb x1=>?_;refine fnK ?_;apply aHo;suffices key:∀ R:O->Ω->Prop,(∀ w',aG w w'->R (i64 (match qP l name with|some t=>(t:Int)|none=>-1)) w')->yE iv _ w1 R from key _ λw' hx=>⟨rfl,hx⟩;intro R hR;unfold yE;refine wZ kM (hi.ext x1) ?_;refine ⟨λv w'=>∃ j:Nat,v=i64 j/\j<=l.length/\aG w1 w'/\∀ k,k < j->((aR l k).name.toList == name.toList)=false,λv _=>l.length - (RowKit.intOf v).toNat,⟨0,rfl,Nat.zero_le _,aG.refl _,λk hk=>absurd hk (Nat.not_lt_zero _)⟩,?_⟩;rintro _ w2 ⟨j,rfl,hj,x2,hno⟩ _;refine aV.2 (aL (λhlt=>?_) λhge=>?_)
 ·have hj':j < l.length:=by omega
  refine ldS (i:=j) kM jQ ((hi.ext x1).ext x2) (gX hj') AF λrow hrow=>?_;obtain ⟨p,hp,hA⟩:=hrow;subst hp;refine ⟨⟨_,_,rfl,?_⟩⟩;show aD prog 213 #[.agg (p.cells (aR l j)).toArray,.pointer (some ⟨b,0,none⟩)] w2 _;apply aHn;suffices key:∀ R:O->Ω->Prop,(∀ w',aG w2 w'->R (.bool ((aR l j).name.toList == name.toList)) w')->yD (.agg (p.cells (aR l j)).toArray) (.pointer (some ⟨b,0,none⟩)) w2 R from key _ λw3 x3=>?_
  ·cases hc:(aR l j).name.toList == name.toList with
   | true=>
    refine aE.2 ?_
    have e:qP l name=some j:=by
     unfold qP;rw [List.findIdx?_eq_some_iff_getElem];refine ⟨hj',?_,λk hk=>?_⟩
     ·have:=gX hj';rw [List.getElem?_eq_getElem hj'] at this;rw [Option.some.inj this];exact hc
     ·have:=gX (l:=l) (k:=k) (by omega);rw [List.getElem?_eq_getElem (by omega)] at this;rw [Option.some.inj this];have:=hno k hk;simpa using this
    have:=hR w3 ((x1.trans x2).trans x3);rw [e] at this;exact this
   | false=>
    refine aA.2 (bT.2 ?_);rw [aX (by omega),cS];refine ⟨⟨j+1,rfl,by omega,x2.trans x3,λk hk=>?_⟩,by simp only [aU];omega⟩;by_cases hkj:k=j
    ·subst hkj;exact hc
    ·exact hno k (by omega)
  intro R' hR';unfold yD;refine bx λb2 w3 hb2 x3=>?_;refine bB hb2 kH VR rfl ?_;refine V.ok (aNa (v:=.string name) (((hb.ext x2).ext x3) 0 (.string name) rfl)) ?_;exact V.ok vG (hR' _ x3)
 ·have e:qP l name=none:=by
   unfold qP;rw [List.findIdx?_eq_none_iff];intro x hx;obtain ⟨k,hk⟩:=List.getElem?_of_mem hx;have hkl:=(List.getElem?_eq_some_iff.1 hk).1;have:=gX hkl;rw [hk] at this;rw [Option.some.inj this];exact hno k (by omega)
  have:=hR w2 (x1.trans x2);rw [e] at this;exact this
theorem aOp {av bv:O} {a b:List Int} (ha:aS w av a) (hb:aS w bv b) (ca:a.length<=1000000) (hk:∀ w',aG w w'->K (.bool (decide (a=b))) w'):aD prog 183 #[av,bv] w K:=by
 apply aIf;unfold HA;refine gD aK ha (gD aK hb (aT.2 (aL (λhne=>?_) λheq=>?_)))
 ·have:¬ a=b:=λe=>hne (by rw [e]);rw [decide_eq_false this] at hk;exact hk _ (aG.refl _)
 have hl:a.length=b.length:=by omega
 refine gD aK ha ?_;refine ⟨λv w'=>∃ j:Nat,v=i64 j/\j<=a.length/\aG w w'/\a.take j=b.take j,λv _=>a.length - (RowKit.intOf v).toNat,⟨0,rfl,Nat.zero_le _,aG.refl _,rfl⟩,?_⟩;rintro _ w1 ⟨j,rfl,hj,x1,hjs⟩ _;refine aV.2 (aL (λhlt=>?_) λhge=>?_)
 ·obtain ⟨x,hx⟩:=bQ (l:=a) (j:=j) (by omega);obtain ⟨y,hy⟩:=bQ (l:=b) (j:=j) (by omega);have D1:aG w1 w1.drew:=(aG.refl _).drew;refine aI.mk' (λw'=>aG w1 w') D1 ?_;refine gR aK aJ (ha.ext x1) (λ_ h=>h) (by omega) (by omega) (fB hx) ?_;refine gR aK aJ (hb.ext x1) (λ_ h=>h) (by omega) (by omega) (fB hy) ?_;refine aB.ok (λw' _=>oD) (aL (λhne=>?_) λheq=>?_)
  ·have:¬ a=b:=λe=>hne (by subst e;rw [hx] at hy;cases hy;rfl);rw [decide_eq_false this] at hk;exact hk _ (x1.trans D1)
  ·have:x=y:=by simpa using heq
   subst this;refine mR (by omega) ?_;exact ⟨⟨j+1,rfl,by omega,x1.trans D1,by rw [List.take_add_one,List.take_add_one,hx,hy,hjs]⟩,by simp only [aU];omega⟩
 ·have hjl:j=a.length:=by omega
  subst hjl
  have:a=b:=by
   rw [List.take_length,hl,List.take_length] at hjs;exact hjs
  rw [decide_eq_true this] at hk;exact hk _ x1
theorem aSc {S:Ω->Prop} {L:O->Prop} {t s f o ft sz n:Nat} {v:O} {cs:List O} (h:XA prog t sz) (hf:FA prog s f o) (hl:L1 prog ft) (hs0:aC w v sz n cs) (hx:∀ w',S w'->aG w w') {i:Nat} (hi:i < n) {u:O} (hu:cs[i*sz+o]?=some u) (hk:L u) :
  aB prog S (Instr.indexAt t v (i64 i)) λp=>aB prog S (Instr.fieldAt s p f) λq=>aB prog S (Instr.loadAt ft q) L:=by
 obtain ⟨e,z,b',hte,hinf⟩:=h;obtain ⟨d,hd,ha⟩:=hl;obtain ⟨b,off,cap,rfl,hc⟩:=hs0.there (by omega);refine aB.ok (λw' _=>eQ hte hinf (by omega) (by omega)) (aB.ok (λw' _=>hf.ex w' _ _) (aB.ok (λw' hw=>iM hd ha ?_) hk));have:=(hx w' hw).cell (hc (i*sz+o) u hu);rw [Int.toNat_natCast,Nat.add_assoc];exact this
theorem TW {cs row:List O} {k sz o:Nat} {u:O} (h:(cs.drop (k*sz)).take sz=row) (ho:o < sz) (hu:row[o]?=some u):cs[k*sz+o]?=some u:=by
 rw [<- h,List.getElem?_take,if_pos ho,List.getElem?_drop] at hu;exact hu
theorem BH (hi:jL w iv l) (hT:pO l) (hl:l.length<=1000) {who:Nat} (hw:who < l.length) {k:Nat} (hk:k < (aR l who).imports.length) :
  aD prog 133 #[iv,i64 (who:Int),i64 (k:Int)] w λr w'=>r=(match kR l who k with|some q=>.tuple #[i64 (q.1:Int),i64 (q.2:Int),.bool true]|none=>.tuple #[i64 0,i64 0,.bool false])/\aG w w':=by
 apply aJw;suffices key:∀ R:O->Ω->Prop,(∀ r w',r=(match kR l who k with|some q=>.tuple #[i64 (q.1:Int),i64 (q.2:Int),.bool true]|none=>.tuple #[i64 0,i64 0,.bool false])->aG w w'->R r w')->yO iv (i64 (who:Int)) (i64 (k:Int)) w R from key _ λr w' h1 h2=>⟨h1,h2⟩;intro R hR;have hTw:=hT _ (gQ hw);have hxr:=hTw.1.2.1.2 _ (bF.imp_mem (i:=aR l who) (k:=(k:Int)) (by omega) (by omega));unfold yO;refine aV.2 ?_;simp only [show ¬ ((who:Int) < 0) by omega,dZ,aH,reduceIte,Bool.false_eq_true,decide_false];refine wZ kM hi (kF.2 ?_);simp only [show ¬ ((who:Int)>=((l.length:Nat):Int)) by omega,aV,dZ,aH,reduceIte,Bool.false_eq_true,decide_false];simp only [show ¬ ((k:Int) < 0) by omega,dZ,reduceIte,Bool.false_eq_true,decide_false];refine pI (i:=who) kM cO jY hi (gX hw) λrow ⟨p,hp,hA⟩=>⟨p.iv,by rw [hp];rfl,by decide,?_⟩;refine wZ mF hA.im (kF.2 ?_);simp only [show ¬ ((k:Int)>=(((aR l who).imports.length:Nat):Int)) by omega,aA,decide_false];refine pI (i:=who) kM cO jY hi (gX hw) λrow ⟨p,hp,hA⟩=>⟨p.iv,by rw [hp];rfl,by decide,?_⟩
 have himp:(aR l who).imports[k]?=some ((aR l who).imp (k:Int)):=by
  unfold bF.imp;rw [Int.toNat_natCast,List.getD_eq_getElem?_getD,List.getElem?_eq_getElem hk];rfl
 generalize hX:(aR l who).imp (k:Int)=X at *;refine ldS (i:=k) mF KI hA.im himp NQ λrow ⟨pv,hrow,hpv⟩=>?_;subst hrow;refine zB TU rfl (qV.one (w:=w) (m:=X) ⟨pv,rfl,hpv⟩) λw1 hb x1=>?_;have hb:aY w1 w.heap.size [.string X.name,i64 X.exp,pv,i64 X.result] 180:=hb;refine bB hb.boxed eB VR rfl ?_;have hi1:=hi.ext x1;refine (aEb hi1 hl).mono λr w2 ⟨hr,x2⟩=>?_;subst hr;have x02:=x1.trans x2;have hi2:=hi1.ext x2;have hb2:=hb.ext x2;have D2:aG w2 w2.drew:=(aG.refl _).drew;have hres:kR l who k=(qP l X.name).bind λt=>if X.exp < (aR l t).exports.length/\((aR l t).meth ((aR l t).exports.getD X.exp.toNat 0)).params=X.params/\((aR l t).meth ((aR l t).exports.getD X.exp.toNat 0)).result=X.result then some (t,((aR l t).exports.getD X.exp.toNat 0).toNat) else none:=by unfold kR;rw [hX]
 refine aI.mk' (λw'=>aG w2 w') D2 ?_;refine aB.ok (λw' _=>nE) ?_;cases hf:qP l X.name with
 | none=>
  dsimp only;simp only [show ((-1:Int) < 0) by decide,uM,aH,aE,reduceIte,decide_true];exact hR _ _ (by rw [hres,hf];rfl) (x02.trans D2)
 | some t=>
 dsimp only
 have htl:t < l.length:=by
  unfold qP at hf;exact (List.findIdx?_eq_some_iff_findIdx_eq.1 hf).1
 have hTt:=hT _ (gQ htl);simp only [show ¬ ((t:Int) < 0) by omega,jR,aH,reduceIte,Bool.false_eq_true,decide_false];refine dU (λw' hw=>(hb2.ext hw).boxed) dD aJ rfl ?_;refine aB.ok (λw' _=>nE) ?_;have hx0:=hxr.1.1;simp only [show ¬ (X.exp < 0) by omega,jR,aH,reduceIte,Bool.false_eq_true,decide_false];refine dU (λw' hw=>(hb2.ext hw).boxed) dD aJ rfl ?_;obtain ⟨cs,hcs,hrows⟩:=hi2;obtain ⟨row,hrow,q,hq,hQ⟩:=hrows t _ (gX htl);subst hq;refine aSc kM hY aZ hcs (λw' hw=>hw) htl (TW (o:=4) hrow (by decide) (u:=q.xv) rfl) ?_;obtain ⟨xa,xc,hxv⟩:=aC.shape hQ.ex
 have hlenx:∀ {S:Ω->Prop} {L:O->Prop},L (i64 ((aR l t).exports.length:Nat))->aB prog S (Builtin.len_ #[42] 3 #[q.xv]) L:=λh=>by
  rw [hxv];exact aB.ok (λw' _=>kS underlying42) h
 refine hlenx (aB.ok (λw' _=>wK) ?_);have fail:∀ w',aG w w'->(¬ (X.exp < (aR l t).exports.length/\((aR l t).meth ((aR l t).exports.getD X.exp.toNat 0)).params=X.params/\((aR l t).meth ((aR l t).exports.getD X.exp.toNat 0)).result=X.result))->R (.tuple #[i64 0,i64 0,.bool false]) w':=λw' hx hn=>hR _ _ (by rw [hres,hf];simp only [Option.bind_some];rw [if_neg hn]) hx;by_cases hge:X.exp>=(((aR l t).exports.length:Nat):Int)
 ·simp only [hge,aE,decide_true];exact fail _ (x02.trans D2) λh=>by omega
 simp only [hge,aA,decide_false];have D3:aG w2.drew w2.drew.drew:=(aG.refl _).drew;have D23:=D2.trans D3;refine aI.mk' (λw'=>aG w2 w') D23 ?_;refine aSc kM hY aZ hcs (λw' hw=>hw) htl (TW (o:=4) hrow (by decide) (u:=q.xv) rfl) ?_;refine dU (λw' hw=>(hb2.ext hw).boxed) dD aJ rfl ?_;have hxl:X.exp.toNat < (aR l t).exports.length:=by omega
 generalize hm:(aR l t).exports.getD X.exp.toNat 0=m at *
 have hmm:(aR l t).exports[X.exp.toNat]?=some m:=by
  rw [<- hm,List.getD_eq_getElem?_getD,List.getElem?_eq_getElem hxl];rfl
 have hmr:=hTt.1.2.2.2.2 m (List.mem_of_getElem? hmm);refine gR aK aJ hQ.ex (λw' hw=>hw) (by omega) (by omega) (fB hmm) ?_;refine aV.2 ?_;simp only [show ¬ (m < 0) by omega,dZ,aH,reduceIte,Bool.false_eq_true,decide_false];have hi3:jL w2.drew.drew iv l:=(hi.ext x02).ext D23;have x03:=x02.trans D23;refine pI (i:=t) kM bK fS hi3 (gX htl) λrow ⟨p3,hp3,hA3⟩=>⟨p3.mv,by rw [hp3];rfl,by decide,?_⟩;refine wZ iB hA3.mt (kF.2 ?_);simp only [show ¬ (m>=(((aR l t).methods.length:Nat):Int)) by omega,aA,decide_false];refine pI (i:=t) kM bK fS hi3 (gX htl) λrow ⟨p4,hp4,hA4⟩=>⟨p4.mv,by rw [hp4];rfl,by decide,?_⟩;obtain ⟨mn,rfl⟩:∃ n:Nat,m=n:=⟨m.toNat,by omega⟩
 have hmth:(aR l t).methods[mn]?=some ((aR l t).meth (mn:Int)):=by
  unfold bF.meth;rw [Int.toNat_natCast,List.getD_eq_getElem?_getD,List.getElem?_eq_getElem (by omega)];rfl
 have hMr:=hTt.1.2.2.1.2.1 _ (meth_mem (i:=aR l t) (k:=mn) (by omega));generalize hM:(aR l t).meth (mn:Int)=M at *;refine ldS (i:=mn) iB nW hA4.mt hmth tD λrow ⟨mpv,mlv,mcv,hmrow,hmp,hml,hmc⟩=>?_;subst hmrow;refine zB MT rfl (jK.one (w:=w2.drew.drew) (m:=M) ⟨mpv,mlv,mcv,rfl,hmp,hml,hmc⟩) λw5 hb5 x5=>?_;have hb5:aY w5 w2.drew.drew.heap.size [mpv,i64 M.result,mlv,mcv] 74:=hb5;refine bB hb5.boxed fD aZ rfl ?_;refine bB ((hb2.ext D23).ext x5).boxed cJ aZ rfl ?_;have x05:=x03.trans x5;refine aOp (hmp.ext x5) (hpv.ext x05) (by have:=hMr.1.2;omega) λw6 x6=>?_;have x06:=x05.trans x6;refine eJ.2 ?_;by_cases he:M.params=X.params
 ·simp only [he,dZ,aH,reduceIte,Bool.false_eq_true,Bool.not_true,decide_true];refine bB (hb5.ext x6).boxed iQ aJ rfl ?_;refine bB (((hb2.ext D23).ext x5).ext x6).boxed cU aJ rfl ?_;refine aT.2 ?_;by_cases hr:M.result=X.result
  ·simp only [hr,ne_eq,not_true_eq_false,aA,decide_false];refine hR _ _ ?_ x06;rw [hres,hf];simp only [Option.bind_some];rw [hm,hM,if_pos ⟨by omega,he,hr⟩];simp
  ·simp only [hr,ne_eq,not_false_eq_true,aE,decide_true];exact fail _ x06 λh=>hr h.2.2
 ·simp only [he,jJ,aH,aE,reduceIte,Bool.not_false,decide_false];exact fail _ x06 λh=>he h.2.1
end
end Go.Proofs.YtgkkecladbmjkaaGreatDoor
namespace Go.Proofs.YtgkkecladbmjkaaGreatDoor
open Tryz
open Go.Vc Go.Tc
def aTw (ar:List PA) (k v:Int):Prop:=v=0\/∃ (j:Nat) (x:PA),v=(j:Int)+1/\ar[j]?=some x/\x.label=k
structure LoV (ar:List PA) (k a b:Int):Prop where
 eq:k≠2->a=b
 ref:k=3\/k=4->aTw ar k a
def LoL (ar:List PA):List Int->List Int->List Int->Prop
 | [],[],[]=>True
 | k::K,a::s,b::t=>LoV ar k a b/\LoL ar K s t
 | _,_,_=>False
structure LoA (x y:PA):Prop where
 owner:y.owner=x.owner
 label:y.label=x.label
 life:y.life=x.life
 share:y.share=x.share
 len:y.data.length=x.data.length
 pub:x.label=3->y.data=x.data
structure aWd (ar ar':List PA):Prop where
 len:ar'.length=ar.length
 row:∀ (j:Nat) x y,ar[j]?=some x->ar'[j]?=some y->LoA x y
def aWe (ar ar':List PA):Prop:=∀ (j:Nat) x,ar[j]?=some x->∃ y,ar'[j]?=some y/\y.label=x.label
structure LoP (s s':PS):Prop where
 size:s'.size=s.size
 ar:aWd s.ar s'.ar
 tp:s'.tp=s.tp
 ts:s'.ts.length=s.ts.length
 tr:s'.tr=s.tr
structure aWk (x:fO) (s:PS) (K:List Int) (q q':AZ):Prop where
 st:q'.2.1=q.2.1
 lo:LoP q.2.2 q'.2.2
 grow:aWe s.ar q.2.2.ar
 size:q.2.2.size=s.size
 val:q.2.1=36864->¬ jF x.op->∀ i m,LoV q.2.2.ar (bM (iP i m x K) 0) q.1 q'.1
structure LoF (l:List bF) (ar:List PA) (f g:iK) (K:List Int):Prop where
 who:g.who=f.who
 mth:g.mth=f.mth
 pc:g.pc=f.pc
 st:LoL ar K f.st g.st
 loc:LoL ar (f.me l).locs f.loc g.loc
def aTx (l:List bF) (ar:List PA) (f g:iK):Prop:=∃ K,qU (f.img l) (f.me l) f.pc K/\LoF l ar f g K
def aTz (l:List bF) (ar:List PA) (c f g:iK):Prop:=∃ K K1,qU (f.img l) (f.me l) f.pc K/\lX K (K1++iT (c.me l).result)/\lW K1/\LoF l ar f g K1
def aTy (l:List bF) (ar:List PA):iK->List iK->List iK->Prop
 | _,[],[]=>True
 | c,f::fs,g::gs=>aTz l ar c f g/\aTy l ar f fs gs
 | _,_,_=>False
def aWf (ar:List PA):Prop:=(∃ x,ar[0]?=some x/\x.label=3)/\∃ x,ar[1]?=some x/\x.label=4
structure LoR (l:List bF) (r r':Rm):Prop where
 ps:LoP r.ps r'.ps
 fd:∀ k,k < l.length->LoL r.ps.ar (aR l k).fields (r.fd.getD k []) (r'.fd.getD k [])
 base:aWf r.ps.ar
 sz:r.ps.size<=5000
structure LoM (l:List bF) (m n:PM):Prop where
 top:aTx l m.r.ps.ar m.f n.f
 ch:aTy l m.r.ps.ar m.f m.fs n.fs
 fuel:n.fuel=m.fuel
 r:LoR l m.r n.r
def aWo (l:List bF) (o o':Out):Prop:=(∃ m n,o=.run m/\o'=.run n/\LoM l m n)\/∃ s d q r r',o=.fin s d q r/\o'=.fin s d q r'/\LoP r.ps r'.ps
end Go.Proofs.YtgkkecladbmjkaaGreatDoor
namespace Go.Proofs.YtgkkecladbmjkaaGreatDoor
open Tryz
open Go.Vc
structure jZ (p:RP) (w:Ω):Prop where
 room:lM w p.rb 0 [.pointer (some ⟨p.hb,0,none⟩),p.iv,p.fv,p.pub,p.sec]
 h:eZ w p.hb p.B p.size p.g p.cap p.ar
 qp:w.ownsRow p.B 5 1 p.pub p.tp.length (p.tp.map u8)
 qs:w.ownsRow p.B 5 1 p.sec p.ts.length (p.ts.map u8)
 lp:p.tp.length<=128
 ls:p.ts.length<=128
 ne:∀ x,p.pub.ownBlock=some x->p.sec.ownBlock≠some x
 np:∀ a∈p.ar,∀ x,a.dv.ownBlock=some x->p.pub.ownBlock≠some x
 ns:∀ a∈p.ar,∀ x,a.dv.ownBlock=some x->p.sec.ownBlock≠some x
 gp:p.pub.ownBlock≠some p.g
 gs:p.sec.ownBlock≠some p.g
 lt:p.rb≠p.hb
 fresh:∀ x,(x=p.rb\/x=p.hb)->x≠p.g/\(∀ a∈p.ar,a.dv.ownBlock≠some x)/\p.pub.ownBlock≠some x/\p.sec.ownBlock≠some x
 two:2<=p.ar.length
 sz:0<=p.size/\p.size<=1000
 bytes:∀ a∈p.ar,pQ a.data
section
variable {p:RP} {w w':Ω}
theorem jZ.trace (h:jZ p w) {tb:Nat} (ht:aY w tb [.slice none 0 0] 125) (hn:¬ iX p tb):cA { p with tb:=tb,tv:=.slice none 0 0,tr:=[] } w:=by
 refine ⟨h.room,h.h,h.qp,h.qs,h.lp,h.ls,h.ne,h.np,h.ns,h.gp,h.gs,h.lt,h.fresh,ht,World.ownsRow_nil _ _ _ _,λe=>(by cases e),λi hi hm=>?_,h.two,h.sz,h.bytes⟩;rcases hi with hi|hi
 ·have hi:i=tb:=hi;subst hi;exact hn hm
 ·cases hi
theorem jZ.hi (h:jZ p w):∀ i,iX p i->i < w.heap.size:=by
 intro i hm;rcases hm with rfl|rfl|rfl|⟨a,ha,he⟩|he|he
 ·exact h.room.lt
 ·exact h.h.heap.lt
 ·exact (h.h.row.lt _ rfl).2
 ·exact ((h.h.data a ha).lt _ he).2
 ·exact (h.qp.lt _ he).2
 ·exact (h.qs.lt _ he).2
theorem jZ.fr {S:Nat->Prop} (h:jZ p w) (f:Fr S w w') (hn:∀ i,iX p i->¬ S i):jZ p w':=
 ⟨f.seg h.room (hn _ (.inl rfl)),h.h.frT f λi hs=>⟨λe=>hn i (.inr (.inl e)) hs,λe=>hn i (.inr (.inr (.inl e))) hs,λa ha e=>hn i (.inr (.inr (.inr (.inl ⟨a,ha,e⟩)))) hs⟩,
  f.own h.qp λi hi=>hn i (.inr (.inr (.inr (.inr (.inl hi))))),f.own h.qs λi hi=>hn i (.inr (.inr (.inr (.inr (.inr hi))))),h.lp,h.ls,h.ne,h.np,h.ns,h.gp,h.gs,h.lt,h.fresh,h.two,h.sz,h.bytes⟩
theorem jZ.ext (h:jZ p w) (hx:aG w w'):jZ p w':=h.fr (Fr.of_ext (S:=λ_=>False) hx) λ_ _ h=>h
structure zD (p p':RP) (w w':Ω):Prop where
 rb:p'.rb=p.rb
 hb:p'.hb=p.hb
 B:p'.B=p.B
 tb:p'.tb=p.tb
 size:p'.size=p.size
 iv:p'.iv=p.iv
 fv:p'.fv=p.fv
 mu:∀ i,iX p' i->iX p i\/w.heap.size<=i
 fr:Fr (iX p) w w'
theorem zD.of_ext (hx:aG w w'):zD p p w w':=⟨rfl,rfl,rfl,rfl,rfl,rfl,rfl,λ_ hi=>.inl hi,Fr.of_ext hx⟩
theorem zD.trans {p1 p2:RP} {w1 w2:Ω} (h:zD p p1 w w1) (k:zD p1 p2 w1 w2):zD p p2 w w2:=
 ⟨k.rb.trans h.rb,k.hb.trans h.hb,k.B.trans h.B,k.tb.trans h.tb,k.size.trans h.size,k.iv.trans h.iv,k.fv.trans h.fv,λi hi=>by
  rcases k.mu i hi with h1|h1
  ·exact h.mu i h1
  ·exact .inr (Nat.le_trans h.fr.size h1),h.fr.trans k.fr λi hi hs=>by
  rcases h.mu i hs with h1|h1
  ·exact h1
  ·omega⟩
theorem jZ.setDv (h:jZ p w) {k:Nat} {x:bS} (hk:p.ar[k]?=some x) {v':O} {d':List Int} (hd:d'.length<=64) (hok:pQ d') (ho:w.ownsRow p.B 5 1 v' d'.length (d'.map u8)) (hn:∀ i,v'.ownBlock=some i->¬ iX p i) :
  jZ { p with ar:=p.ar.set k { x with dv:=v',data:=d' } } (w.setCell ⟨p.g,k*5+4,none⟩ v')/\(∀ i,iX { p with ar:=p.ar.set k { x with dv:=v',data:=d' } } i->iX p i\/v'.ownBlock=some i)/\Fr (λi=>i=p.g) w (w.setCell ⟨p.g,k*5+4,none⟩ v'):=by
 have hkl:k < p.ar.length:=(List.getElem?_eq_some_iff.1 hk).1;have hxm:=List.mem_of_getElem? hk;have f:Fr (λi=>i=p.g) w (w.setCell ⟨p.g,k*5+4,none⟩ v'):=Fr.of_set rfl
 have find:∀ {i:Nat} {a:bS},(p.ar.set k { x with dv:=v',data:=d' })[i]?=some a->(i=k/\a={ x with dv:=v',data:=d' })\/(i≠k/\p.ar[i]?=some a):=by
  intro i a hi;by_cases hik:k=i
  ·subst hik;rw [List.getElem?_set_self hkl] at hi;cases hi;exact .inl ⟨rfl,rfl⟩
  ·rw [List.getElem?_set_ne hik] at hi;exact .inr ⟨λe=>hik e.symm,hi⟩
 have each:∀ a∈p.ar.set k { x with dv:=v',data:=d' },a={ x with dv:=v',data:=d' }\/a∈p.ar:=by
  intro a ha;obtain ⟨i,hi⟩:=List.getElem?_of_mem ha;rcases find hi with ⟨_,e⟩|⟨_,e⟩
  ·exact .inl e
  ·exact .inr (List.mem_of_getElem? e)
 have inM:∀ a∈p.ar,∀ i,a.dv.ownBlock=some i->iX p i:=λa ha i hi=>.inr (.inr (.inr (.inl ⟨a,ha,hi⟩)))
 have mu:∀ i,iX { p with ar:=p.ar.set k { x with dv:=v',data:=d' } } i->iX p i\/v'.ownBlock=some i:=λi hi=>by
  rcases hi with hi|hi|hi|⟨a,ha,he⟩|hi
  ·exact .inl (.inl hi)
  ·exact .inl (.inr (.inl hi))
  ·exact .inl (.inr (.inr (.inl hi)))
  ·rcases each a ha with rfl|ha
   ·exact .inr he
   ·exact .inl (inM a ha i he)
  ·exact .inl (.inr (.inr (.inr (.inr hi))))
 have hgM:iX p p.g:=.inr (.inr (.inl rfl))
 have hrow:(w.setCell ⟨p.g,k*5+4,none⟩ v').ownsRow p.B 127 5 (.slice (some ⟨p.g,0,none⟩) p.ar.length p.cap) p.ar.length (iD (p.ar.set k { x with dv:=v',data:=d' })):=by
  rw [wG hk];exact (h.h.row.stored (k*5+4) v').1
 refine ⟨⟨f.seg h.room (λe=>(h.fresh p.rb (.inl rfl)).1 e),⟨?_,?_,λa ha=>?_,λa ha=>?_,λi j a b y hi hj ha hb'=>?_,λa ha=>?_,by have:=f.size;have:=h.h.lt;show p.B<=_;omega,by simpa using h.h.cnt,⟨h.h.fresh.1,λa ha=>?_⟩⟩,f.own h.qp λi hi e=>h.gp (e▸hi),f.own h.qs λi hi e=>h.gs (e▸hi),h.lp,h.ls,h.ne,λa ha y hy=>?_,λa ha y hy=>?_,h.gp,h.gs,h.lt,λy hy=>⟨(h.fresh y hy).1,λa ha=>?_,(h.fresh y hy).2.2⟩,
  by simpa using h.two,h.sz,λa ha=>?_⟩,mu,f⟩
 ·have:=f.blk h.h.heap λe=>h.h.fresh.1 e;simpa using this
 ·simpa using hrow
 ·rcases each a ha with rfl|ha
  ·exact f.own ho λi hi e=>(hn i hi) (e▸hgM)
  ·exact f.own (h.h.data a ha) λi hi e=>h.h.drow a ha (e▸hi)
 ·rcases each a ha with rfl|ha
  ·exact hd
  ·exact h.h.len a ha
 ·rcases find hi with ⟨rfl,rfl⟩|⟨_,hi'⟩<;>rcases find hj with ⟨rfl,rfl⟩|⟨_,hj'⟩
  ·rfl
  ·exact absurd (inM b (List.mem_of_getElem? hj') y hb') (hn y ha)
  ·exact absurd (inM a (List.mem_of_getElem? hi') y ha) (hn y hb')
  ·exact h.h.dist i j a b y hi' hj' ha hb'
 ·rcases each a ha with rfl|ha
  ·exact λe=>(hn _ e) hgM
  ·exact h.h.drow a ha
 ·rcases each a ha with rfl|ha
  ·exact λe=>(hn _ e) (.inr (.inl rfl))
  ·exact h.h.fresh.2 a ha
 ·rcases each a ha with rfl|ha
  ·exact λe=>(hn y hy) (.inr (.inr (.inr (.inr (.inl e)))))
  ·exact h.np a ha y hy
 ·rcases each a ha with rfl|ha
  ·exact λe=>(hn y hy) (.inr (.inr (.inr (.inr (.inr e)))))
  ·exact h.ns a ha y hy
 ·rcases each a ha with rfl|ha
  ·exact λe=>(hn y e) (hy.elim (λe=>.inl e) λe=>.inr (.inl e))
  ·exact (h.fresh y hy).2.1 a ha
 ·rcases each a ha with rfl|ha
  ·exact hok
  ·exact h.bytes a ha
theorem vY (h:jZ p w) {k:Nat} (hk:k < 2) {x:bS} (hx:p.ar[k]?=some x) {v:O} {l:List Int} (hv:gY w v l) (hl:l.length<=64) (hok:pQ l) :
  aD prog 86 #[.pointer (some ⟨p.hb,0,none⟩),i64 ((k:Int)+1),v] w λ_ w'=>∃ v',jZ { p with ar:=p.ar.set k { x with dv:=v',data:=l } } w'/\zD p { p with ar:=p.ar.set k { x with dv:=v',data:=l } } w w'/\Fr (λi=>i=p.g) w w':=by
 apply aQl
 have key:∀ {R:O->Ω->Prop},(aD prog 97 #[.pointer (some ⟨p.hb,0,none⟩),i64 ((k:Int)+1)] w λt20 w9=>aD prog 58 #[v] w9 λt22 w10=>Go.Vc.aM (t20) /\
   V prog (Instr.fieldAt 127 t20 4) w10 λt24 w12=>U prog (Instr.storeAt 23 t24 t22) w12 λ_ w13=>R (Value.bool true) w13)->CN (.pointer (some ⟨p.hb,0,none⟩)) (i64 ((k:Int)+1)) v w R:=by
  intro R hgo;unfold CN;obtain ⟨a,c,rfl⟩:=hv.shape;refine aT.2 ?_;have h2:k=0\/k=1:=by omega
  rcases h2 with rfl|rfl
  ·simp only [show decide ((((0:Nat):Int)+1)≠1)=false by decide,dZ,FJ,aH,reduceIte,Bool.false_eq_true];refine oA.2 ?_;refine cX.2 ?_;simp only [show ¬ (((l.length:Nat):Int) > 64) by omega,aA,decide_false];exact hgo
  ·simp only [show decide ((((1:Nat):Int)+1)≠1)=true by decide,show decide ((((1:Nat):Int)+1)≠2)=false by decide,aT,FI,dZ,aH,reduceIte,Bool.false_eq_true];refine oA.2 ?_;refine cX.2 ?_;simp only [show ¬ (((l.length:Nat):Int) > 64) by omega,aA,decide_false];exact hgo
 refine key ?_;have hkl:k < p.ar.length:=(List.getElem?_eq_some_iff.1 hx).1;refine (xV h.h).mono λr w1 ⟨hr,hw⟩=>?_;rw [CG rfl hkl] at hr;subst hr;have hw:=hw.symm;subst hw;refine (SH hv (by omega)).mono λv' w1 ⟨ho,x1⟩=>?_;have h1:=h.ext x1;have hBw:=h.h.lt;refine ⟨.inl ⟨_,rfl⟩,?_⟩;refine V.ok iN ?_;refine U.ok (kG lJ (bR ho) (h1.h.get hx (by omega:4 < 5)) (h1.h.row.frozenAt _)) ?_
 obtain ⟨h2,mu2,f2⟩:=h1.setDv hx hl hok (aP ho hBw) λi hi=>by
  have hi':=(ho.lt i hi).1;exact λhm=>by have:=h.hi i hm;omega
 refine ⟨v',h2,⟨rfl,rfl,rfl,rfl,rfl,rfl,rfl,λi hi=>?_,((Fr.of_ext (S:=λi=>i=p.g) x1).trans f2 λ_ _ h=>h).mono λi hi=>.inr (.inr (.inl hi))⟩,(Fr.of_ext (S:=λi=>i=p.g) x1).trans f2 λ_ _ h=>h⟩;rcases mu2 i hi with hm|hm
 ·exact .inl hm
 ·exact .inr (ho.lt i hm).1
theorem jZ.clear (h:jZ p w):jZ { p with pub:=.slice none 0 0,sec:=.slice none 0 0,tp:=[],ts:=[] } ((w.setCell ⟨p.rb,0+3,none⟩ (.slice none 0 0)).setCell ⟨p.rb,0+4,none⟩ (.slice none 0 0))/\Fr (λi=>i=p.rb) w ((w.setCell ⟨p.rb,0+3,none⟩ (.slice none 0 0)).setCell ⟨p.rb,0+4,none⟩ (.slice none 0 0)):=by
 have r1:=h.room.set (j:=3) (by simp) (.slice none 0 0);have r2:=r1.set (j:=4) (by simp) (.slice none 0 0);have f1:Fr (λi=>i=p.rb) w (w.setCell ⟨p.rb,0+3,none⟩ (.slice none 0 0)):=Fr.of_set rfl;have f:Fr (λi=>i=p.rb) w ((w.setCell ⟨p.rb,0+3,none⟩ (.slice none 0 0)).setCell ⟨p.rb,0+4,none⟩ (.slice none 0 0)):=f1.set rfl;have hf:=λa ha=>(h.fresh p.rb (.inl rfl)).2.1 a ha
 refine ⟨⟨r2,h.h.frT f λi hi=>⟨λe=>h.lt (hi▸e),λe=>(h.fresh p.rb (.inl rfl)).1 (hi▸e),λa ha e=>hf a ha (hi▸e)⟩,⟨rfl,.inl ⟨rfl,rfl⟩⟩,⟨rfl,.inl ⟨rfl,rfl⟩⟩,by simp,by simp,λx hx=>(by cases hx),λa ha x hx=>(by simp [Value.ownBlock]),λa ha x hx=>(by simp [Value.ownBlock]),λhx=>(by cases hx),λhx=>(by cases hx),h.lt,λy hy=>⟨(h.fresh y hy).1,(h.fresh y hy).2.1,λhx=>(by cases hx),λhx=>(by cases hx)⟩,
  h.two,h.sz,h.bytes⟩,f⟩
theorem SN (h:jZ p w) {pv qv:O} {a b:List Int} (ha:gY w pv a) (hb:∀ w',Fr (iX p) w w'->gY w' qv b) (oka:pQ a) (okb:pQ b) :
  aD prog 42 #[lC p,pv,qv] w λr w'=>∃ p',r=.bool (jO p.ps a b).1/\p'.ps=(jO p.ps a b).2/\jZ p' w'/\zD p p' w w':=by
 apply aRd;unfold PJ;obtain ⟨a1,c1,rfl⟩:=ha.shape;obtain ⟨b1,d1,rfl⟩:=(hb w (Fr.refl _ _)).shape;refine oA.2 (cX.2 ?_);by_cases h1:((a.length:Nat):Int) > 64
 ·simp only [h1,jJ,aH,aE,reduceIte,decide_true];refine ⟨p,?_,?_,h,zD.of_ext (aG.refl _)⟩<;>unfold jO<;>rw [if_pos (.inl (by omega))]
 simp only [h1,dZ,aH,reduceIte,Bool.false_eq_true,decide_false];refine oA.2 (cX.2 ?_);by_cases h2:((b.length:Nat):Int) > 64
 ·simp only [h2,aE,decide_true];refine ⟨p,?_,?_,h,zD.of_ext (aG.refl _)⟩<;>unfold jO<;>rw [if_pos (.inr (by omega))]
 simp only [h2,aA,decide_false];have hno:¬ (a.length > 64\/b.length > 64):=by omega
 have htwo:=h.two;obtain ⟨x,hx⟩:=bQ (l:=p.ar) (j:=0) (by omega);obtain ⟨y,hy⟩:=bQ (l:=p.ar) (j:=1) (by omega);refine ⟨.inl ⟨_,rfl⟩,?_⟩;refine bB h.room.boxed bX dY rfl ?_;refine (vY h (k:=0) (by omega) hx ha (by omega) oka).mono λ_ w1 ⟨v1,g1,s1,f1⟩=>?_;refine ⟨.inl ⟨_,rfl⟩,?_⟩;refine bB g1.room.boxed bX dY rfl ?_;have hy1:(p.ar.set 0 { x with dv:=v1,data:=a })[1]?=some y:=by rw [List.getElem?_set_ne (by decide)];exact hy
 refine (vY g1 (k:=1) (by omega) hy1 (hb w1 s1.fr) (by omega) okb).mono λ_ w2 ⟨v2,g2,s2,f2⟩=>?_;have S2:=s1.trans s2;refine ⟨.inl ⟨_,rfl⟩,?_⟩;refine V.ok rY ?_;refine DR lJ g2.room rfl (by simp) rfl ?_;have r3:=g2.room.set (j:=3) (by simp) (.slice none 0 0);refine ⟨.inl ⟨_,rfl⟩,?_⟩;refine V.ok wO ?_;refine DR lJ r3 rfl (by simp) rfl ?_;obtain ⟨g4,f4⟩:=g2.clear;refine ⟨_,?_,?_,g4,S2.trans ⟨rfl,rfl,rfl,rfl,rfl,rfl,rfl,λi hi=>?_,f4.mono λi hi=>.inl hi⟩⟩
 ·unfold jO;rw [if_neg hno]
 ·unfold jO;rw [if_neg hno];show (⟨p.size,((p.ar.set 0 { x with dv:=v1,data:=a }).set 1 { y with dv:=v2,data:=b }).map pa,[],[],p.tr⟩:PS)=_;rw [uA (r:=2) hy1 (by omega),uA (r:=1) hx (by omega)];rfl
 ·rcases hi with hm|hm|hm|hm|hm|hm
  ·exact .inl (.inl hm)
  ·exact .inl (.inr (.inl hm))
  ·exact .inl (.inr (.inr (.inl hm)))
  ·exact .inl (.inr (.inr (.inr (.inl hm))))
  iterate 2
   ·cases hm
end
end Go.Proofs.YtgkkecladbmjkaaGreatDoor
namespace Go.Proofs.YtgkkecladbmjkaaGreatDoor
open Tryz
open Go.Vc Go.Tc
inductive Lb
 | rm|im|fo|fd|mb|fr|ex
structure iG where
 rp:RP
 fo:Nat
 vs:List O
 IB:Nat->Prop
 mb:Nat
def pS (q:FP) (i:Nat):Prop:=FM q i\/q.cv.ownBlock=some i
def WR (p:iG) (q:FP) (X:Nat->Prop):Lb->Nat->Prop
 | .rm,i=>iX p.rp i\/lB p.rp i
 | .im,i=>p.IB i
 | .fo,i=>i=p.fo
 | .fd,i=>FdM p.vs i
 | .mb,i=>i=p.mb
 | .fr,i=>pS q i
 | .ex,i=>X i
structure Sep (R:Lb->Nat->Prop) (n:Nat):Prop where
 dj:∀ a b i,R a i->R b i->a=b
 lt:∀ a i,R a i->i < n
theorem Sep.step {R R':Lb->Nat->Prop} {n n':Nat} (h:Sep R n) (hn:n<=n') (k:Lb) (h1:∀ a i,R' a i->R a i\/(a=k/\n<=i/\i < n')):Sep R' n':=by
 refine ⟨λa b i ha hb=>?_,λa i ha=>?_⟩
 ·rcases h1 a i ha with ha|⟨e1,h2,_⟩<;>rcases h1 b i hb with hb|⟨e2,h3,_⟩
  ·exact h.dj a b i ha hb
  ·have:=h.lt a i ha;omega
  ·have:=h.lt b i hb;omega
  ·rw [e1,e2]
 ·rcases h1 a i ha with ha|⟨_,_,h2⟩
  ·have:=h.lt a i ha;omega
  ·exact h2
structure Wh (l:List bF) (p:iG) (q:FP) (f:iK) (r:Rm) (X:Nat->Prop) (sl:O) (fu st:Int) (w:Ω):Prop where
 room:cA p.rp w
 rps:p.rp.ps=r.ps
 fld:sN w p.rp.fv p.fo p.vs r.fd
 img:uO p.IB w λw'=>jL w' p.rp.iv l
 box:lM w p.mb 0 [lC p.rp,rH p.rp,sl,i64 fu,i64 st]
 frm:oX w q (f.me l) f
 sep:Sep (WR p q X) w.heap.size
def WM (p:iG) (q:FP) (i:Nat):Prop:=(iX p.rp i\/lB p.rp i)\/FdM p.vs i\/i=p.mb\/FM q i
structure jE (p:iG) (q:FP) (p':iG) (q':FP) (w w':Ω):Prop where
 pe:p'={ p with rp:=p'.rp }
 rb:p'.rp.rb=p.rp.rb
 tb:p'.rp.tb=p.rp.tb
 iv:p'.rp.iv=p.rp.iv
 fv:p'.rp.fv=p.rp.fv
 mu:∀ i,iX p'.rp i\/lB p'.rp i->(iX p.rp i\/lB p.rp i)\/w.heap.size<=i
 qe:q'={ q with sv:=q'.sv }
 sv:∀ i,q'.sv.ownBlock=some i->q.sv.ownBlock=some i\/w.heap.size<=i
 fr:Fr (WM p q) w w'
section
variable {l:List bF} {p p1 p2:iG} {q q1 q2:FP} {f f':iK} {r r':Rm} {X:Nat->Prop} {sl:O} {fu st:Int} {w w1 w':Ω}
theorem jE.of_ext (hx:aG w w'):jE p q p q w w':=⟨rfl,rfl,rfl,rfl,rfl,λ_ h=>.inl h,rfl,λ_ h=>.inl h,Fr.of_ext hx⟩
theorem jE.wm (s:jE p q p1 q1 w w1) {i:Nat} (h:WM p1 q1 i):WM p q i\/w.heap.size<=i:=by
 have e:=s.pe;have e2:=s.qe;rcases h with h|h|h|h
 ·rcases s.mu i h with h|h
  ·exact .inl (.inl h)
  ·exact .inr h
 ·rw [e] at h;exact .inl (.inr (.inl h))
 ·rw [e] at h;exact .inl (.inr (.inr (.inl h)))
 ·rcases h with h|h|h
  ·rw [e2] at h;exact .inl (.inr (.inr (.inr (.inl h))))
  ·rw [e2] at h;exact .inl (.inr (.inr (.inr (.inr (.inl h)))))
  ·rcases s.sv i h with h|h
   ·exact .inl (.inr (.inr (.inr (.inr (.inr h)))))
   ·exact .inr h
theorem jE.trans (s:jE p q p1 q1 w w1) (k:jE p1 q1 p2 q2 w1 w'):jE p q p2 q2 w w':=by
 refine ⟨?_,k.rb.trans s.rb,k.tb.trans s.tb,k.iv.trans s.iv,k.fv.trans s.fv,λi hi=>?_,?_,λi hi=>?_,s.fr.trans k.fr λi hi hm=>?_⟩
 ·rw [k.pe,s.pe]
 ·rcases k.mu i hi with h|h
  ·exact s.mu i h
  ·exact .inr (Nat.le_trans s.fr.size h)
 ·rw [k.qe,s.qe]
 ·rcases k.sv i hi with h|h
  ·exact s.sv i h
  ·exact .inr (Nat.le_trans s.fr.size h)
 ·rcases s.wm hm with h|h
  ·exact h
  ·omega
theorem jE.mb (s:jE p q p1 q1 w w1):p1.mb=p.mb:=by rw [s.pe]
theorem jE.fb (s:jE p q p1 q1 w w1):q1.fb=q.fb:=by rw [s.qe]
theorem jE.pf (s:jE p q p1 q1 w w1):Proofs.YtgkkecladbmjkaaGreatDoor.pf q1=Proofs.YtgkkecladbmjkaaGreatDoor.pf q:=by unfold Proofs.YtgkkecladbmjkaaGreatDoor.pf;rw [s.fb]
def pm (p:iG):O:=.pointer (some ⟨p.mb,0,none⟩)
theorem jE.pm (s:jE p q p1 q1 w w1):Proofs.YtgkkecladbmjkaaGreatDoor.pm p1=Proofs.YtgkkecladbmjkaaGreatDoor.pm p:=by unfold Proofs.YtgkkecladbmjkaaGreatDoor.pm;rw [s.mb]
def gG (l:List bF) (p:iG) (q:FP) (f:iK) (r:Rm) (X:Nat->Prop) (sl:O) (fu st:Int) (w w':Ω):Prop:=∃ p' q',Wh l p' q' f r X sl fu st w'/\jE p q p' q' w w'
theorem Wh.go (h:Wh l p q f r X sl fu st w):gG l p q f r X sl fu st w w:=⟨p,q,h,jE.of_ext (aG.refl _)⟩
theorem gG.after (s:jE p q p1 q1 w w1) (g:gG l p1 q1 f r X sl fu st w1 w'):gG l p q f r X sl fu st w w':=by
 obtain ⟨p',q',h1,h2⟩:=g;exact ⟨p',q',h1,s.trans h2⟩
theorem gG.of_ext (hx:aG w w1) (g:gG l p q f r X sl fu st w1 w'):gG l p q f r X sl fu st w w':=gG.after (jE.of_ext hx) g
theorem Wh.fr {S:Nat->Prop} (h:Wh l p q f r X sl fu st w) (g:Fr S w w') (hn:∀ a i,a≠Lb.ex->WR p q X a i->¬ S i):Wh l p q f r X sl fu st w':=by
 have rm:=λi hi=>hn .rm i (by intro e;cases e) hi;refine ⟨h.room.fr g λi hs=>⟨λhm=>rm i (.inl hm) hs,λhm=>rm i (.inr hm) hs⟩,h.rps,h.fld.fr g (hn .fo _ (by intro e;cases e) rfl) λi hi=>hn .fd i (by intro e;cases e) hi,h.img.fr g λi hi=>hn .im i (by intro e;cases e) hi,g.seg h.box (hn .mb _ (by intro e;cases e) rfl),h.frm.fr g λi hi=>hn .fr i (by intro e;cases e) hi,?_⟩;exact h.sep.step g.size .ex λa i ha=>.inl ha
theorem Wh.ext (h:Wh l p q f r X sl fu st w) (hx:aG w w'):Wh l p q f r X sl fu st w':=h.fr (Fr.of_ext (S:=λ_=>False) hx) λ_ _ _ _ h=>h
theorem Wh.other (h:Wh l p q f r X sl fu st w) {i:Nat} (hi:X i):¬ WM p q i:=by
 intro hm;rcases hm with hm|hm|hm|hm
 ·cases h.sep.dj .rm .ex i hm hi
 ·cases h.sep.dj .fd .ex i hm hi
 ·cases h.sep.dj .mb .ex i hm hi
 ·cases h.sep.dj .fr .ex i (.inl hm) hi
theorem Wh.frame (h:Wh l p q f r X sl fu st w) (g:XL q (f.me l) f' w w') (hw:f'.who=f.who) (hm:f'.mth=f.mth):gG l p q f' r X sl fu st w w':=by
 obtain ⟨q',h1,s⟩:=g;have eme:f'.me l=f.me l:=by unfold iK.me iK.img;rw [hw,hm]
 have F:=s.fr;have hn:∀ a i,a≠Lb.fr->WR p q X a i->¬ FM q i:=λa i ha hi hm=>ha (h.sep.dj a .fr i hi (.inl hm));have rm:=λi hi=>hn .rm i (by intro e;cases e) hi;refine ⟨p,q',⟨h.room.fr F λi hs=>⟨λhm=>rm i (.inl hm) hs,λhm=>rm i (.inr hm) hs⟩,h.rps,h.fld.fr F (hn .fo _ (by intro e;cases e) rfl) λi hi=>hn .fd i (by intro e;cases e) hi,h.img.fr F λi hi=>hn .im i (by intro e;cases e) hi,F.seg h.box (hn .mb _ (by intro e;cases e) rfl),eme▸h1,?_⟩,⟨rfl,rfl,rfl,rfl,rfl,λ_ h=>.inl h,s.same,s.sv,F.mono λi hi=>.inr (.inr (.inr hi))⟩⟩;refine h.sep.step F.size .fr λa i ha=>?_;cases a with
 | fr=>
  have hlt:=h1.hi i ha;rcases ha with ha|ha
  ·rcases s.fm ha with h2|h2
   ·exact .inl (.inl h2)
   ·exact .inr ⟨rfl,h2,hlt⟩
  ·rw [s.same] at ha;exact .inl (.inr ha)
 | _=>exact .inl ha
theorem Wh.roomS (h:Wh l p q f r X sl fu st w) {rp':RP} (ht:cA rp' w') (s:nR p.rp rp' w w') (hps:rp'.ps=r'.ps) (hfd:r'.fd=r.fd):gG l p q f r' X sl fu st w w':=by
 have F:=s.fr;have hn:∀ a i,a≠Lb.rm->WR p q X a i->¬ (iX p.rp i\/lB p.rp i):=λa i ha hi hm=>ha (h.sep.dj a .rm i hi hm);have eR:lC rp'=lC p.rp:=by unfold lC;rw [s.rb]
 have eT:rH rp'=rH p.rp:=by unfold rH;rw [s.tb]
 refine ⟨{ p with rp:=rp' },q,⟨ht,hps,?_,?_,?_,h.frm.fr F λi hi=>hn .fr i (by intro e;cases e) hi,?_⟩,⟨rfl,s.rb,s.tb,s.iv,s.fv,λi hi=>?_,rfl,λ_ h=>.inl h,F.mono λi hi=>.inl hi⟩⟩
 ·show sN w' rp'.fv p.fo p.vs r'.fd;rw [s.fv,hfd];exact h.fld.fr F (hn .fo _ (by intro e;cases e) rfl) λi hi=>hn .fd i (by intro e;cases e) hi
 ·show uO p.IB w' λw''=>jL w'' rp'.iv l;rw [s.iv];exact h.img.fr F λi hi=>hn .im i (by intro e;cases e) hi
 ·show lM w' p.mb 0 [lC rp',rH rp',sl,i64 fu,i64 st];rw [eR,eT];exact F.seg h.box (hn .mb _ (by intro e;cases e) rfl)
 ·refine h.sep.step F.size .rm λa i ha=>?_;cases a with
  | rm=>
   have hlt:=ht.hi i ha;rcases s.mu i ha with h2|h2|h2
   ·exact .inl (.inl h2)
   ·exact .inl (.inr h2)
   ·exact .inr ⟨rfl,h2,hlt⟩
  | _=>exact .inl ha
 ·rcases s.mu i hi with h2|h2|h2
  ·exact .inl (.inl h2)
  ·exact .inl (.inr h2)
  ·exact .inr h2
theorem Wh.fieldS (h:Wh l p q f r X sl fu st w) {fd:List (List Int)} (hf:sN w' p.rp.fv p.fo p.vs fd) (F:Fr (FdM p.vs) w w'):gG l p q f { r with fd:=fd } X sl fu st w w':=by
 have hn:∀ a i,a≠Lb.fd->WR p q X a i->¬ FdM p.vs i:=λa i ha hi hm=>ha (h.sep.dj a .fd i hi hm);have rm:=λi hi=>hn .rm i (by intro e;cases e) hi;refine ⟨p,q,⟨h.room.fr F λi hs=>⟨λhm=>rm i (.inl hm) hs,λhm=>rm i (.inr hm) hs⟩,h.rps,hf,h.img.fr F λi hi=>hn .im i (by intro e;cases e) hi,F.seg h.box (hn .mb _ (by intro e;cases e) rfl),h.frm.fr F λi hi=>hn .fr i (by intro e;cases e) hi,h.sep.step F.size .ex λa i ha=>.inl ha⟩,⟨rfl,rfl,rfl,rfl,rfl,λ_ h=>.inl h,rfl,λ_ h=>.inl h,F.mono λi hi=>.inr (.inl hi)⟩⟩
theorem Wh.cell (h:Wh l p q f r X sl fu st w) {sl':O} {fu' st':Int} {j:Nat} {u:O} (hj:j < 5) (he:[lC p.rp,rH p.rp,sl,i64 fu,i64 st].set j u=[lC p.rp,rH p.rp,sl',i64 fu',i64 st']):gG l p q f r X sl' fu' st' w (w.setCell ⟨p.mb,0+j,none⟩ u):=by
 have F:Fr (λi=>i=p.mb) w (w.setCell ⟨p.mb,0+j,none⟩ u):=Fr.of_set rfl;have hn:∀ a i,a≠Lb.mb->WR p q X a i->¬ i=p.mb:=λa i ha hi hm=>ha (h.sep.dj a .mb i hi hm);have rm:=λi hi=>hn .rm i (by intro e;cases e) hi;have hb:=h.box.set (j:=j) (by simpa using hj) u;rw [he] at hb;refine ⟨p,q,⟨h.room.fr F λi hs=>⟨λhm=>rm i (.inl hm) hs,λhm=>rm i (.inr hm) hs⟩,h.rps,h.fld.fr F (hn .fo _ (by intro e;cases e) rfl) λi hi=>hn .fd i (by intro e;cases e) hi,h.img.fr F λi hi=>hn .im i (by intro e;cases e) hi,hb,h.frm.fr F λi hi=>hn .fr i (by intro e;cases e) hi,h.sep.step F.size .ex λa i ha=>.inl ha⟩,⟨rfl,rfl,rfl,rfl,rfl,λ_ h=>.inl h,rfl,λ_ h=>.inl h,F.mono λi hi=>.inr (.inr (.inl hi))⟩⟩
theorem Wh.setPc (h:Wh l p q f r X sl fu st w) (pc:Nat):gG l p q { f with pc:=pc } r X sl fu st w (w.setCell ⟨q.fb,0+2,none⟩ (i64 (pc:Int))):=by
 have F:Fr (λi=>i=q.fb) w (w.setCell ⟨q.fb,0+2,none⟩ (i64 (pc:Int))):=Fr.of_set rfl;have hb:=h.frm.box.set (j:=2) (by simp [SK]) (i64 (pc:Int));have hd:=h.frm.db;refine h.frame ⟨q,⟨hb,F.own h.frm.loc λi hi=>hd i (.inl hi),F.own h.frm.st λi hi=>hd i (.inr (.inl hi)),F.own h.frm.code λi hi=>hd i (.inr (.inr hi)),h.frm.db,h.frm.dl,h.frm.dc⟩,rfl,λi hi=>.inl hi,F.mono λi hi=>.inl hi⟩ rfl rfl
theorem Wh.setLoc (h:Wh l p q f r X sl fu st w) {loc:List Int} (_:loc.length=f.loc.length) (ho:w'.ownsRow 0 21 1 q.lv loc.length (loc.map i32)) (F:Fr (λi=>q.lv.ownBlock=some i) w w'):gG l p q { f with loc:=loc } r X sl fu st w w':=by
 have hd:=h.frm.db;refine h.frame ⟨q,⟨F.seg h.frm.box λhs=>hd _ (.inl hs) rfl,ho,F.own h.frm.st λi hi hs=>h.frm.dl i hs hi,F.own h.frm.code λi hi=>(h.frm.dc i hi).1,h.frm.db,h.frm.dl,h.frm.dc⟩,rfl,λi hi=>.inl hi,F.mono λi hi=>.inr (.inl hi)⟩ rfl rfl
end
section
variable {l:List bF} {p p1:iG} {q q1:FP} {f f1:iK} {r:Rm} {X:Nat->Prop} {sl:O} {fu st:Int} {w w1 w':Ω}
theorem nU (h:Wh l p q f r X sl fu st w) (hl:f.st.length<=1000) {n:Int}:aD prog 134 #[pf q,i32 n] w λ_ w'=>gG l p q { f with st:=f.st++[n] } r X sl fu st w w':=
 (aCz h.frm hl).mono λ_ _ g=>h.frame g rfl rfl
theorem aNg (h:Wh l p q f r X sl fu st w) (hl:f.st.length<=1000) {k:Nat} (hk:k<=f.st.length):aD prog 91 #[pf q,i64 (k:Int)] w λrv w'=>w'.ownsRow w.heap.size 21 1 rv k ((gL k f.st).map i32)/\gG l p q { f with st:=jA k f.st } r X sl fu st w w':=
 (BN h.frm hl hk).mono λ_ _ g=>⟨g.1,h.frame g.2 rfl rfl⟩
theorem UZ (h:Wh l p q f r X sl fu st w) (hl:f.st.length<=1000) (hk:1<=f.st.length):aD prog 135 #[pf q] w λrv w'=>rv=i32 (bM (gL 1 f.st) 0)/\gG l p q { f with st:=jA 1 f.st } r X sl fu st w w':=
 (wS h.frm hl hk).mono λ_ _ g=>⟨g.1,h.frame g.2 rfl rfl⟩
theorem VA {op:Int} (ho:iV op\/op=15\/op=16\/op=26\/op=22) (h:Wh l p q f r X sl fu st w) (hl:f.st.length<=1000) (hk:tB op<=f.st.length) (h32:gE f.st) :
  aD prog 138 #[pf q,i64 op] w λrv w'=>rv=i32 (EL op (gL (tB op) f.st))/\gG l p q { f with st:=jA (tB op) f.st } r X sl fu st w w':=
 (RQ ho h.frm hl hk h32).mono λ_ _ g=>⟨g.1,h.frame g.2 rfl rfl⟩
theorem pcW (h:Wh l p1 q1 f1 r X sl fu st w) (hq:q1.fb=q.fb) (hp:f1.pc<=100000) {R:O->Ω->Prop} (hR:R (i64 ((f1.pc+1:Nat):Int)) w) :
  Go.Vc.aM (pf q)/\V prog (Instr.fieldAt 114 (pf q) 2) w λa w1=>V prog (Instr.loadAt 3 a) w1 λb w2=>V prog (binOp .add 3 b (i64 1)) w2 λc w3=>R c w3:=by
 have e:pf q=.pointer (some ⟨q1.fb,0,none⟩):=by unfold pf;rw [hq]
 rw [e];refine ⟨.inl ⟨_,rfl⟩,kK cC aJ h.frm.box rfl (bT.2 ?_)⟩;rw [aX (by omega),cS];exact hR
def SG (l:List bF) (p:iG) (q:FP) (f:iK) (X:Nat->Prop) (sl:O) (fu st:Int) (w w':Ω):Prop:=∃ st' r',gG l p q { f with st:=st' } r' X sl fu st w w'
theorem Wh.sg (h:Wh l p q f r X sl fu st w) (hx:aG w w'):SG l p q f X sl fu st w w':=⟨f.st,r,p,q,h.ext hx,jE.of_ext hx⟩
theorem gG.sg {st':List Int} {r':Rm} (g:gG l p q { f with st:=st' } r' X sl fu st w w'):SG l p q f X sl fu st w w':=⟨_,_,g⟩
theorem aEg {st':List Int} {me:fV} (hq:q1={ q with sv:=q1.sv }) {j:Nat} (hj:j < 8):(SK q1 me { f with st:=st' })[j]?=(SK q me f)[j]?:=by
 rw [hq];have:j=0\/j=1\/j=2\/j=3\/j=4\/j=5\/j=6\/j=7:=by omega
 rcases this with rfl|rfl|rfl|rfl|rfl|rfl|rfl|rfl<;>rfl
theorem yFr {S:Ω->Prop} {L:O->Prop} (hS:∀ w',S w'->SG l p q f X sl fu st w w') {s i j ft:Nat} (hf:FA prog s i j) (hl:L1 prog ft) {u:O} (hj:j < 8) (hu:(SK q (f.me l) f)[j]?=some u) (hk:L u) :
  aB prog S (Instr.fieldAt s (pf q) i) λa=>aB prog S (Instr.loadAt ft a) L:=
 yFE hf hl (λw' hw=>by
  obtain ⟨st',r',p1,q1,h1,s1⟩:=hS w' hw;exact ⟨_,by rw [<- s1.fb];exact h1.frm.box,by have e:=aEg (f:=f) (st':=st') (me:=f.me l) s1.qe hj;rw [hu] at e;exact e⟩) hk
theorem yMa {S:Ω->Prop} {L:O->Prop} (hS:∀ w',S w'->SG l p q f X sl fu st w w') {s i j ft:Nat} (hf:FA prog s i j) (hl:L1 prog ft) {u:O} (hu:[lC p.rp,rH p.rp,sl,i64 fu,i64 st][j]?=some u) (hk:L u) :
  aB prog S (Instr.fieldAt s (pm p) i) λa=>aB prog S (Instr.loadAt ft a) L:=
 yFE hf hl (λw' hw=>by
  obtain ⟨st',r',p1,q1,h1,s1⟩:=hS w' hw;refine ⟨_,by rw [<- s1.mb];exact h1.box,?_⟩;have e1:lC p1.rp=lC p.rp:=by unfold lC;rw [s1.rb]
  have e2:rH p1.rp=rH p.rp:=by unfold rH;rw [s1.tb]
  rw [e1,e2];exact hu) hk
theorem SG.blk (_:Wh l p q f r X sl fu st w) {g:Nat} {cs:List O} {e:TypeId} (hb:aY w g cs e) (hn:¬ WM p q g) (s:SG l p q f X sl fu st w w'):aY w' g cs e:=by
 obtain ⟨_,_,p1,q1,_,s1⟩:=s;exact s1.fr.blk hb hn
theorem aUn {P:Program} {S:Ω->Prop} {t x:Nat} {z:O} {by_:Nat} (h:XA P t 1) (hx:cP P x z 1 by_) {B e n:Nat} {v:O} {xs:List O} (ho:w.ownsRow B e 1 v n xs) {k:Nat} (hk:k < n) {u:O} (hu:cB u=true) {K':Ω->Prop}
  (hK:∀ w',w'.ownsRow B e 1 v n (xs.set k u)->w.grownBy w' v.ownBlock->K' w'):aB P S (Instr.indexAt t v (i64 (k:Int))) λa=>U P (Instr.storeAt x a u) w λ_ w2=>K' w2:=by
 obtain ⟨e',z',b',ht,hi⟩:=h;have ho':=ho;rcases ho.2 with ⟨_,rfl⟩|⟨g,cap,cur,rfl,hB,_⟩
 ·omega
 refine aB.ok (λw' _=>eQ ht hi (by omega) (by omega)) ?_;obtain ⟨s1,s2⟩:=ho'.stored k u;have hc:=ho'.cellAt k (by omega);have hlt:k < xs.length:=by have:=ho'.1;omega
 rw [List.getElem?_eq_getElem hlt] at hc;simp only [Nat.zero_add,Nat.mul_one,Int.toNat_natCast];exact U.ok (kG hx hu hc (ho'.frozenAt _)) (hK _ s1 s2)
theorem QJ (s:List Int):jA 0 s=s:=by unfold jA;simp
theorem BM {l:List Int} {a:Int} (h0:0<=a) (h:a < (l.length:Int)):∃ k:Nat,a=k/\k < l.length:=⟨a.toNat,by omega,by omega⟩
theorem aNh (h:Wh l p q f r X sl fu st w) {x:fO} (hx:DH (f.img l) (f.me l) x) (hp:XH x.op) (hnt:(bA (f.img l) (f.me l) x).length<=f.st.length) (h8:f.st.length<=8) (h32:gE f.st) (hloc:f.loc.length=(f.me l).locs.length) (hwho:f.who < l.length) (hfd:LR l r.fd) (hpc:f.pc<=1000) :
  aD prog 96 #[pm p,pf q,.agg #[i64 x.op,i64 x.a,i64 x.b]] w λrv w'=>rv=i64 ((JH x f.pc (gL (bA (f.img l) (f.me l) x).length f.st):Nat):Int) /\
   gG l p q { f with st:=jA (bA (f.img l) (f.me l) x).length f.st++qE x f r.fd (gL (bA (f.img l) (f.me l) x).length f.st),loc:=zA x f.loc (gL (bA (f.img l) (f.me l) x).length f.st) } { r with fd:=fdP x f.who r.fd (gL (bA (f.img l) (f.me l) x).length f.st) } X sl fu st w w':=by
 have hop:=UY hx.xr;have hnm:=hx.nm;have hxr:=hx.xr;obtain ⟨op,a,b⟩:=x;obtain ⟨p1,p2,p3,p4⟩:=hp;unfold eV at p4;dsimp only at *;apply aQb
 suffices key:∀ R:O->Ω->Prop,(∀ rv w',rv=i64 ((JH ⟨op,a,b⟩ f.pc (gL (bA (f.img l) (f.me l) ⟨op,a,b⟩).length f.st):Nat):Int) ->
   gG l p q { f with st:=jA (bA (f.img l) (f.me l) ⟨op,a,b⟩).length f.st++qE ⟨op,a,b⟩ f r.fd (gL (bA (f.img l) (f.me l) ⟨op,a,b⟩).length f.st),loc:=zA ⟨op,a,b⟩ f.loc (gL (bA (f.img l) (f.me l) ⟨op,a,b⟩).length f.st) } { r with fd:=fdP ⟨op,a,b⟩ f.who r.fd (gL (bA (f.img l) (f.me l) ⟨op,a,b⟩).length f.st) } X sl fu st w w'->R rv w') ->
   CK (pm p) (pf q) (.agg #[i64 op,i64 a,i64 b]) w R from key _ λrv w' h1 h2=>⟨h1,h2⟩
 intro R hR;unfold CK;refine sO λw1 hb x1=>?_;have hb:aY w1 w.heap.size [i64 op,i64 a,i64 b] 70:=hb;have hh:=h.ext x1;have hbl:=hb.lt
 have hbn:∀ {p1:iG} {q1:FP} {w2:Ω},Wh l p q f r X sl fu st w1->jE p q p1 q1 w1 w2->¬ WM p q w.heap.size:=λhw s hm=>by
  have:∀ i,WM p q i->i < w.heap.size:=λi hi=>by
   rcases hi with hi|hi|hi|hi
   ·exact h.sep.lt .rm i hi
   ·exact h.sep.lt .fd i hi
   ·exact h.sep.lt .mb i hi
   ·exact h.sep.lt .fr i (.inl hi)
  have:=this _ hm;omega
 refine bB hb.boxed bV aJ rfl ?_
 have fin:∀ {f1:iK} {r1:Rm} {w2:Ω} {t:O},gG l p q f1 r1 X sl fu st w w2->f1.pc=f.pc->(t=i64 ((f.pc+1:Nat):Int)->gG l p q f1 r1 X sl fu st w w2->R t w2) ->
   (t=i64 ((f.pc+1:Nat):Int))->R t w2:=λg _ k e=>k e g
 have fin2:∀ {f1:iK} {r1:Rm} {w2:Ω} {R':O->Ω->Prop},gG l p q f1 r1 X sl fu st w w2->f1.pc=f.pc->R' (i64 ((f.pc+1:Nat):Int)) w2 ->
   Go.Vc.aM (pf q)/\V prog (Instr.fieldAt 114 (pf q) 2) w2 λa w1=>V prog (Instr.loadAt 3 a) w1 λb w2=>V prog (binOp .add 3 b (i64 1)) w2 λc w3=>R' c w3:=by
  intro f1 r1 w2 R' ⟨p1,q1,h1,s⟩ e hR';refine pcW h1 s.fb (by omega) ?_;rw [e];exact hR'
 clear fin;rcases hop with rfl|rfl|rfl|rfl|rfl|hbin|rfl|rfl|rfl|rfl|rfl|rfl|rfl|rfl|rfl|rfl|rfl|rfl|rfl|rfl|rfl|rfl|rfl|rfl|rfl|rfl|rfl|rfl
 case _=>
  simp only [aF,Int.reduceEq,decide_true,decide_false,aE,aA];refine bB hb.boxed bC aJ rfl ?_;refine V.ok (bG underlying3 underlying21) ?_;have ha:-2147483648<=a/\a<=2147483647:=⟨hxr.2.1,hxr.2.2.1⟩;rw [show IntKind.i32.wrap a=a by simp only [IntKind.wrap_i32];omega];refine (nU hh (by omega)).mono λ_ w2 g=>?_;refine fin2 (gG.of_ext x1 g) rfl (hR _ _ rfl ?_);have e:jA 0 f.st=f.st:=QJ _;show gG l p q { f with st:=jA 0 f.st++[a] } r X sl fu st w w2;rw [e];exact gG.of_ext x1 g
 case _=>
  have ha0:0<=a:=hxr.2.1;have hal:a < ((f.me l).locs.length:Int):=hnm;obtain ⟨k,rfl,hk⟩:=BM (l:=f.loc) ha0 (by omega);simp only [aF,Int.reduceEq,decide_true,decide_false,aE,aA];have D1:aG w1 w1.drew:=(aG.refl _).drew;refine aI.mk' (SG l p q f X sl fu st w1) (hh.sg D1) ⟨.inl ⟨_,rfl⟩,?_⟩;refine yFr (λ_ h=>h) dR lH (by decide) (u:=q.lv) rfl ?_;refine dU (λw' hw=>(SG.blk hh hb (hbn hh (jE.of_ext (aG.refl _))) hw).boxed) bC aJ rfl ?_;refine dV fM eU (aC.of_own hh.frm.loc) (λw' hw=>?_) (by omega) (by omega) (u:=i32 (f.loc.getD k 0)) (by rw [Int.toNat_natCast];exact aLn hk) ?_
  ·obtain ⟨st',r',p1,q1,h1,s1⟩:=hw;have:=aC.of_own h1.frm.loc;rw [s1.qe] at this;exact this
  refine (nU (hh.ext D1) (by omega)).mono λ_ w2 g=>?_;have g:=gG.of_ext D1 g;refine ⟨g.sg,fin2 (gG.of_ext x1 g) rfl (hR _ _ rfl ?_)⟩;have e:jA 0 f.st=f.st:=QJ _;show gG l p q { f with st:=jA 0 f.st++[f.loc.getD k 0] } r X sl fu st w w2;rw [e];exact gG.of_ext x1 g
 case _=>
  have ha0:0<=a:=hxr.2.1;have hal:a < ((f.me l).locs.length:Int):=hnm;obtain ⟨k,rfl,hk⟩:=BM (l:=f.loc) ha0 (by omega);have hnt:1<=f.st.length:=hnt;simp only [aF,Int.reduceEq,decide_true,decide_false,aE,aA];have D1:aG w1 w1.drew:=(aG.refl _).drew;refine aI.mk' (SG l p q f X sl fu st w1) (hh.sg D1) ⟨.inl ⟨_,rfl⟩,?_⟩;refine yFr (λ_ h=>h) dR lH (by decide) (u:=q.lv) rfl ?_;refine dU (λw' hw=>(SG.blk hh hb (hbn hh (jE.of_ext (aG.refl _))) hw).boxed) bC aJ rfl ?_;refine (UZ (hh.ext D1) (by omega) hnt).mono λrv w2 ⟨hrv,g⟩=>?_;subst hrv;have g:=gG.of_ext D1 g;refine ⟨g.sg,?_⟩;obtain ⟨p2,q2,h2,s2⟩:=g;have hlo:=h2.frm.loc;have elv:q2.lv=q.lv:=by rw [s2.qe]
  rw [elv] at hlo;refine aUn fM tJ hlo hk rfl λw3 ho3 hg3=>?_;have F3:Fr (λi=>q2.lv.ownBlock=some i) w2 w3:=by rw [elv];exact Fr.of_grown hg3 λk hk=>hk
  have g3:=h2.setLoc (loc:=f.loc.set k (bM (gL 1 f.st) 0)) (by simp) (by rw [elv,List.length_set,List.map_set];exact ho3) F3;have g3:=gG.of_ext x1 (gG.after s2 g3)
  exact fin2 g3 rfl (hR _ _ rfl (by
   show gG l p q { f with st:=jA 1 f.st++[],loc:=f.loc.set k (bM (gL 1 f.st) 0) } r X sl fu st w w3;rw [List.append_nil];exact g3))
 case _=>
  have hnt:1<=f.st.length:=hnt;simp only [aF,Int.reduceEq,decide_true,decide_false,aE,aA];refine (UZ hh (by omega) hnt).mono λrv w2 ⟨hrv,g⟩=>?_;have g:=gG.of_ext x1 g
  exact fin2 g rfl (hR _ _ rfl (by
   show gG l p q { f with st:=jA 1 f.st++[] } r X sl fu st w w2;rw [List.append_nil];exact g))
 case _=>
  have hnt:1<=f.st.length:=hnt;simp only [aF,Int.reduceEq,decide_true,decide_false,aE,aA];refine (UZ hh (by omega) hnt).mono λrv w2 ⟨hrv,p2,q2,h2,s2⟩=>?_;subst hrv;have hl2:(jA 1 f.st).length<=8:=by rw [lZ];omega
  rw [<- s2.pf];refine (nU h2 (by show (jA 1 f.st).length<=_;omega)).mono λ_ w3 g3=>?_;obtain ⟨p3,q3,h3,s3⟩:=gG.after s2 g3;rw [s2.pf,<- s3.pf];refine (nU h3 (by show (jA 1 f.st++[_]).length<=_;rw [List.length_append];simp;omega)).mono λ_ w4 g4=>?_;have g4:=gG.of_ext x1 (gG.after s3 g4);rw [s3.pf]
  exact fin2 g4 rfl (hR _ _ rfl (by
   show gG l p q { f with st:=jA 1 f.st++[bM (gL 1 f.st) 0,bM (gL 1 f.st) 0] } r X sl fu st w w4;simpa [List.append_assoc] using g4))
 case _=>
  have hb':=hbin;unfold iV at hbin;simp only [aF,show ¬ op=23 by omega,show ¬ op=24 by omega,show ¬ op=1 by omega,show ¬ op=2 by omega,show ¬ op=3 by omega,show ¬ op=4 by omega,show ¬ op=5 by omega,show ¬ op=25 by omega,show ¬ op=35 by omega,show ¬ op=33 by omega,show ¬ op=34 by omega,decide_false,aA]
  have ea:bA (f.img l) (f.me l) ⟨op,a,b⟩=[-2,-2]:=by
   simp only [bA];rw [if_neg (by omega),if_neg (by omega),if_neg (by omega),if_neg (by omega),if_pos hb']
  have eN:tB op=2:=by unfold tB;rw [if_neg (by omega),if_neg (by omega)]
  rw [ea] at hnt hR;have hnt:2<=f.st.length:=hnt;refine bB hb.boxed bV aJ rfl ?_;refine (VA (.inl hb') hh (by omega) (by rw [eN];exact hnt) h32).mono λrv w2 ⟨hrv,p2,q2,h2,s2⟩=>?_;subst hrv;rw [eN] at h2;have hl2:(jA 2 f.st).length<=8:=by rw [lZ];omega
  rw [<- s2.pf,eN];refine (nU h2 (by show (jA 2 f.st).length<=_;omega)).mono λ_ w3 g3=>?_;have g3:=gG.of_ext x1 (gG.after s2 g3);rw [s2.pf]
  have e1:qE ⟨op,a,b⟩ f r.fd (gL 2 f.st)=[EL op (gL 2 f.st)]:=by
   have:EL op (gL 2 f.st)=oU op (bM (gL 2 f.st) 0) (bM (gL 2 f.st) 1):=by unfold EL;rw [if_neg (by omega),if_neg (by omega)]
   rw [this];simp only [qE]
   repeat rw [if_neg (by omega)]
  have e2:JH ⟨op,a,b⟩ f.pc (gL 2 f.st)=f.pc+1:=by simp only [JH];rw [if_neg (by omega),if_neg (by omega)]
  have e3:zA ⟨op,a,b⟩ f.loc (gL 2 f.st)=f.loc:=by simp only [zA];rw [if_neg (by omega)]
  have e4:fdP ⟨op,a,b⟩ f.who r.fd (gL 2 f.st)=r.fd:=by simp only [fdP];rw [if_neg (by omega)]
  refine fin2 g3 rfl (hR _ _ ?_ ?_)
  ·rw [show ([-2,-2]:List Int).length=2 from rfl,e2]
  ·rw [show ([-2,-2]:List Int).length=2 from rfl,e1,e3,e4];exact g3
 case _=>
  have hnt:1<=f.st.length:=hnt;simp only [aF,Int.reduceEq,decide_false,aA];refine bB hb.boxed bV aJ rfl ?_;refine (VA (op:=15) (.inr (.inl rfl)) hh (by omega) hnt h32).mono λrv w2 ⟨hrv,p2,q2,h2,s2⟩=>?_;subst hrv;have hl2:(jA 1 f.st).length<=8:=by rw [lZ];omega
  rw [<- s2.pf];refine (nU h2 (by show (jA 1 f.st).length<=_;omega)).mono λ_ w3 g3=>?_;have g3:=gG.of_ext x1 (gG.after s2 g3);rw [s2.pf];exact fin2 g3 rfl (hR _ _ rfl g3)
 case _=>
  have hnt:1<=f.st.length:=hnt;simp only [aF,Int.reduceEq,decide_false,aA];refine bB hb.boxed bV aJ rfl ?_;refine (VA (op:=16) (.inr (.inr (.inl rfl))) hh (by omega) hnt h32).mono λrv w2 ⟨hrv,p2,q2,h2,s2⟩=>?_;subst hrv;have hl2:(jA 1 f.st).length<=8:=by rw [lZ];omega
  rw [<- s2.pf];refine (nU h2 (by show (jA 1 f.st).length<=_;omega)).mono λ_ w3 g3=>?_;have g3:=gG.of_ext x1 (gG.after s2 g3);rw [s2.pf];exact fin2 g3 rfl (hR _ _ rfl g3)
 case _=>omega
 case _=>omega
 case _=>
  have hnt:3<=f.st.length:=hnt;simp only [aF,Int.reduceEq,decide_false,aA];refine bB hb.boxed bV aJ rfl ?_;refine (VA (op:=22) (.inr (.inr (.inr (.inr rfl)))) hh (by omega) hnt h32).mono λrv w2 ⟨hrv,p2,q2,h2,s2⟩=>?_;subst hrv;have hl2:(jA 3 f.st).length<=8:=by rw [lZ];omega
  rw [<- s2.pf];refine (nU h2 (by show (jA 3 f.st).length<=_;omega)).mono λ_ w3 g3=>?_;have g3:=gG.of_ext x1 (gG.after s2 g3);rw [s2.pf];exact fin2 g3 rfl (hR _ _ rfl g3)
 case _=>
  have ha0:0<=a:=hxr.2.1;simp only [aF,Int.reduceEq,decide_true,decide_false,aE,aA];refine bB hb.boxed bC aJ rfl (hR _ _ ?_ ?_)
  ·have e:JH ⟨23,a,b⟩ f.pc (gL 0 f.st)=a.toNat:=rfl;have:i64 a=i64 ((a.toNat:Nat):Int):=by congr 1;omega
   rw [this];rfl
  ·show gG l p q { f with st:=jA 0 f.st++[] } r X sl fu st w w1;rw [QJ,List.append_nil];exact gG.of_ext x1 hh.go
 case _=>
  have ha0:0<=a:=hxr.2.1;have hnt:1<=f.st.length:=hnt;simp only [aF,Int.reduceEq,decide_true,decide_false,aE,aA];refine (UZ hh (by omega) hnt).mono λrv w2 ⟨hrv,p2,q2,h2,s2⟩=>?_;subst hrv;have g:=gG.of_ext x1 (⟨p2,q2,h2,s2⟩:gG l p q { f with st:=jA 1 f.st } r X sl fu st w1 w2);have hg:gG l p q { f with st:=jA 1 f.st++[] } r X sl fu st w w2:=by rw [List.append_nil];exact g
  have hb2:=s2.fr.blk hb (hbn hh s2);refine aT.2 (aL (λhne=>?_) λheq=>?_)
  ·refine bB hb2.boxed bC aJ rfl (hR _ _ ?_ hg)
   have e:JH ⟨24,a,b⟩ f.pc (gL 1 f.st)=a.toNat:=by
    simp only [JH];rw [if_neg (by decide),if_pos trivial,if_neg hne]
   show i64 a=i64 ((JH ⟨24,a,b⟩ f.pc (gL 1 f.st):Nat):Int);rw [e];congr 1;omega
  ·refine fin2 g rfl (hR _ _ ?_ hg)
   have e:JH ⟨24,a,b⟩ f.pc (gL 1 f.st)=f.pc+1:=by
    simp only [JH];rw [if_neg (by decide),if_pos trivial,if_pos (Classical.not_not.1 heq)]
   show i64 ((f.pc+1:Nat):Int)=i64 ((JH ⟨24,a,b⟩ f.pc (gL 1 f.st):Nat):Int);rw [e]
 case _=>
  simp only [aF,Int.reduceEq,decide_true,decide_false,aE,aA];refine (nU hh (by omega)).mono λ_ w2 g=>?_;refine fin2 (gG.of_ext x1 g) rfl (hR _ _ rfl ?_);have e:jA 0 f.st=f.st:=QJ _;show gG l p q { f with st:=jA 0 f.st++[0] } r X sl fu st w w2;rw [e];exact gG.of_ext x1 g
 case _=>
  have hnt:1<=f.st.length:=hnt;simp only [aF,Int.reduceEq,decide_false,aA];refine bB hb.boxed bV aJ rfl ?_;refine (VA (op:=26) (.inr (.inr (.inr (.inl rfl)))) hh (by omega) hnt h32).mono λrv w2 ⟨hrv,p2,q2,h2,s2⟩=>?_;subst hrv;have hl2:(jA 1 f.st).length<=8:=by rw [lZ];omega
  rw [<- s2.pf];refine (nU h2 (by show (jA 1 f.st).length<=_;omega)).mono λ_ w3 g3=>?_;have g3:=gG.of_ext x1 (gG.after s2 g3);rw [s2.pf];exact fin2 g3 rfl (hR _ _ rfl g3)
 case _=>omega
 case _=>omega
 case _=>omega
 case _=>omega
 case _=>omega
 case _=>omega
 case _=>
  have ha0:0<=a:=hxr.2.1;have hal:a < ((f.img l).fields.length:Int):=hnm;have hrow:=hfd.row _ hwho;have hrl:(r.fd.getD f.who []).length=(f.img l).fields.length:=hrow.1;obtain ⟨k,rfl,hk⟩:=BM (l:=r.fd.getD f.who []) ha0 (by omega);simp only [aF,Int.reduceEq,decide_true,decide_false,aE,aA];have D1:aG w1 w1.drew:=(aG.refl _).drew;refine aI.mk' (SG l p q f X sl fu st w1) (hh.sg D1) ⟨.inl ⟨_,rfl⟩,?_⟩;refine yMa (λ_ h=>h) cL eY (u:=lC p.rp) rfl ⟨.inl ⟨_,rfl⟩,?_⟩;refine yFr (λ_ h=>h) cE aJ (by decide) (u:=i64 (f.who:Int)) rfl ?_;refine dU (λw' hw=>(SG.blk hh hb (hbn hh (jE.of_ext (aG.refl _))) hw).boxed) bC aJ rfl ?_;have hD:=hh.ext D1;refine (FN hD.room.room hD.fld (by have:=hfd.len;omega) hk).mono λrv w2 ⟨hrv,hw⟩=>?_;subst hrv;have hw:=hw.symm;subst hw;refine ⟨hh.sg D1,aB.ok (λw' _=>fQ) (aB.ok (λw' _=>fP) ?_)⟩;refine (nU hD (by omega)).mono λ_ w2 g=>?_;have g:=gG.of_ext D1 g;refine fin2 (gG.of_ext x1 g) rfl (hR _ _ rfl ?_);have e:jA 0 f.st=f.st:=QJ _;show gG l p q { f with st:=jA 0 f.st++[(r.fd.getD f.who []).getD k 0] } r X sl fu st w w2;rw [e];exact gG.of_ext x1 g
 case _=>
  have ha0:0<=a:=hxr.2.1;have hal:a < ((f.img l).fields.length:Int):=hnm;have hrow:=hfd.row _ hwho;have hrl:(r.fd.getD f.who []).length=(f.img l).fields.length:=hrow.1;obtain ⟨k,rfl,hk⟩:=BM (l:=r.fd.getD f.who []) ha0 (by omega);have hnt:1<=f.st.length:=hnt;simp only [aF,Int.reduceEq,decide_true,decide_false,aE,aA];have D1:aG w1 w1.drew:=(aG.refl _).drew;refine aI.mk' (SG l p q f X sl fu st w1) (hh.sg D1) ⟨.inl ⟨_,rfl⟩,?_⟩;refine yMa (λ_ h=>h) cL eY (u:=lC p.rp) rfl ⟨.inl ⟨_,rfl⟩,?_⟩;refine yFr (λ_ h=>h) cE aJ (by decide) (u:=i64 (f.who:Int)) rfl ?_;refine dU (λw' hw=>(SG.blk hh hb (hbn hh (jE.of_ext (aG.refl _))) hw).boxed) bC aJ rfl ?_;refine (UZ (hh.ext D1) (by omega) hnt).mono λrv w2 ⟨hrv,g⟩=>?_;subst hrv;have g:=gG.of_ext D1 g;refine ⟨g.sg,?_⟩;obtain ⟨p2,q2,h2,s2⟩:=g;have erm:lC p.rp=.pointer (some ⟨p2.rp.rb,0,none⟩):=by unfold lC;rw [s2.rb]
  rw [erm];refine (DV h2.room.room h2.fld (by have:=hfd.len;show f.who < r.fd.length;omega) hk).mono λrv w3 ⟨hrv,hf3,F3⟩=>?_;have g3:=gG.after s2 (h2.fieldS hf3 F3);refine ⟨g3.sg,fin2 (gG.of_ext x1 g3) rfl (hR _ _ rfl ?_)⟩;show gG l p q { f with st:=jA 1 f.st++[] } { r with fd:=r.fd.set f.who ((r.fd.getD f.who []).set k (bM (gL 1 f.st) 0)) } X sl fu st w w3;rw [List.append_nil];exact gG.of_ext x1 g3
 case _=>
  simp only [aF,Int.reduceEq,decide_true,decide_false,aE,aA];refine bB hb.boxed bC aJ rfl ?_;refine V.ok (bG underlying3 underlying21) ?_;have ha:1<=a/\a<=2:=⟨hxr.2.1,hxr.2.2.1⟩;rw [show IntKind.i32.wrap a=a by simp only [IntKind.wrap_i32];omega];refine (nU hh (by omega)).mono λ_ w2 g=>?_;refine fin2 (gG.of_ext x1 g) rfl (hR _ _ rfl ?_);have e:jA 0 f.st=f.st:=QJ _;show gG l p q { f with st:=jA 0 f.st++[a] } r X sl fu st w w2;rw [e];exact gG.of_ext x1 g
 case _=>omega
 case _=>omega
 case _=>omega
 case _=>omega
end
def oB (op:Int):Nat:=if op=27\/op=28 then 1 else if op=17\/op=18\/op=29 then 2 else if op=30\/op=36 then 3 else 5
theorem rU {op:Int} (h:eV op):op=17\/op=18\/op=27\/op=28\/op=29\/op=30\/op=31\/op=32\/op=36:=by unfold eV at h;omega
theorem BF {i:bF} {m:fV} {x:fO} (h:eV x.op):(bA i m x).length=oB x.op:=by
 obtain ⟨op,a,b⟩:=x;have h:=rU h;dsimp only at h;rcases h with rfl|rfl|rfl|rfl|rfl|rfl|rfl|rfl|rfl<;>rfl
theorem DX {x:fO} (hr:x.right) (h:eV x.op) (who:Int) {t:List Int} (ht:t.length=oB x.op) (h32:gE t):rR x.op who x.a x.b (oB x.op) t λs=>fG s who x t:=by
 obtain ⟨op,a,b⟩:=x;have h:=rU h;dsimp only at *;rcases h with rfl|rfl|rfl|rfl|rfl|rfl|rfl|rfl|rfl
 ·match t,ht with
  | [x0,x1],_=>exact aEy h32
 ·match t,ht with
  | [x0,x1],_=>exact aEx h32
 ·match t,ht with
  | [x0],_=>
   have h1:3<=a:=hr.2.1;have h2:a<=4:=hr.2.2.1;have h3:(0<=b/\b<=2)\/(4<=b/\b<=6):=hr.2.2.2;exact aEw h32 (by omega) (by omega)
 ·match t,ht with
  | [x0],_=>exact aEv h32
 ·match t,ht with
  | [x0,x1],_=>exact aEu h32
 ·match t,ht with
  | [x0,x1,x2],_=>exact aEt h32
 ·match t,ht with
  | [x0,x1,x2,x3,x4],_=>exact aEs h32
 ·match t,ht with
  | [x0,x1,x2,x3,x4],_=>exact aEr h32
 ·match t,ht with
  | [x0,x1,x2],_=>exact aEq h32
theorem QR {op:Int} (h:eV op) {w:Ω}:aD prog 94 #[i64 op] w λr w'=>r=i64 (oB op:Int)/\w'=w:=by
 rcases rU h with rfl|rfl|rfl|rfl|rfl|rfl|rfl|rfl|rfl
 ·exact MQ
 ·exact MP
 ·exact MO
 ·exact MN
 ·exact MM
 ·exact ML
 ·exact MK
 ·exact MJ
 ·exact MH
section
variable {l:List bF} {p p1:iG} {q q1:FP} {f f1:iK} {r:Rm} {X:Nat->Prop} {sl:O} {fu st:Int} {w w1 w':Ω}
theorem Wh.wm_lt (h:Wh l p q f r X sl fu st w):∀ i,WM p q i->i < w.heap.size:=λi hi=>by
 rcases hi with hi|hi|hi|hi
 ·exact h.sep.lt .rm i hi
 ·exact h.sep.lt .fd i hi
 ·exact h.sep.lt .mb i hi
 ·exact h.sep.lt .fr i (.inl hi)
theorem aMl (h:Wh l p q f r X sl fu st w) {x:fO} (hx:x.right) (hs:eV x.op) (hnt:oB x.op<=f.st.length) (h8:f.st.length<=8) (h32:gE f.st) (hpc:f.pc<=1000) (htr:r.ps.tr.length<=99000) {S:AZ} (hS:S=fG r.ps f.who x (gL (oB x.op) f.st)) :
  aD prog 95 #[pm p,pf q,.agg #[i64 x.op,i64 x.a,i64 x.b],i64 (oB x.op:Int)] w λrv w'=>rv=i64 S.2.1 /\
   (S.2.1=36864->gG l p q { f with st:=jA (oB x.op) f.st++(if jF x.op then [] else [S.1]),pc:=f.pc+1 } { r with ps:=S.2.2 } X sl fu st w w') /\
   (S.2.1≠36864->gG l p q { f with st:=jA (oB x.op) f.st } { r with ps:=S.2.2 } X sl fu st w w'):=by
 apply aQc
 suffices key:∀ R:O->Ω->Prop,(∀ w',S.2.1=36864->gG l p q { f with st:=jA (oB x.op) f.st++(if jF x.op then [] else [S.1]),pc:=f.pc+1 } { r with ps:=S.2.2 } X sl fu st w w'->R (i64 36864) w')->(∀ w',S.2.1≠36864->gG l p q { f with st:=jA (oB x.op) f.st } { r with ps:=S.2.2 } X sl fu st w w'->R (i64 S.2.1) w') ->
   CL (pm p) (pf q) (.agg #[i64 x.op,i64 x.a,i64 x.b]) (i64 (oB x.op:Int)) w R from key _ (λw' h1 h2=>⟨by rw [h1],λ_=>h2,λhn=>absurd h1 hn⟩) λw' h1 h2=>⟨rfl,λhn=>absurd hn h1,λ_=>h2⟩
 intro R hR1 hR2;unfold CL;refine sO λw1 hb x1=>?_;have hb:aY w1 w.heap.size [i64 x.op,i64 x.a,i64 x.b] 70:=hb;have hh:=h.ext x1;have hbn:¬ WM p q w.heap.size:=λhm=>by have:=h.wm_lt _ hm;omega
 have D1:aG w1 w1.drew:=(aG.refl _).drew;have hG:=λ(w':Ω) (hw:SG l p q f X sl fu st w1 w')=>SG.blk hh hb hbn hw;refine aI.mk' (SG l p q f X sl fu st w1) (hh.sg D1) ⟨.inl ⟨_,rfl⟩,?_⟩;refine yMa (λ_ h=>h) cL eY (u:=lC p.rp) rfl ⟨.inl ⟨_,rfl⟩,?_⟩;refine yMa (λ_ h=>h) dT rL (u:=rH p.rp) rfl ⟨.inl ⟨_,rfl⟩,?_⟩;refine yFr (λ_ h=>h) cE aJ (by decide) (u:=i64 (f.who:Int)) rfl ?_;refine dU (λw' hw=>(hG w' hw).boxed) bV aJ rfl ?_;refine dU (λw' hw=>(hG w' hw).boxed) bC aJ rfl ?_;refine dU (λw' hw=>(hG w' hw).boxed) nZ aJ rfl ?_;refine (aNg (hh.ext D1) (by omega) hnt).mono λrv w2 ⟨ho,g⟩=>?_;have g:=gG.of_ext D1 g;refine ⟨g.sg,?_⟩;obtain ⟨p2,q2,h2,s2⟩:=g;have ht:=(CA h32 (oB x.op)).1;have htl:(gL (oB x.op) f.st).length=oB x.op:=nS hnt;have hA:=DX hx hs f.who htl ht;have erm:lC p.rp=lC p2.rp:=by unfold lC;rw [s2.rb]
 have etb:rH p.rp=rH p2.rp:=by unfold rH;rw [s2.tb]
 rw [erm,etb];refine (hA.prg h2.room (by have:=h2.rps;have e:p2.rp.tr=r.ps.tr:=congrArg PS.tr this;rw [e];exact htr) (aC.of_own ho)).mono λrv w3 ⟨rp3,hrv,hps,ht3,st3⟩=>?_;subst hrv;rw [h2.rps,<- hS] at hps ⊢;have g3:=gG.after s2 (h2.roomS (r':={ r with ps:=S.2.2 }) ht3 st3 hps rfl);refine ⟨g3.sg,aB.ok (λw' _=>fQ) (aB.ok (λw' _=>fP) ?_)⟩;refine aT.2 (aL (λhne=>hR2 _ hne (gG.of_ext x1 g3)) λheq=>?_);have heq:S.2.1=36864:=Classical.not_not.1 heq;have hb3:=hG _ g3.sg;obtain ⟨p3,q3,h3,s3⟩:=g3;refine ⟨λw'=>gG l p q { f with st:=jA (oB x.op) f.st++(if jF x.op then [] else [S.1]) } { r with ps:=S.2.2 } X sl fu st w1 w',?_,?_⟩
 ·refine bB hb3.boxed bV aJ rfl ?_;refine ⟨λv w'=>v=.bool (decide (jF x.op))/\w'=w3,?_,?_⟩
  ·refine aF.2 (aL (λh30=>⟨by rw [decide_eq_true h30,decide_eq_true (.inl h30)],rfl⟩) λn30=>?_);refine aF.2 (aL (λh31=>⟨by rw [decide_eq_true h31,decide_eq_true (.inr (.inl h31))],rfl⟩) λn31=>?_);refine aF.2 ⟨?_,rfl⟩
   congr 1
   have:jF x.op↔x.op=36:=by unfold jF;omega
   simp [this]
  rintro _ w4 ⟨rfl,hw⟩ _;have hw:=hw.symm;subst hw;refine aL (λh0=>?_) λh0=>?_
  ·rw [if_pos h0,List.append_nil];exact ⟨p3,q3,h3,s3⟩
  ·rw [if_neg h0,<- s3.pf];have hul:(jA (oB x.op) f.st).length<=8:=by rw [lZ];omega
   exact (nU h3 (by show (jA (oB x.op) f.st).length<=_;omega)).mono λ_ w4 g4=>gG.after s3 g4
 rintro w4 ⟨p4,q4,h4,s4⟩ _;have e:pf q=.pointer (some ⟨q4.fb,0,none⟩):=by unfold pf;rw [s4.fb]
 rw [e];refine ⟨.inl ⟨_,rfl⟩,kK cC aJ h4.frm.box rfl (bT.2 ?_)⟩;rw [show IntKind.i64.wrap (((f.pc:Nat):Int)+1)=((f.pc+1:Nat):Int) from by rw [aX (by omega)];omega];refine ⟨.inl ⟨_,rfl⟩,?_⟩;refine fdA cC ?_;refine oP gP h4.frm.box (show 2 < 9 by decide) rfl ?_;have g5:=h4.setPc (f.pc+1);exact hR1 _ heq (gG.of_ext x1 (gG.after s4 g5))
end
section
variable {l:List bF} {p p1:iG} {q q1:FP} {f f1:iK} {r:Rm} {X:Nat->Prop} {sl:O} {fu st:Int} {w w1 w':Ω}
theorem Wh.trl (h:Wh l p q f r X sl fu st w):p.rp.tr=r.ps.tr:=congrArg PS.tr h.rps
theorem aTr (h:Wh l p q f r X sl fu st w) (htr:r.ps.tr.length<=100000) {e:vC}:aD prog 52 #[rH p.rp,i64 e.what,i64 e.a,i64 e.b,i64 e.c] w λ_ w'=>gG l p q f (r.ev e) X sl fu st w w':=by
 refine (OK h.room (by rw [h.trl];exact htr) (e:=e)).mono λ_ w2 ⟨tv',h2,s2,f2,_⟩=>?_;refine h.roomS h2 s2 ?_ rfl;show (⟨p.rp.size,p.rp.ar.map pa,p.rp.tp,p.rp.ts,p.rp.tr++[e]⟩:PS)=r.ps.ev [e];rw [<- h.rps];rfl
theorem aOr (h:Wh l p q f r X sl fu st w) (htr:r.ps.tr.length<=100000) {s:Int}:aD prog 51 #[pm p,i64 s] w λ_ w'=>gG l p q f (r.ends s) X sl fu s w w':=by
 apply aQv;unfold PC;refine ⟨.inl ⟨_,rfl⟩,?_⟩;refine fdA dS ?_;refine oP gP h.box (show 4 < 5 by decide) rfl ?_;obtain ⟨p2,q2,h2,s2⟩:=h.cell (j:=4) (u:=i64 s) (sl':=sl) (fu':=fu) (st':=s) (by decide) rfl;refine ⟨.inl ⟨_,rfl⟩,?_⟩;have e:pm p=.pointer (some ⟨p2.mb,0,none⟩):=by unfold pm;rw [s2.mb]
 rw [e];refine kK dT rL h2.box rfl ?_;exact (aTr h2 htr (e:=⟨5,s,0,0⟩)).mono λ_ w3 g=>gG.after s2 g
end
theorem aTg {P:Program} {w:Ω} {K:O->Ω->Prop} {t x sz B e n:Nat} {v:O} {xs l:List O} {i:Nat} (h:XA P t sz) (ht:∃ d z by_,P.underlying x=some d/\mP d=true/\cP P x z sz by_) (ho:w.ownsRow B e sz v n xs) (hi:i < n) (hl:(xs.drop (i*sz)).take sz=l) (hlen:l.length=sz) (hk:K (.agg l.toArray) w) :
  V P (Instr.indexAt t v (i64 (i:Int))) w λp w1=>V P (Instr.loadAt x p) w1 K:=
 aNr h ht (aC.of_own ho) (by omega) (by omega) (by simpa using hl) hlen hk
theorem WQ {w:Ω} {a b:Int} {r:Int} {p1 p2 p3 p4:Option Addr} {n1 n2 n3 n4 c1 c2 c3 c4:Nat} :
  (Instr.build 114 #[(0,i64 a),(1,i64 b),(3,.agg #[.slice p1 n1 c1,i64 r,.slice p2 n2 c2,.slice p3 n3 c3]),(4,.slice p4 n4 c4)]).run prog w=.ok (.agg #[i64 a,i64 b,i64 0,.slice p1 n1 c1,i64 r,.slice p2 n2 c2,.slice p3 n3 c3,.slice p4 n4 c4,.slice none 0 0]) w:=by kernel_rfl
theorem WK {l:List bF} (hT:pO l) {rb mb:Nat} {hv iv fv pub sec tbv sl:O} {fu st:Int} {w:Ω} {n:Nat} {ptrs:List O} (hr:lM w rb 0 [hv,iv,fv,pub,sec]) (hi:jL w iv l) (hb:lM w mb 0 [.pointer (some ⟨rb,0,none⟩),tbv,sl,i64 fu,i64 st]) (hsl:w.ownsRow 0 111 1 sl n ptrs) (hn:n<=100) (hsm:sl.ownBlock≠some mb)
  {to mth:Nat} (h1:to < l.length) (h2:mth < (aR l to).methods.length) {pv:O} {t:List Int} (hp:aC w pv 1 t.length (t.map i32)) (ht:t.length=((aR l to).meth mth).params.length) :
  aD prog 47 #[.pointer (some ⟨mb,0,none⟩),i64 (to:Int),i64 (mth:Int),pv] w λ_ w'=>∃ sl' qn,oX w' qn ((aR l to).meth mth) (oF l to mth t)/\(∀ i,pS qn i->w.heap.size<=i) /\
   lM w' mb 0 [.pointer (some ⟨rb,0,none⟩),tbv,sl',i64 fu,i64 st]/\w'.ownsRow 0 111 1 sl' (n+1) (ptrs++[pf qn])/\(∀ i,sl'.ownBlock=some i->sl.ownBlock=some i\/(w.heap.size<=i/\¬ pS qn i))/\Fr (λi=>i=mb\/sl.ownBlock=some i) w w':=by
 have hTt:=hT _ (gQ h1);have hmm:=meth_mem h2;have hMr:=hTt.1.2.2.1.2.1 _ hmm
 have hmth:(aR l to).methods[mth]?=some ((aR l to).meth (mth:Int)):=by
  unfold bF.meth;rw [Int.toNat_natCast,List.getD_eq_getElem?_getD,List.getElem?_eq_getElem h2];rfl
 have enew:oF l to mth t=⟨to,mth,0,t++List.replicate ((aR l to).meth mth).locals.length 0,[]⟩:=rfl;rw [enew];generalize hM:(aR l to).meth (mth:Int)=M at *;obtain ⟨⟨_,hp4⟩,_,⟨_,hl10⟩,⟨_,hc120⟩,_⟩:=hMr;apply aQy;unfold PF;refine ⟨.inl ⟨_,rfl⟩,?_⟩;refine kK cL eY hb rfl ?_;refine (xI hr hi hT h1).mono λrv w2 ⟨p2,hrv,hO,x2⟩=>?_;subst hrv;refine cH.2 (cG.2 ?_);refine zB DY rfl hO.one λw3 hb3 x3=>?_;have hb3:aY w3 w2.heap.size (p2.cells (aR l to)) 46:=hb3;refine bB hb3.boxed bK fS rfl ?_;obtain ⟨cm,hcm,hrm⟩:=hO.mt;obtain ⟨mpv,mlv,mcv,hrow,op,ol,oc⟩:=hrm mth M hmth;have x23:=x3;refine aTg (B:=w.heap.size) iB nW (x3.own hcm) h2 hrow rfl ?_;obtain ⟨a1,c1,e1⟩:=(aC.of_own op).shape;obtain ⟨a2,c2,e2⟩:=(aC.of_own ol).shape;obtain ⟨a3,c3,e3⟩:=(aC.of_own oc).shape;refine zB MT rfl (by rw [e1,e2,e3];rfl) λw4 hb4 x4=>?_;have hb4:aY w4 w3.heap.size [mpv,i64 M.result,mlv,mcv] 74:=hb4;have x24:=x3.trans x4;have x04:=x2.trans x24;have D4:aG w4 w4.drew:=(aG.refl _).drew;refine aI.mk' (λw'=>aG w4 w') D4 ?_;refine yA (λw' hw=>(hb4.ext hw).boxed) nW rfl ?_;refine dU (λw' hw=>(hb4.ext hw).boxed) fD aZ rfl ?_;rw [e1];refine aB.ok (λw' _=>kS underlying42) ?_;rw [<- e1];refine dU (λw' hw=>(hb4.ext hw).boxed) nY aZ rfl ?_;rw [e2];refine aB.ok (λw' _=>kS underlying42) ?_
 refine aB.ok (λw' _=>lG) ?_;have eN:IntKind.i64.wrap (((M.params.length:Nat):Int)+((M.locals.length:Nat):Int))=((M.params.length+M.locals.length:Nat):Int):=by rw [aX (by omega)];omega
 rw [eN];refine wX (n:=M.params.length+M.locals.length) rfl underlying37 tJ rfl (by omega) (by omega) λw5 hb5 x5 hs5=>?_;have x45:=D4.trans x5;refine ⟨x45,?_⟩;rw [e1,e3];refine aB.ok (λw' _=>WQ) ?_;have s2:=x2.size;have s3:=x3.size;have s4:=x4.size;have sD:=D4.size;have s5:=x5.size;have l3:=hb3.lt;have l4:=hb4.lt;have l5:=hb5.lt;refine sO λw6 hb6 x6=>?_;have hb6:aY w6 w5.heap.size [i64 (to:Int),i64 (mth:Int),i64 0,.slice a1 M.params.length c1,i64 M.result,.slice a2 M.locals.length c2,.slice a3 M.code.length c3,.slice (some ⟨w4.drew.heap.size,0,none⟩) (M.params.length+M.locals.length) (M.params.length+M.locals.length),.slice none 0 0] 114:=hb6;refine ⟨x45.trans x6,.inl ⟨_,rfl⟩,?_⟩;refine bB hb6.boxed dR lH rfl ?_;have hb56:=hb5.ext x6;have x46:=x45.trans x6;have x06:=x04.trans x46;have l6:=hb6.lt;obtain ⟨pa1,pc1,hpe⟩:=hp.shape;have hp6:=hp.ext x06;rw [hpe] at hp6 ⊢;refine cpB DJ hb56 (by simp) (by simp) (λ_=>hp6) (List.all_eq_true.2 λv hv=>by obtain ⟨x,_,rfl⟩:=List.mem_map.1 hv;rfl) λv7 w7 hb7 f7=>?_
 have eL:(t.map i32).take (min t.length (M.params.length+M.locals.length))++(List.replicate (M.params.length+M.locals.length) (i32 0)).drop (min t.length (M.params.length+M.locals.length))=(t++List.replicate M.locals.length 0).map i32:=by
  have hm:min t.length (M.params.length+M.locals.length)=t.length:=by omega
  rw [hm,List.take_of_length_le (by simp),List.drop_replicate,List.map_append,List.map_replicate,show M.params.length+M.locals.length - t.length=M.locals.length by omega]
 have hb7:aY w7 w4.drew.heap.size ((t++List.replicate M.locals.length 0).map i32) 21:=by rw [<- eL];exact hb7
 have hml:=hb.lt;have hbM:=f7.seg (hb.ext x06) (by show ¬ mb=_;omega);have hb67:=f7.blk hb6 (by show ¬ w5.heap.size=_;omega);have s6:=x6.size;have s7:=f7.size;have hsl7:=f7.own (x06.own hsl) λi hi he=>by have:=(hsl.lt i hi).2;omega
 refine ⟨.inl ⟨_,rfl⟩,?_⟩;refine kK bZ fH hbM rfl ?_;refine kC TC [.pointer (some ⟨w5.heap.size,0,none⟩)] rfl rfl (by simp) rfl λv8 w8 ho8 x8=>?_;refine apL TC (x8.own hsl7) ho8 (by decide) (by rfl) (by omega) (by unfold maxLen;omega) (Nat.zero_le _) λg' cap' w9 ho9 hg9 hlies=>?_;have f9:Fr (λi=>sl.ownBlock=some i) w8 w9:=Fr.of_grown hg9 λk hk=>hk;have s8:=x8.size;have s9:=f9.size;have hbM9:=f9.seg (hbM.ext x8) λhs=>hsm hs;refine ⟨.inl ⟨_,rfl⟩,?_⟩;refine fdA bZ ?_;refine oP KO hbM9 (show 2 < 5 by decide) rfl ?_;have f10:Fr (λi=>i=mb) w9 (w9.setCell ⟨mb,0+2,none⟩ (.slice (some ⟨g',0,none⟩) (n+1) cap')):=Fr.of_set rfl;have hbM10:=hbM9.set (j:=2) (by simp) (.slice (some ⟨g',0,none⟩) (n+1) cap');have hsll:∀ i,sl.ownBlock=some i->i < w.heap.size:=λi hi=>(hsl.lt i hi).2
 have F79:∀ {g:Nat} {cs:List O} {e:TypeId},aY w7 g cs e->w.heap.size<=g->aY (w9.setCell ⟨mb,0+2,none⟩ (.slice (some ⟨g',0,none⟩) (n+1) cap')) g cs e:=λ{g cs e} hbb hg=>
  f10.blk (f9.blk (hbb.ext x8) λhe=>by have:=hsll _ he;omega) (by omega)
 have O79:∀ {B e sz n':Nat} {v:O} {xs:List O},w7.ownsRow B e sz v n' xs->w.heap.size<=B->(w9.setCell ⟨mb,0+2,none⟩ (.slice (some ⟨g',0,none⟩) (n+1) cap')).ownsRow B e sz v n' xs:=λ{B e sz n' v xs} hbb hg=>
  f10.own (f9.own (x8.own hbb) λi hi he=>by have:=hsll _ he;have:=(hbb.lt i hi).1;omega) λi hi he=>by have:=(hbb.lt i hi).1;omega
 have oc7:=f7.own (x46.own (x4.own (x3.own oc))) λi hi he=>by have:=(oc.lt i hi).2;omega
 have hfr:=F79 hb67 (by omega);have hlo:=F79 hb7 (by omega)
 have hg':sl.ownBlock=some g'\/(w.heap.size<=g'/\g'≠w5.heap.size/\g'≠w4.drew.heap.size/\w7.heap.size<=g'):=by
  rcases hlies with hl|hl
  ·exact .inl hl
  ·exact .inr (by omega)
 rw [e3] at oc7 oc;refine ⟨_,⟨w5.heap.size,.slice (some ⟨w4.drew.heap.size,0,none⟩) (M.params.length+M.locals.length) (M.params.length+M.locals.length),.slice none 0 0,.slice a1 M.params.length c1,.slice a2 M.locals.length c2,.slice a3 M.code.length c3⟩,⟨hfr.seg,?_,World.ownsRow_nil _ _ _ _,aP (O79 oc7 (Nat.le_refl _)) (Nat.zero_le _),?_,?_,?_⟩,?_,hbM10,?_,?_,?_⟩
 ·have hlen:(t++List.replicate M.locals.length 0).length=M.params.length+M.locals.length:=by rw [List.length_append,List.length_replicate,ht]
  show World.ownsRow _ 0 21 1 _ (t++List.replicate M.locals.length 0).length _;rw [hlen];exact dX hlo (by simp [ht]) (Nat.zero_le _) (by unfold maxLen;omega)
 ·rintro i (hi|hi|hi)
  ·have:w4.drew.heap.size=i:=by simpa [Value.ownBlock] using hi
   show i≠w5.heap.size;omega
  ·cases hi
  ·have:=(oc.lt i hi).2;show i≠w5.heap.size;omega
 ·intro i hi;simp [Value.ownBlock]
 ·intro i hi;have:=(oc.lt i hi).2;refine ⟨λhe=>?_,by simp [Value.ownBlock]⟩;have:w4.drew.heap.size=i:=by simpa [Value.ownBlock] using he
  omega
 ·rintro i ((hi|hi|hi)|hi)
  ·have hi:i=w5.heap.size:=hi;omega
  ·have:w4.drew.heap.size=i:=by simpa [Value.ownBlock] using hi
   omega
  ·cases hi
  ·exact (oc.lt i hi).1
 ·have:=f10.own ho9 λi hi he=>by
   have hgi:g'=i:=by simpa [Value.ownBlock] using hi
   subst hgi;rcases hg' with h|h
   ·exact hsm (he▸h)
   ·omega
  exact this
 ·intro i hi;have hgi:g'=i:=by simpa [Value.ownBlock] using hi
  subst hgi;rcases hg' with h|⟨h1',h2',h3',h4'⟩
  ·exact .inl h
  ·refine .inr ⟨h1',?_⟩;rintro ((hi|hi|hi)|hi)
   ·exact h2' hi
   ·have:w4.drew.heap.size=g':=by simpa [Value.ownBlock] using hi
    omega
   ·cases hi
   ·have:=(oc.lt g' hi).2;omega
 ·have F7:aG w w7:=f7.ext x06 λi hi=>by have hi:i=w4.drew.heap.size:=hi;omega
  exact ((Fr.of_ext (S:=λi=>i=mb\/sl.ownBlock=some i) (F7.trans x8)).trans (f9.mono λi hi=>.inr hi) λ_ _ h=>h).trans (f10.mono λi hi=>.inl hi) λ_ _ h=>h
def Below (l:List bF) (w:Ω):List FP->List iK->Prop
 | [],[]=>True
 | q::qs,f::fs=>oX w q (f.me l) f/\Below l w qs fs
 | _,_=>False
theorem Below.len {l:List bF} {w:Ω}:∀ {qs:List FP} {fs:List iK},Below l w qs fs->qs.length=fs.length
 | [],[],_=>rfl
 | q::qs,f::fs,h=>by simp [Below.len h.2]
 | [],_::_,h=>h.elim
 | _::_,[],h=>h.elim
theorem Below.fr {l:List bF} {w w':Ω} {S:Nat->Prop} (g:Fr S w w'):∀ {qs:List FP} {fs:List iK},Below l w qs fs->(∀ a∈qs,∀ i,pS a i->¬ S i)->Below l w' qs fs
 | [],[],_,_=>trivial
 | q::qs,f::fs,h,hn=>⟨h.1.fr g (hn q (by simp)),Below.fr g h.2 λa ha=>hn a (by simp [ha])⟩
 | [],_::_,h,_=>h.elim
 | _::_,[],h,_=>h.elim
def BX (X0:Nat->Prop) (fg:Nat) (qs:List FP) (i:Nat):Prop:=X0 i\/i=fg\/∃ a∈qs,pS a i
structure cW (l:List bF) (X0:Nat->Prop) (p:iG) (fg fcap:Nat) (qs:List FP) (q:FP) (m:PM) (w:Ω):Prop where
 wh:Wh l p q m.f m.r (BX X0 fg qs) (.slice (some ⟨fg,0,none⟩) (qs.length+1) fcap) m.fuel 0 w
 row:w.ownsRow 0 111 1 (.slice (some ⟨fg,0,none⟩) (qs.length+1) fcap) (qs.length+1) ((q::qs).reverse.map pf)
 bel:Below l w qs m.fs
 bd:qs.Pairwise λa b=>∀ i,pS a i->¬ pS b i
 bf:∀ a∈qs,¬ pS a fg
 x0:∀ i,X0 i->i≠fg/\∀ a∈qs,¬ pS a i
def FZ (l:List bF) (X0:Nat->Prop) (p:iG) (m':PM) (w w':Ω):Prop:=∃ p' fg' fcap' qs' q',cW l X0 p' fg' fcap' qs' q' m' w'/\p'.mb=p.mb/\p'.rp.rb=p.rp.rb/\Fr (λi=>¬ X0 i) w w'
def aUe (l:List bF) (X0:Nat->Prop) (p:iG) (e:LW) (w:Ω):Prop:=∃ q f X a cap,Wh l p q f e.r X (.slice a e.depth cap) e.fuel e.s w/\∀ i,X0 i->X i
def EGo (l:List bF) (X0:Nat->Prop) (p:iG) (e:LW) (w w':Ω):Prop:=∃ p',aUe l X0 p' e w'/\p'.mb=p.mb/\p'.rp.rb=p.rp.rb/\Fr (λi=>¬ X0 i) w w'
section
variable {l:List bF} {X0:Nat->Prop} {p p1:iG} {fg fcap:Nat} {qs:List FP} {q q1:FP} {m:PM} {w w1 w':Ω}
theorem jE.fx {X:Nat->Prop} {f:iK} {r:Rm} {sl:O} {fu st:Int} (h:Wh l p q f r X sl fu st w) (s:jE p q p1 q1 w w1):Fr (λi=>¬ X i) w w1:=s.fr.mono λ_ hi hx=>h.other hx hi
theorem cW.len (h:cW l X0 p fg fcap qs q m w):qs.length=m.fs.length:=h.bel.len
theorem cW.top (h:cW l X0 p fg fcap qs q m w) {f':iK} {r':Rm} {fu':Nat} (h1:Wh l p1 q1 f' r' (BX X0 fg qs) (.slice (some ⟨fg,0,none⟩) (qs.length+1) fcap) fu' 0 w1) (s:jE p q p1 q1 w w1):cW l X0 p1 fg fcap qs q1 ⟨m.fs,f',fu',r'⟩ w1:=by
 have F:=jE.fx h.wh s;refine ⟨h1,?_,h.bel.fr F λa ha i hi hn=>hn (.inr (.inr ⟨a,ha,hi⟩)),h.bd,h.bf,h.x0⟩;have e:(q1::qs).reverse.map pf=(q::qs).reverse.map pf:=by simp [s.pf]
 rw [e];exact F.own h.row λi hi hn=>hn (.inr (.inl (by simpa [Value.ownBlock] using hi.symm)))
theorem cW.topGo (h:cW l X0 p fg fcap qs q m w) {f':iK} {r':Rm} {fu':Nat} (g:gG l p q f' r' (BX X0 fg qs) (.slice (some ⟨fg,0,none⟩) (qs.length+1) fcap) fu' 0 w w1):∃ p1 q1,cW l X0 p1 fg fcap qs q1 ⟨m.fs,f',fu',r'⟩ w1/\jE p q p1 q1 w w1:=by
 obtain ⟨p1,q1,h1,s⟩:=g;exact ⟨p1,q1,h.top h1 s,s⟩
theorem cW.fx (h:cW l X0 p fg fcap qs q m w) (s:jE p q p1 q1 w w1):Fr (λi=>¬ X0 i) w w1:=(jE.fx h.wh s).mono λ_ hn hx=>hn (.inl hx)
theorem aMc (h:cW l X0 p fg fcap qs q m w) (hd:m.fs.length < 8):aD prog 48 #[pm p] w λrv w'=>rv=pf q/\aG w w':=by
 have hl:=h.len;apply aQx;unfold PE;have D1:aG w w.drew:=(aG.refl _).drew;refine aI.mk' (λw'=>aG w w') D1 ⟨.inl ⟨_,rfl⟩,?_⟩;refine DI bZ fH (λw' hw=>h.wh.box.ext hw) rfl ⟨.inl ⟨_,rfl⟩,?_⟩;refine DI bZ fH (λw' hw=>h.wh.box.ext hw) rfl ?_;refine aB.ok (λw' _=>kS underlying107) ?_;refine aB.ok (λw' _=>nC) ?_;rw [show IntKind.i64.wrap (((qs.length+1:Nat):Int) - 1)=(qs.length:Int) from by rw [aX (by omega)];omega];refine gR aLy jC (aC.of_own h.row) (λw' hw=>hw) (by omega) (by omega) (u:=pf q) ?_ ⟨rfl,D1⟩;rw [Int.toNat_natCast,List.reverse_cons,List.map_append,List.getElem?_append_right (by simp)];simp
theorem aTo (hT:pO l) (h:cW l X0 p fg fcap qs q m w) (hd:m.fs.length < 8) (h8:m.f.st.length<=8) (_:gE m.f.st) (hpc:m.f.pc<=1000) {to mth:Nat} (h1:to < l.length) (h2:mth < (aR l to).methods.length) {n:Nat} (hn:n=((aR l to).meth mth).params.length) (hnt:n<=m.f.st.length) :
  aD prog 89 #[pm p,pf q,i64 (to:Int),i64 (mth:Int)] w λrv w'=>
   (8<=m.fs.length+1/\rv=i64 28422/\gG l p q { m.f with st:=jA n m.f.st } m.r (BX X0 fg qs) (.slice (some ⟨fg,0,none⟩) (qs.length+1) fcap) m.fuel 0 w w') \/
   (¬ 8<=m.fs.length+1/\rv=i64 36864/\FZ l X0 p ⟨{ m.f with st:=jA n m.f.st,pc:=m.f.pc+1 }::m.fs,oF l to mth (gL n m.f.st),m.fuel,m.r⟩ w w'/\∃ cs,lM w' q.fb 0 cs/\cs[0]?=some (i64 (m.f.who:Int))):=by
 have hl:=h.len;have hmr:=(hT _ (gQ h1)).1.2.2.1.2.1 _ (meth_mem h2)
 have hmth:(aR l to).methods[mth]?=some ((aR l to).meth (mth:Int)):=by
  unfold bF.meth;rw [Int.toNat_natCast,List.getD_eq_getElem?_getD,List.getElem?_eq_getElem h2];rfl
 apply aQi;unfold OS;refine ⟨.inl ⟨_,rfl⟩,?_⟩;refine kK cL eY h.wh.box rfl ?_;refine (xI h.wh.room.room h.wh.img.now hT h1).mono λrv w2 ⟨p2,hrv,hO,x2⟩=>?_;subst hrv;refine cH.2 (cG.2 ?_);refine zB DY rfl hO.one λw3 hb3 x3=>?_;have hb3:aY w3 w2.heap.size (p2.cells (aR l to)) 46:=hb3;refine bB hb3.boxed bK fS rfl ?_;refine pI (i:=mth) iB fD aZ (hO.at_.mt.ext x3) hmth λrow ⟨mpv,mlv,mcv,hrow,hmp,_,_⟩=>⟨mpv,by rw [hrow];rfl,by decide,?_⟩;refine gD aK hmp ?_;rw [<- hn];have x03:=x2.trans x3;refine (aNg (h.wh.ext x03) (by omega) hnt).mono λrv w4 ⟨ho,p4,q4,h4,s4⟩=>?_;have s04:=(jE.of_ext (p:=p) (q:=q) x03).trans s4;have e:pm p=.pointer (some ⟨p4.mb,0,none⟩):=by unfold pm;rw [s4.mb]
 have e2:pf q=.pointer (some ⟨q4.fb,0,none⟩):=by unfold pf;rw [s4.fb]
 rw [e,e2];refine ⟨.inl ⟨_,rfl⟩,?_⟩;refine kK bZ fH h4.box rfl (tN.2 (kF.2 (aL (λhge=>?_) λhlt=>?_)))
 ·exact .inl ⟨by omega,rfl,p4,q4,h4,s04⟩
 refine ⟨.inl ⟨_,rfl⟩,?_⟩;refine kK cC aJ h4.frm.box rfl (bT.2 ?_);rw [show IntKind.i64.wrap (((m.f.pc:Nat):Int)+1)=((m.f.pc+1:Nat):Int) from by rw [aX (by omega)];omega];refine ⟨.inl ⟨_,rfl⟩,?_⟩;refine fdA cC ?_;refine oP gP h4.frm.box (show 2 < 9 by decide) rfl ?_;have g5:=h4.setPc (m.f.pc+1)
 have ho5:=(Fr.of_set (w:=w4) (b:=q4.fb) (o:=0+2) (v:=i64 ((m.f.pc+1:Nat):Int)) (S:=λi=>i=q4.fb) rfl).own ho λi hi he=>by
  have h0:=(ho.lt i hi).1;have:=(h.wh.ext x03).frm.hi q.fb (.inl (.inl rfl));rw [he,s4.fb] at h0;omega
 generalize w4.setCell ⟨q4.fb,0+2,none⟩ (i64 ((m.f.pc+1:Nat):Int))=w5 at g5 ho5 ⊢;obtain ⟨p5,q5,h5,s5⟩:=g5;have s05:=s04.trans s5;have F5:=h.fx s05;have hX5:=jE.fx h.wh s05
 have row5:w5.ownsRow 0 111 1 (.slice (some ⟨fg,0,none⟩) (qs.length+1) fcap) (qs.length+1) ((q5::qs).reverse.map pf):=by
  have e:(q5::qs).reverse.map pf=(q::qs).reverse.map pf:=by simp [s05.pf]
  rw [e];exact hX5.own h.row λi hi hn=>hn (.inr (.inl (by simpa [Value.ownBlock] using hi.symm)))
 have bel5:=h.bel.fr hX5 λa ha i hi hn=>hn (.inr (.inr ⟨a,ha,hi⟩));have emb:p4.mb=p5.mb:=s5.mb.symm;rw [emb];have hfgm:fg≠p5.mb:=λhe=>by cases h5.sep.dj .ex .mb fg (.inr (.inl rfl)) he
 have htl:(gL n m.f.st).length=n:=nS hnt;refine (WK hT h5.room.room h5.img.now (show lM w5 p5.mb 0 [.pointer (some ⟨p5.rp.rb,0,none⟩),rH p5.rp,.slice (some ⟨fg,0,none⟩) (qs.length+1) fcap,i64 (m.fuel:Int),i64 0] from h5.box) row5 (by omega) (λhe=>hfgm (by simpa [Value.ownBlock] using he)) h1 h2 (pv:=rv) (t:=gL n m.f.st) (by rw [htl];exact aC.of_own ho5) (htl.trans hn)).mono λ_ w6 ⟨sl',qn,hq6,hnew,hb6,hr6,hsl6,F6⟩=>?_;refine .inr ⟨by omega,rfl,?_⟩
 suffices hM:FZ l X0 p ⟨{ m.f with st:=jA n m.f.st,pc:=m.f.pc+1 }::m.fs,oF l to mth (gL n m.f.st),m.fuel,m.r⟩ w w6 by
  refine ⟨hM,_,F6.seg (by rw [<- s05.fb];exact h5.frm.box) λhs=>?_,rfl⟩;rw [<- s05.fb] at hs;rcases hs with hs|hs
  ·cases h5.sep.dj .fr .mb _ (.inl (.inl rfl)) hs
  ·cases h5.sep.dj .fr .ex _ (.inl (.inl rfl)) (.inr (.inl (by simpa [Value.ownBlock] using hs.symm)))
 obtain ⟨g',cap',rfl⟩:=lS hr6 (by omega);have F6':Fr (λi=>i=p5.mb\/i=fg) w5 w6:=F6.mono λi hi=>hi.imp id λh=>by simpa [Value.ownBlock] using h.symm
 have s6:=F6.size;have nX:∀ {a:Lb} {i:Nat},WR p5 q5 (BX X0 fg qs) a i->a≠.mb->i≠p5.mb:=λ{a i} hi ha he=>ha (h5.sep.dj a .mb i hi he);have nF:∀ {a:Lb} {i:Nat},WR p5 q5 (BX X0 fg qs) a i->a≠.ex->i≠fg:=λ{a i} hi ha he=>ha (h5.sep.dj a .ex i hi (.inr (.inl he)));have n2:∀ {a:Lb} {i:Nat},WR p5 q5 (BX X0 fg qs) a i->a≠.mb->a≠.ex->¬ (i=p5.mb\/i=fg):=λhi h1 h2 h=>h.elim (nX hi h1) (nF hi h2);have rm6:=h5.room.fr F6' λi hs=>⟨λhm=>n2 (a:=.rm) (.inl hm) (by intro e;cases e) (by intro e;cases e) hs,λhm=>n2 (a:=.rm) (.inr hm) (by intro e;cases e) (by intro e;cases e) hs⟩;have fl6:=h5.fld.fr F6' (n2 (a:=.fo) rfl (by intro e;cases e) (by intro e;cases e)) λi hi=>n2 (a:=.fd) hi (by intro e;cases e) (by intro e;cases e);have im6:=h5.img.fr F6' λi hi=>n2 (a:=.im) hi (by intro e;cases e) (by intro e;cases e);have fr6:=h5.frm.fr F6' λi hi=>n2 (a:=.fr) hi (by intro e;cases e) (by intro e;cases e)
 have hg':g'=fg\/(w5.heap.size<=g'/\¬ pS qn g'):=by
  rcases hsl6 g' rfl with h|h
  ·exact .inl (by simpa [Value.ownBlock] using h.symm)
  ·exact .inr h
 have hgl:=(hr6.lt g' rfl).2;have old:∀ {a:Lb} {i:Nat},WR p5 q5 (BX X0 fg qs) a i->i < w5.heap.size:=λhi=>h5.sep.lt _ _ hi;have lq:∀ i,pS qn i->w5.heap.size<=i/\i < w6.heap.size:=λi hi=>⟨hnew i hi,hq6.hi i hi⟩;have eqs:qs.length+1+1=(q5::qs).length+1:=by simp
 refine ⟨p5,g',cap',q5::qs,qn,⟨⟨rm6,h5.rps,fl6,im6,by rw [<- eqs];exact hb6,hq6,⟨λa b i ha hb=>?_,λa i ha=>?_⟩⟩,?_,⟨fr6,?_⟩,?_,?_,?_⟩,s05.mb,s05.rb,?_⟩
 ·-- all apart
  have cls:∀ {a:Lb} {i:Nat},WR p5 qn (BX X0 g' (q5::qs)) a i->(a≠.fr/\a≠.ex/\WR p5 q5 (BX X0 fg qs) a i)\/(a=.fr/\pS qn i)\/(a=.ex/\(X0 i\/pS q5 i\/∃ c∈qs,pS c i))\/(a=.ex/\i=g'):=by
   intro a i hi;cases a with
   | fr=>exact .inr (.inl ⟨rfl,hi⟩)
   | ex=>
    rcases hi with h|h|⟨c,hc,h⟩
    ·exact .inr (.inr (.inl ⟨rfl,.inl h⟩))
    ·exact .inr (.inr (.inr ⟨rfl,h⟩))
    ·rcases List.mem_cons.1 hc with rfl|hc
     ·exact .inr (.inr (.inl ⟨rfl,.inr (.inl h)⟩))
     ·exact .inr (.inr (.inl ⟨rfl,.inr (.inr ⟨c,hc,h⟩)⟩))
   | _=>exact .inl ⟨(by intro e;cases e),(by intro e;cases e),hi⟩
  have exo:∀ {i:Nat},(X0 i\/pS q5 i\/∃ c∈qs,pS c i)->(pS q5 i\/BX X0 fg qs i):=λh=>by
   rcases h with h|h|h
   ·exact .inr (.inl h)
   ·exact .inl h
   ·exact .inr (.inr (.inr h))
  have exl:∀ {i:Nat},(X0 i\/pS q5 i\/∃ c∈qs,pS c i)->i < w5.heap.size:=λh=>by
   rcases exo h with h|h
   ·exact old (a:=.fr) h
   ·exact old (a:=.ex) h
  have main:∀ {a b:Lb} {i:Nat},WR p5 qn (BX X0 g' (q5::qs)) a i->WR p5 qn (BX X0 g' (q5::qs)) b i->a≠.fr->a≠.ex->a=b:=by
   intro a b i ha0 hb na1 na2;rcases cls ha0 with ⟨_,_,ha⟩|⟨e,_⟩|⟨e,_⟩|⟨e,_⟩
   ·rcases cls hb with ⟨_,_,hb'⟩|⟨_,hb'⟩|⟨_,hb'⟩|⟨_,hb'⟩
    ·exact h5.sep.dj a b i ha hb'
    ·have:=old ha;have:=(lq i hb').1;omega
    ·rcases exo hb' with hb'|hb'
     ·exact absurd (h5.sep.dj a .fr i ha hb') na1
     ·exact absurd (h5.sep.dj a .ex i ha hb') na2
    ·rcases hg' with h|h
     ·exact absurd (hb'.trans h) (nF ha na2)
     ·have:=old ha;omega
   ·exact absurd e na1
   iterate 2
    ·exact absurd e na2
  by_cases na1:a=.fr
  ·by_cases nb1:b=.fr
   ·rw [na1,nb1]
   ·by_cases nb2:b=.ex
    ·subst na1;subst nb2;exfalso;have ha:=lq i ha;rcases cls hb with ⟨_,h2,_⟩|⟨e,_⟩|⟨_,hb⟩|⟨_,hb⟩
     ·exact h2 rfl
     ·cases e
     ·have:=exl hb;omega
     ·subst hb;rcases hg' with h|h
      ·have:=old (a:=.ex) (i:=fg) (.inr (.inl rfl));omega
      ·exact h.2 ‹_›
    ·exact (main hb ha nb1 nb2).symm
  ·by_cases na2:a=.ex
   ·by_cases nb1:b=.fr
    ·subst na2;subst nb1;exfalso;have hb':=lq i hb;rcases cls ha with ⟨_,h2,_⟩|⟨e,_⟩|⟨_,ha⟩|⟨_,ha⟩
     ·exact h2 rfl
     ·cases e
     ·have:=exl ha;omega
     ·subst ha;rcases hg' with h|h
      ·have:=old (a:=.ex) (i:=fg) (.inr (.inl rfl));omega
      ·exact h.2 hb
    ·by_cases nb2:b=.ex
     ·rw [na2,nb2]
     ·exact (main hb ha nb1 nb2).symm
   ·exact main ha hb na1 na2
 ·cases a with
  | fr=>exact (lq i ha).2
  | ex=>
   rcases ha with h|h|⟨c,hc,h⟩
   ·have:=old (a:=.ex) (i:=i) (.inl h);omega
   ·subst h;exact hgl
   ·rcases List.mem_cons.1 hc with rfl|hc
    ·have:=old (a:=.fr) (i:=i) h;omega
    ·have:=old (a:=.ex) (i:=i) (.inr (.inr ⟨c,hc,h⟩));omega
  | rm=>have:=old (a:=.rm) (i:=i) ha;omega
  | im=>have:=old (a:=.im) (i:=i) ha;omega
  | fo=>have:=old (a:=.fo) (i:=i) ha;omega
  | fd=>have:=old (a:=.fd) (i:=i) ha;omega
  | mb=>have:=old (a:=.mb) (i:=i) ha;omega
 ·rw [<- eqs];have e:(qn::q5::qs).reverse.map pf=(q5::qs).reverse.map pf++[pf qn]:=by simp
  rw [e];exact hr6
 ·exact bel5.fr F6' λa ha i hi hs=>by
   rcases hs with hs|hs
   ·exact nX (a:=.ex) (.inr (.inr ⟨a,ha,hi⟩)) (by intro e;cases e) hs
   ·exact h.bf a ha (hs▸hi)
 ·refine List.pairwise_cons.2 ⟨λb hb i hi hb'=>?_,h.bd⟩;cases h5.sep.dj .fr .ex i hi (.inr (.inr ⟨b,hb,hb'⟩))
 ·intro a ha hi;rcases hg' with hge|hge
  ·subst hge;rcases List.mem_cons.1 ha with rfl|ha
   ·exact nF (a:=.fr) hi (by intro e;cases e) rfl
   ·exact h.bf a ha hi
  ·rcases List.mem_cons.1 ha with rfl|ha
   ·have:=old (a:=.fr) hi;omega
   ·have:=old (a:=.ex) (.inr (.inr ⟨a,ha,hi⟩));omega
 ·intro i hi;have hil:=old (a:=.ex) (i:=i) (.inl hi);refine ⟨λhe=>?_,λa ha hfa=>?_⟩
  ·subst he;rcases hg' with h'|h'
   ·exact (h.x0 _ hi).1 h'
   ·omega
  ·rcases List.mem_cons.1 ha with rfl|ha
   ·cases h5.sep.dj .fr .ex i hfa (.inl hi)
   ·exact (h.x0 i hi).2 a ha hfa
 ·refine F5.trans (F6'.mono λi hi hx=>?_) λ_ _ h=>h;rcases hi with hi|hi
  ·exact nX (a:=.ex) (.inl hx) (by intro e;cases e) hi
  ·exact (h.x0 i hx).1 hi
end
theorem aCu {P:Program} {w:Ω} {t e:TypeId} {z:O} {by_:Nat} (ht:P.underlying t=some (.slice e)) (hi:Go.Vc.cP P e z 1 by_) {g n cap a:Nat} (ha:a<=n) (hn:n<=cap) :
  (Instr.sliceAt t (.slice (some ⟨g,0,none⟩) n cap) none (some (.int .i64 (a:Int))) none).run P w=.ok (.slice (some ⟨g,0,none⟩) a cap) w:=by
 have hc:a<=cap:=by omega
 simp [Instr.sliceAt,Instr.slice,run_underlying ht,dN hi,Instr.sliceBounds,Instr.sliceBound,asIntOf,hc,fL]
theorem aDe {w:Ω} {B e sz n g cap:Nat} {xs:List O} (h:w.ownsRow B e sz (.slice (some ⟨g,0,none⟩) n cap) n xs):n<=cap:=by
 rcases h.2 with ⟨he,_⟩|⟨_,_,_,he,_,_,h2,_⟩
 ·cases he
 ·cases he;exact h2
section
variable {l:List bF} {X0 Y0:Nat->Prop} {p p1:iG} {fg fcap:Nat} {qs:List FP} {q q1:FP} {m:PM} {w w1 w':Ω}
theorem Sep.sub {R R':Lb->Nat->Prop} {n:Nat} (h:Sep R n) (hs:∀ a i,R' a i->R a i):Sep R' n:=⟨λa b i ha hb=>h.dj a b i (hs a i ha) (hs b i hb),λa i ha=>h.lt a i (hs a i ha)⟩
theorem Wh.weak {f:iK} {r:Rm} {X Y:Nat->Prop} {sl:O} {fu st:Int} (h:Wh l p q f r X sl fu st w) (hs:∀ i,Y i->X i):Wh l p q f r Y sl fu st w:=
 ⟨h.room,h.rps,h.fld,h.img,h.box,h.frm,h.sep.sub λa i ha=>by
  cases a with
  | ex=>exact hs i ha
  | _=>exact ha⟩
theorem cW.weak (h:cW l X0 p fg fcap qs q m w) (hs:∀ i,Y0 i->X0 i):cW l Y0 p fg fcap qs q m w:=
 ⟨h.wh.weak λi hi=>hi.imp (hs i) id,h.row,h.bel,h.bd,h.bf,λi hi=>h.x0 i (hs i hi)⟩
theorem cW.go (h:cW l X0 p fg fcap qs q m w):FZ l X0 p m w w:=⟨p,fg,fcap,qs,q,h,rfl,rfl,Fr.refl _ _⟩
theorem FZ.after {m':PM} (hmb:p1.mb=p.mb) (hrb:p1.rp.rb=p.rp.rb) (F:Fr (λi=>¬ X0 i) w w1) (g:FZ l X0 p1 m' w1 w'):FZ l X0 p m' w w':=by
 obtain ⟨p',a,b,c,d,h1,h2,h3,h4⟩:=g;exact ⟨p',a,b,c,d,h1,h2.trans hmb,h3.trans hrb,F.trans h4 λ_ _ h=>h⟩
theorem EGo.after {e:LW} (hmb:p1.mb=p.mb) (hrb:p1.rp.rb=p.rp.rb) (F:Fr (λi=>¬ X0 i) w w1) (g:EGo l X0 p1 e w1 w'):EGo l X0 p e w w':=by
 obtain ⟨p',h1,h2,h3,h4⟩:=g;exact ⟨p',h1,h2.trans hmb,h3.trans hrb,F.trans h4 λ_ _ h=>h⟩
theorem cW.drop {q1:FP} {qs:List FP} {g:iK} {gs:List iK} {f:iK} {fuel:Nat} {r:Rm} (h:cW l X0 p fg fcap (q1::qs) q ⟨g::gs,f,fuel,r⟩ w) {w1:Ω} (hw:w1=w.setCell ⟨p.mb,0+2,none⟩ (.slice (some ⟨fg,0,none⟩) (qs.length+1) fcap)) :
  cW l (λi=>X0 i\/pS q i) p fg fcap qs q1 ⟨gs,g,fuel,r⟩ w1/\oX w1 q (f.me l) f/\Fr (λi=>i=p.mb) w w1:=by
 subst hw;have F:Fr (λi=>i=p.mb) w (w.setCell ⟨p.mb,0+2,none⟩ (.slice (some ⟨fg,0,none⟩) (qs.length+1) fcap)):=Fr.of_set rfl;have S:=h.wh.sep;have nm:∀ {a:Lb} {i:Nat},a≠.mb->WR p q (BX X0 fg (q1::qs)) a i->¬ i=p.mb:=λha hi he=>ha (S.dj _ .mb _ hi he);have hb:=h.wh.box.set (j:=2) (by simp) (.slice (some ⟨fg,0,none⟩) (qs.length+1) fcap);obtain ⟨b1,b2⟩:=h.bel;have inq1:∀ {i},pS q1 i->BX X0 fg (q1::qs) i:=λhi=>.inr (.inr ⟨q1,by simp,hi⟩);have inqs:∀ {i a},a∈qs->pS a i->BX X0 fg (q1::qs) i:=λha hi=>.inr (.inr ⟨_,by simp [ha],hi⟩);have pw:=List.pairwise_cons.1 h.bd;refine ⟨⟨⟨?_,h.wh.rps,?_,?_,hb,?_,?_⟩,?_,?_,pw.2,λa ha=>h.bf a (by simp [ha]),λi hi=>?_⟩,?_,F⟩
 ·exact h.wh.room.fr F λi hs=>⟨λhm=>nm (a:=.rm) (by intro e;cases e) (.inl hm) hs,λhm=>nm (a:=.rm) (by intro e;cases e) (.inr hm) hs⟩
 ·exact h.wh.fld.fr F (nm (a:=.fo) (by intro e;cases e) rfl) λi hi=>nm (a:=.fd) (by intro e;cases e) hi
 ·exact h.wh.img.fr F λi hi=>nm (a:=.im) (by intro e;cases e) hi
 ·exact b1.fr F λi hi=>nm (a:=.ex) (by intro e;cases e) (inq1 hi)
 ·refine ⟨λa b i ha hb=>?_,λa i ha=>?_⟩
  ·-- where a block lay before
   have cls:∀ {a:Lb} {i:Nat},WR p q1 (BX (λi=>X0 i\/pS q i) fg qs) a i->(a≠.fr/\a≠.ex/\WR p q (BX X0 fg (q1::qs)) a i)\/(a=.fr/\pS q1 i)\/(a=.ex/\((X0 i\/i=fg\/∃ c∈qs,pS c i)\/pS q i)):=by
    intro a i hi;cases a with
    | fr=>exact .inr (.inl ⟨rfl,hi⟩)
    | ex=>
     rcases hi with (h|h)|h|h
     ·exact .inr (.inr ⟨rfl,.inl (.inl h)⟩)
     ·exact .inr (.inr ⟨rfl,.inr h⟩)
     ·exact .inr (.inr ⟨rfl,.inl (.inr (.inl h))⟩)
     ·exact .inr (.inr ⟨rfl,.inl (.inr (.inr h))⟩)
    | _=>exact .inl ⟨(by intro e;cases e),(by intro e;cases e),hi⟩
   have exo:∀ {i:Nat},((X0 i\/i=fg\/∃ c∈qs,pS c i)\/pS q i)->BX X0 fg (q1::qs) i\/pS q i:=λh=>by
    rcases h with (h|h|⟨c,hc,h⟩)|h
    ·exact .inl (.inl h)
    ·exact .inl (.inr (.inl h))
    ·exact .inl (inqs hc h)
    ·exact .inr h
   have no1:∀ {i:Nat},pS q1 i->((X0 i\/i=fg\/∃ c∈qs,pS c i)\/pS q i)->False:=λ{i} hi h'=>by
    rcases h' with (h'|h'|⟨c,hc,h'⟩)|h'
    ·exact (h.x0 i h').2 q1 (by simp) hi
    ·exact h.bf q1 (by simp) (h'▸hi)
    ·exact pw.1 c hc i hi h'
    ·cases S.dj .fr .ex i h' (inq1 hi)
   rcases cls ha with ⟨n1,n2,ha⟩|⟨e1,ha⟩|⟨e1,ha⟩<;>rcases cls hb with ⟨m1,m2,hb⟩|⟨e2,hb⟩|⟨e2,hb⟩
   ·exact S.dj a b i ha hb
   ·exact absurd (S.dj a .ex i ha (inq1 hb)) n2
   ·rcases exo hb with hb|hb
    ·exact absurd (S.dj a .ex i ha hb) n2
    ·exact absurd (S.dj a .fr i ha hb) n1
   ·exact absurd (S.dj b .ex i hb (inq1 ha)) m2
   ·rw [e1,e2]
   ·exact (no1 ha hb).elim
   ·rcases exo ha with ha|ha
    ·exact absurd (S.dj b .ex i hb ha) m2
    ·exact absurd (S.dj b .fr i hb ha) m1
   ·exact (no1 hb ha).elim
   ·rw [e1,e2]
  ·have:i < w.heap.size:=by
    cases a with
    | fr=>exact S.lt .ex i (inq1 ha)
    | ex=>
     rcases ha with (h'|h')|h'|⟨c,hc,h'⟩
     ·exact S.lt .ex i (.inl h')
     ·exact S.lt .fr i h'
     ·exact S.lt .ex i (.inr (.inl h'))
     ·exact S.lt .ex i (inqs hc h')
    | rm=>exact S.lt .rm i ha
    | im=>exact S.lt .im i ha
    | fo=>exact S.lt .fo i ha
    | fd=>exact S.lt .fd i ha
    | mb=>exact S.lt .mb i ha
   have:=F.size;omega
 ·have h1:=EI (F.own h.row λi hi=>nm (a:=.ex) (by intro e;cases e) (.inr (.inl (by simpa [Value.ownBlock] using hi.symm)))) (a:=qs.length+1) (by simp)
  have e:((q::q1::qs).reverse.map pf).take ((qs.length+1)*1)=(q1::qs).reverse.map pf:=by
   rw [List.reverse_cons,List.map_append,Nat.mul_one,List.take_left' (by simp)]
  rw [e] at h1;exact h1
 ·exact b2.fr F λa ha i hi=>nm (a:=.ex) (by intro e;cases e) (inqs ha hi)
 ·rcases hi with hi|hi
  ·exact ⟨(h.x0 i hi).1,λa ha=>(h.x0 i hi).2 a (by simp [ha])⟩
  ·refine ⟨λhe=>?_,λa ha hf=>?_⟩
   ·cases S.dj .fr .ex i hi (.inr (.inl he))
   ·cases S.dj .fr .ex i hi (inqs ha hf)
 ·exact h.wh.frm.fr F λi hi=>nm (a:=.fr) (by intro e;cases e) hi
theorem aVi (h:cW l X0 p fg fcap qs q m w) (hd:m.fs.length < 8) (h8:m.f.st.length<=8) (hg8:∀ g∈m.fs,g.st.length<=8) (hr0:0<=(m.f.me l).result) (hnt:(iT (m.f.me l).result).length<=m.f.st.length) (htr:m.r.ps.tr.length<=100000) :
  aD prog 93 #[pm p,pf q] w λ_ w'=>(m.fs=[]/\EGo l X0 p ⟨36864,0,m.fuel,m.r.ends 36864⟩ w w') \/
   ∃ g gs,m.fs=g::gs/\FZ l X0 p ⟨gs,{ g with st:=g.st++gL (iT (m.f.me l).result).length m.f.st },m.fuel,m.r⟩ w w':=by
 have hl:=h.len;apply aQd
 suffices key:∀ R:O->Ω->Prop,(∀ rv w',((m.fs=[]/\EGo l X0 p ⟨36864,0,m.fuel,m.r.ends 36864⟩ w w') \/
   ∃ g gs,m.fs=g::gs/\FZ l X0 p ⟨gs,{ g with st:=g.st++gL (iT (m.f.me l).result).length m.f.st },m.fuel,m.r⟩ w w')->R rv w')->CM (pm p) (pf q) w R from key _ λrv w' h=>h
 intro R hR;unfold CM;have hcap:=aDe h.row;have D1:aG w w.drew:=(aG.refl _).drew;refine aI.mk' (λw'=>aG w w') D1 ⟨.inl ⟨_,rfl⟩,?_⟩;refine DI bZ fH (λw' hw=>h.wh.box.ext hw) rfl ⟨.inl ⟨_,rfl⟩,?_⟩;refine DI bZ fH (λw' hw=>h.wh.box.ext hw) rfl ?_;refine aB.ok (λw' _=>kS underlying107) ?_;refine aB.ok (λw' _=>nC) ?_;rw [show IntKind.i64.wrap (((qs.length+1:Nat):Int) - 1)=(qs.length:Int) from by rw [aX (by omega)];omega];refine aB.ok (λw' _=>aCu underlying107 KN (Nat.le_succ _) hcap) ⟨.inl ⟨_,rfl⟩,?_⟩;refine yFA bZ ?_
 have hD:cW l X0 p fg fcap qs q m w.drew:=by
  have F:=Fr.of_ext (S:=λ_=>False) D1;exact ⟨h.wh.ext D1,D1.own h.row,h.bel.fr F λ_ _ _ _ h=>h,h.bd,h.bf,h.x0⟩
 refine oP KO hD.wh.box (show 2 < 5 by decide) rfl ?_;obtain ⟨fs,f,fuel,r⟩:=m;cases fs with
 | nil=>
  have hq0:qs=[]:=List.eq_nil_of_length_eq_zero hl;subst hq0;obtain ⟨p2,q2,h2,s2⟩:=hD.wh.cell (j:=2) (u:=.slice (some ⟨fg,0,none⟩) 0 fcap) (sl':=.slice (some ⟨fg,0,none⟩) 0 fcap) (fu':=(fuel:Int)) (st':=0) (by decide) rfl;have e:pm p=.pointer (some ⟨p2.mb,0,none⟩):=by unfold pm;rw [s2.mb]
  have e3:pm p=pm p2:=s2.pm.symm;have s02:=(jE.of_ext (p:=p) (q:=q) D1).trans s2;refine ⟨.inl ⟨_,rfl⟩,?_⟩;rw [e];refine kK bZ fH h2.box rfl (tN.2 (aF.2 ?_));simp only [show (((0:Nat):Int)=0) by rfl,decide_true,aE];rw [<- e,e3];refine (aOr h2 htr (s:=36864)).mono λ_ w3 g=>?_;obtain ⟨p3,q3,h3,s3⟩:=gG.after s02 g;refine hR _ _ (.inl ⟨rfl,p3,⟨q3,f,BX X0 fg [],some ⟨fg,0,none⟩,fcap,h3,λi hi=>.inl hi⟩,s3.mb,s3.rb,h.fx s3⟩)
 | cons g gs=>
  cases qs with
  | nil=>simp at hl
  | cons q1 qs=>
  obtain ⟨h2,hq2,F2⟩:=hD.drop rfl;have F02:Fr (λi=>¬ X0 i) w (w.drew.setCell ⟨p.mb,0+2,none⟩ (.slice (some ⟨fg,0,none⟩) (qs.length+1) fcap)):=(Fr.of_ext (S:=λi=>¬ X0 i) D1).trans (F2.mono λi hi hx=>by cases h.wh.sep.dj .ex .mb i (.inl hx) hi) λ_ _ h=>h;have hlen1:(q1::qs).length=qs.length+1:=rfl;rw [hlen1];generalize w.drew.setCell ⟨p.mb,0+2,none⟩ (.slice (some ⟨fg,0,none⟩) (qs.length+1) fcap)=w2 at *;refine ⟨.inl ⟨_,rfl⟩,?_⟩;refine kK bZ fH h2.wh.box rfl (tN.2 (aF.2 ?_));simp only [show ¬ (((qs.length+1:Nat):Int)=0) by omega,decide_false,aA];refine ⟨.inl ⟨_,rfl⟩,?_⟩;refine V.ok KF (V.ok QZ (V.ok (UM (hq2.box.cell (j:=4) rfl)) ?_));have hbelow:gs.length < 8:=by simp at hd;omega
  refine aT.2 (aL (λhne=>?_) λheq=>?_)
  ·have hres:(iT (f.me l).result).length=1:=by unfold iT;rw [if_neg hne];rfl
   have hnt:1<=f.st.length:=by rw [<- hres];exact hnt
   refine (aMc h2 hbelow).mono λrv w3 ⟨hrv,x3⟩=>?_;subst hrv;refine (wS (hq2.ext x3) (by show f.st.length<=_;have h8:f.st.length<=8:=h8;omega) hnt).mono λrv w4 ⟨hrv,q4,hq4,s4⟩=>?_;subst hrv
   have hX3:cW l (λi=>X0 i\/pS q i) p fg fcap qs q1 ⟨gs,g,fuel,r⟩ w3:=by
    have F:=Fr.of_ext (S:=λ_=>False) x3;exact ⟨h2.wh.ext x3,x3.own h2.row,h2.bel.fr F λ_ _ _ _ h=>h,h2.bd,h2.bf,h2.x0⟩
   have nq:∀ {a:Lb} {i:Nat},a≠.ex->WR p q1 (BX (λi=>X0 i\/pS q i) fg qs) a i->¬ FM q i:=λha hi hf=>ha (hX3.wh.sep.dj _ .ex _ hi (.inl (.inr (.inl hf))))
   have h4:cW l (λi=>X0 i\/pS q i) p fg fcap qs q1 ⟨gs,g,fuel,r⟩ w4:=by
    refine ⟨hX3.wh.fr s4.fr λa i ha hi=>nq ha hi,s4.fr.own hX3.row λi hi hf=>?_,hX3.bel.fr s4.fr λa ha i hi hf=>?_,hX3.bd,hX3.bf,hX3.x0⟩
    ·exact (hX3.x0 i (.inr (.inl hf))).1 (by simpa [Value.ownBlock] using hi.symm)
    ·exact (hX3.x0 i (.inr (.inl hf))).2 a ha hi
   have F24:Fr (λi=>¬ X0 i) w2 w4:=(Fr.of_ext (S:=λi=>¬ X0 i) x3).trans (s4.fr.mono λi hi hx=>by cases h.wh.sep.dj .ex .fr i (.inl hx) (.inl hi)) λ_ _ h=>h;refine (nU h4.wh (by have:=hg8 g (by simp);show g.st.length<=_;omega)).mono λ_ w5 g5=>?_;obtain ⟨p5,q5,h5,s5⟩:=h4.topGo g5;have hF5:=h4.fx s5;refine hR _ _ (.inr ⟨g,gs,rfl,?_⟩);rw [hres]
   have et:gL 1 f.st=[bM (gL 1 f.st) 0]:=by
    obtain ⟨a,ha⟩:=List.length_eq_one_iff.1 (nS hnt);rw [ha];rfl
   rw [et];exact ⟨p5,fg,fcap,qs,q5,h5.weak λi hi=>.inl hi,s5.mb,s5.rb,(F02.trans F24 λ_ _ h=>h).trans (hF5.mono λi hi hx=>hi (.inl hx)) λ_ _ h=>h⟩
  ·have heq:(f.me l).result=0:=Classical.not_not.1 heq;refine hR _ _ (.inr ⟨g,gs,rfl,?_⟩);have hres:iT (f.me l).result=[]:=by unfold iT;rw [if_pos heq]
   show FZ l X0 p ⟨gs,{ g with st:=g.st++gL (iT (f.me l).result).length f.st },fuel,r⟩ w w2;rw [hres];have et:gL ([]:List Int).length f.st=[]:=by unfold gL;simp
   rw [et,List.append_nil];exact ⟨p,fg,fcap,qs,q1,h2.weak λi hi=>.inl hi,rfl,rfl,F02⟩
end
section
variable {l:List bF} {X0:Nat->Prop} {p p1:iG} {fg fcap:Nat} {qs:List FP} {q q1:FP} {m:PM} {w w1 w':Ω}
theorem cW.ext (h:cW l X0 p fg fcap qs q m w) (hx:aG w w'):cW l X0 p fg fcap qs q m w':=by
 have F:=Fr.of_ext (S:=λ_=>False) hx;exact ⟨h.wh.ext hx,hx.own h.row,h.bel.fr F λ_ _ _ _ h=>h,h.bd,h.bf,h.x0⟩
theorem cW.old (h:cW l X0 p fg fcap qs q m w) {i:Nat} (hi:(∃ a,WR p q (BX X0 fg qs) a i)):i < w.heap.size:=by
 obtain ⟨a,ha⟩:=hi;exact h.wh.sep.lt a i ha
theorem cW.add (h:cW l X0 p fg fcap qs q m w) {b:Nat} (hn:∀ i,(∃ a,WR p q (BX X0 fg qs) a i)->i≠b) (hb:b < w.heap.size):cW l (λi=>X0 i\/i=b) p fg fcap qs q m w:=by
 refine ⟨⟨h.wh.room,h.wh.rps,h.wh.fld,h.wh.img,h.wh.box,h.wh.frm,⟨λc d i hc hd=>?_,λc i hc=>?_⟩⟩,h.row,h.bel,h.bd,h.bf,λi hi=>?_⟩
 ·have up:∀ {c:Lb},WR p q (BX (λi=>X0 i\/i=b) fg qs) c i->WR p q (BX X0 fg qs) c i\/(c=.ex/\i=b):=λ{c} hc=>by
   cases c with
   | ex=>
    rcases hc with (hc|hc)|hc
    ·exact .inl (.inl hc)
    ·exact .inr ⟨rfl,hc⟩
    ·exact .inl (.inr hc)
   | _=>exact .inl hc
  rcases up hc with hc|⟨e1,hc⟩<;>rcases up hd with hd|⟨e2,hd⟩
  ·exact h.wh.sep.dj c d i hc hd
  ·exact absurd hd (hn i ⟨c,hc⟩)
  ·exact absurd hc (hn i ⟨d,hd⟩)
  ·rw [e1,e2]
 ·cases c with
  | ex=>
   rcases hc with (hc|hc)|hc
   ·exact h.wh.sep.lt .ex i (.inl hc)
   ·exact hc▸hb
   ·exact h.wh.sep.lt .ex i (.inr hc)
  | rm=>exact h.wh.sep.lt .rm i hc
  | im=>exact h.wh.sep.lt .im i hc
  | fo=>exact h.wh.sep.lt .fo i hc
  | fd=>exact h.wh.sep.lt .fd i hc
  | mb=>exact h.wh.sep.lt .mb i hc
  | fr=>exact h.wh.sep.lt .fr i hc
 ·rcases hi with hi|rfl
  ·exact h.x0 i hi
  ·refine ⟨λhe=>hn i ⟨.ex,.inr (.inl he)⟩ rfl,λa ha hf=>hn i ⟨.ex,.inr (.inr ⟨a,ha,hf⟩)⟩ rfl⟩
theorem MY {P:Program} {w:Ω} {a b c:O}:(Instr.extract (.tuple #[a,b,c]) 0).run P w=.ok a w:=by simp [Instr.extract]
theorem MX {P:Program} {w:Ω} {a b c:O}:(Instr.extract (.tuple #[a,b,c]) 1).run P w=.ok b w:=by simp [Instr.extract]
theorem MW {P:Program} {w:Ω} {a b c:O}:(Instr.extract (.tuple #[a,b,c]) 2).run P w=.ok c w:=by simp [Instr.extract]
theorem UN {w:Ω} {a b c d:O}:(Instr.field 180 (.agg #[a,b,c,d]) 2).run prog w=.ok c w:=by kernel_rfl
theorem TQ {op:Int} (h:¬ eV op):aD prog 94 #[i64 op] w λr w'=>r=i64 (-1)/\w'=w:=by
 unfold eV at h;apply oL;suffices key:∀ R:O->Ω->Prop,R (i64 (-1)) w->kJ (i64 op) w R from key _ ⟨rfl,rfl⟩;intro R hR;unfold kJ;refine ⟨λv w'=>v=.bool false/\w'=w,?_,?_⟩
 ·simp only [aF,show ¬ op=27 by omega,show ¬ op=28 by omega,decide_false,aA];exact ⟨by first|rfl|trivial,by first|rfl|trivial⟩
 rintro _ w' ⟨rfl,hw⟩ _;have hw:=hw.symm;subst hw;refine aA.2 ⟨λv w'=>v=.bool false/\w'=w,?_,?_⟩
 ·simp only [aF,show ¬ op=17 by omega,show ¬ op=18 by omega,show ¬ op=29 by omega,decide_false,aA];exact ⟨by first|rfl|trivial,by first|rfl|trivial⟩
 rintro _ w' ⟨rfl,hw⟩ _;have hw:=hw.symm;subst hw;refine aA.2 ⟨λv w'=>v=.bool false/\w'=w,?_,?_⟩
 ·simp only [aF,show ¬ op=30 by omega,show ¬ op=36 by omega,decide_false,aA];exact ⟨by first|rfl|trivial,by first|rfl|trivial⟩
 rintro _ w' ⟨rfl,hw⟩ _;have hw:=hw.symm;subst hw;refine aA.2 ?_;simp only [aF,show ¬ op=31 by omega,show ¬ op=32 by omega,decide_false,aA];exact hR
theorem RZ (hT:pO l) (h:cW l X0 p fg fcap qs q m w) (hw:m.f.who < l.length) {k:Nat} (hk:k < (aR l m.f.who).imports.length) :
  aD prog 92 #[pm p,pf q,i64 (k:Int)] w λrv w'=>∃ pv,rv=.agg #[.string ((aR l m.f.who).imp k).name,i64 ((aR l m.f.who).imp k).exp,pv,i64 ((aR l m.f.who).imp k).result]/\aS w' pv ((aR l m.f.who).imp k).params/\aG w w':=by
 have himp:(aR l m.f.who).imports[k]?=some ((aR l m.f.who).imp (k:Int)):=by
  unfold bF.imp;rw [Int.toNat_natCast,List.getD_eq_getElem?_getD,List.getElem?_eq_getElem hk];rfl
 apply aQe;unfold OP;refine LN mN λw1 hz x1=>?_;have D1:aG w1 w1.drew:=(aG.refl _).drew;have hzl:=hz.lt;have s1:=x1.size;have hbox:∀ w',aG w1 w'->lM w' p.mb 0 _:=λw' hw=>(h.wh.box.ext x1).ext hw;have hfr:∀ w',aG w1 w'->lM w' q.fb 0 _:=λw' hw=>(h.wh.frm.box.ext x1).ext hw;refine aI.mk' (λw'=>aG w1 w') D1 ⟨.inl ⟨_,rfl⟩,?_⟩;refine DI cL eY hbox rfl ⟨.inl ⟨_,rfl⟩,?_⟩;refine DI cE aJ hfr rfl ?_
 have fin:∀ {w3:Ω} {b:Nat} {p2:cN},aG w1 w3->aY w3 b (p2.cells (aR l m.f.who)) 46->oV w1.heap.size w3 p2 (aR l m.f.who) ->
   V prog (Instr.fieldAt 46 (.pointer (some ⟨b,0,none⟩)) 2) w3 λt21 w6=>V prog (Instr.loadAt 43 t21) w6 λt22 w7=>V prog (Instr.indexAt 43 t22 (i64 (k:Int))) w7 λt24 w8=>V prog (Instr.loadAt 180 t24) w8 λt25 w9=>U prog (Instr.storeAt 180 (.pointer (some ⟨w.heap.size,0,none⟩)) t25) w9 λ_ w10=>
    ∃ r1,(loadVar 180 (match (Value.pointer (some ⟨w.heap.size,0,none⟩)) with|.pointer (some p)=>p|_=>⟨0,0,none⟩)).run prog w10=.ok r1 w10/\(∃ p,(Value.pointer (some ⟨w.heap.size,0,none⟩))=Value.pointer (some p))/\(∃ pv,r1=.agg #[.string ((aR l m.f.who).imp k).name,i64 ((aR l m.f.who).imp k).exp,pv,i64 ((aR l m.f.who).imp k).result]/\aS w10 pv ((aR l m.f.who).imp k).params/\aG w w10):=by
  intro w3 b p2 X hb hO3;refine bB hb.boxed cO jY rfl ?_;obtain ⟨ci,hci,hri⟩:=hO3.im;obtain ⟨pv,hrow,hpv⟩:=hri k _ himp;refine aTg mF KI hci hk hrow rfl ?_;refine DS mN (hz.ext X) (l:=[.string ((aR l m.f.who).imp k).name,i64 ((aR l m.f.who).imp k).exp,pv,i64 ((aR l m.f.who).imp k).result]) rfl rfl rfl (by simp [bR hpv];exact ⟨rfl,rfl,rfl⟩) λw4 h4 hch=>?_;have f4:=mO hch;refine ⟨_,rJ underlying180 rfl mN h4 rfl,⟨_,rfl⟩,pv,rfl,?_,?_⟩
  ·exact aC.of_own (f4.own hpv λi hi he=>by have:=(hpv.lt i hi).1;omega)
  ·exact f4.ext (x1.trans X) λi hi=>by omega
 have hIm:∀ {w2},aG w1 w2->aD prog 88 #[lC p.rp,i64 (m.f.who:Int)] w2 λr w'=>∃ p':cN,r=.tuple #[p'.val (aR l m.f.who),.bool true]/\oV w2.heap.size w' p' (aR l m.f.who)/\aG w2 w':=λhx=>xI (h.wh.room.room.ext (x1.trans hx)) ((h.wh.img.ext (x1.trans hx)).now) hT hw;refine ⟨?_,?_⟩
 ·refine (hIm D1).mono λrv w2 ⟨p2,hrv,hO,x2⟩=>?_;subst hrv;have X2:=D1.trans x2;refine ⟨X2,aB.ok (λw' _=>fQ) (aB.ok (λw' _=>fP) ?_)⟩;refine LN iE λw3 hz3 x3=>?_;have hO:=hO.mono (B':=w1.heap.size) (Nat.le_refl _);refine ⟨X2.trans x3,?_⟩;refine DS iE hz3 (l:=p2.cells (aR l m.f.who)) rfl rfl rfl hO.one λw4 h4 hch=>?_;have e:=hch.ext w2 x3 (Nat.le_refl _);exact ⟨X2.trans e,fin (X2.trans e) h4 (hO.fr (Fr.of_ext (S:=λ_=>False) e) λ_ _ h=>h)⟩
 ·refine LN iE λw3 hz3 x3=>?_;refine ⟨D1.trans x3,?_⟩;have s3:=x3.size;have sD:=D1.size;have l3:=hz3.lt;refine (hIm (D1.trans x3)).mono λrv w2 ⟨p2,hrv,hO,x2⟩=>?_;subst hrv;have X2:=(D1.trans x3).trans x2;refine ⟨X2,aB.ok (λw' _=>fQ) (aB.ok (λw' _=>fP) ?_)⟩;refine DS iE (hz3.ext x2) (l:=p2.cells (aR l m.f.who)) rfl rfl rfl hO.one λw4 h4 hch=>?_;have f4:=mO hch;have e:aG w1 w4:=f4.ext X2 λi hi=>by omega
  refine ⟨e,fin e h4 ((hO.fr f4 λi hi he=>by omega).mono (by omega))⟩
inductive DoR (l:List bF) (X0:Nat->Prop) (p:iG) (q:FP) (X:Nat->Prop) (sl:O) (d0 fu0:Nat) (o:Out) (rv:O) (w w':Ω):Prop
 | run (m':PM):o=.run m'->rv=i64 36864->FZ l X0 p m' w w'->DoR l X0 p q X sl d0 fu0 o rv w w'
 | fin (s:Int) (d fu:Nat) (r:Rm):o=.fin s d fu r->rv=i64 36864->EGo l X0 p ⟨s,d,fu,r⟩ w w'->DoR l X0 p q X sl d0 fu0 o rv w w'
 | bad (s:Int) (r:Rm) (f':iK):o=.fin s d0 fu0 (r.ends s)->s≠36864->s≠0->rv=i64 s->gG l p q f' r X sl fu0 0 w w'->DoR l X0 p q X sl d0 fu0 o rv w w'
theorem vZ {s:PS} {who:Int} {x:fO} {t:List Int}:(fG s who x t).2.1≠0:=by
 have chk0:∀ {l:List PA} {r who:Int},vB l r who≠0:=λ{l r who}=>by
  unfold vB;refine mB ?_ (by decide);split
  ·exact mB (by decide) (by decide)
  ·decide
 have rng0:∀ {l:List PA} {r a n who:Int},gS l r a n who≠0:=λ{l r a n who}=>by
  unfold gS;refine mB ?_ chk0;split
  ·exact mB (by decide) (by decide)
  ·decide
 have pR:∀ {s:PS} {who r1 a1 r2 a2 n:Int},jN s who r1 a1 r2 a2 n≠0:=λ{s who r1 a1 r2 a2 n}=>mB rng0 rng0;unfold fG pU pT dW qB qC qA lF kQ fN
 repeat' (with_reducible apply TL)
 all_goals first|exact chk0|exact rng0|exact pR|(dsimp only;decide)
theorem doW (hT:pO l) (hll:l.length<=1000) (h:cW l X0 p fg fcap qs q m w) (hok:m.ok l) (htr:m.r.ps.tr.length<=99000) :
  aD prog 53 #[pm p,pf q,.agg #[i64 (m.f.ins l).op,i64 (m.f.ins l).a,i64 (m.f.ins l).b]] w λrv w'=>
   DoR l X0 p q (BX X0 fg qs) (.slice (some ⟨fg,0,none⟩) (qs.length+1) fcap) (m.fs.length+1) m.fuel (uW l m.fs m.f m.fuel m.r (m.f.ins l) (gL (bH l m.f) m.f.st) (jA (bH l m.f) m.f.st)) rv w w':=by
 have hA:=hok.top.at_ hT;have hrt:=hok.top.rt hT;have hdep:=hok.dep;have h8:=hA.hi;have hnt:=hA.nt;have hpc:m.f.pc<=1000:=by have:=hA.pc;have:=hrt.2.1.2.2.2.1.2;omega
 have h32:=hok.top.s32;have hl:=h.len;generalize hx:m.f.ins l=x at *;have hokx:DH (m.f.img l) (m.f.me l) x:=hx▸hA.okx;have hN:bH l m.f=(bA (m.f.img l) (m.f.me l) x).length:=by unfold bH;rw [hx]
 apply aQt;suffices key:∀ R:O->Ω->Prop,(∀ rv w',DoR l X0 p q (BX X0 fg qs) (.slice (some ⟨fg,0,none⟩) (qs.length+1) fcap) (m.fs.length+1) m.fuel (uW l m.fs m.f m.fuel m.r x (gL (bH l m.f) m.f.st) (jA (bH l m.f) m.f.st)) rv w w'->R rv w')->CU (pm p) (pf q) (.agg #[i64 x.op,i64 x.a,i64 x.b]) w R from key _ λrv w' h=>h;intro R hR;unfold CU;refine sO λw1 hb x1=>?_;have hb:aY w1 w.heap.size [i64 x.op,i64 x.a,i64 x.b] 70:=hb;have h1:=h.ext x1;refine bB hb.boxed bV aJ rfl (aF.2 ?_)
 have call:∀ {to mth:Nat} {w2:Ω},qM l m.f x=some (to,mth)->x.op=37\/x.op=38->x.op≠39->aG w1 w2->aD prog 89 #[pm p,pf q,i64 (to:Int),i64 (mth:Int)] w2 λrv w3=>((∃ cs,lM w3 q.fb 0 cs/\cs[0]?=some (i64 (m.f.who:Int)))/\aY w3 w.heap.size [i64 x.op,i64 x.a,i64 x.b] 70)/\R rv w3:=by
  intro to mth w2 hq hc h39 x2;have x02:=x1.trans x2
  have key:to < l.length/\mth < (aR l to).methods.length/\bH l m.f=((aR l to).meth mth).params.length:=by
   have hnm:=hokx.nm;have hxr:=hokx.xr;rw [hN];unfold qM at hq;obtain ⟨op,a,b⟩:=x;dsimp only at hc hq h39;rcases hc with rfl|rfl
   ·rw [if_pos rfl] at hq;cases hq;have ha:0<=a:=hxr.2.1;have hn:a < ((m.f.img l).methods.length:Int):=hnm;have e:((a.toNat:Nat):Int)=a:=by omega
    refine ⟨hok.top.who,by have:m.f.img l=aR l m.f.who:=rfl;rw [this] at hn;omega,?_⟩;simp only [e];rfl
   ·rw [if_neg (by decide)] at hq;have ha:0<=a:=hxr.2.1;have hn:a < ((m.f.img l).imports.length:Int):=hnm;obtain ⟨r1,r2,r3,_⟩:=wH hT hok.top.who ha hn hq;refine ⟨r1,r2,?_⟩;rw [r3];rfl
  obtain ⟨k1,k2,k3⟩:=key
  have eD:uW l m.fs m.f m.fuel m.r x (gL (bH l m.f) m.f.st) (jA (bH l m.f) m.f.st)=if 8<=m.fs.length+1 then .fin 28422 (m.fs.length+1) m.fuel (m.r.ends 28422) else .run ⟨{ m.f with st:=jA (bH l m.f) m.f.st,pc:=m.f.pc+1 }::m.fs,oF l to mth (gL (bH l m.f) m.f.st),m.fuel,m.r⟩:=by
   unfold uW;rw [if_neg h39,if_pos hc,hq]
  have hB:=((h.ext x1).add (b:=w.heap.size) (λi hi=>Nat.ne_of_lt (h.old hi)) hb.lt).ext x2;have hb2:=hb.ext x2;refine (aTo hT hB hdep h8 h32 hpc k1 k2 k3 hnt).mono λrv w3 hc3=>?_;rcases hc3 with ⟨g1,g2,p3,q3,g3,s3⟩|⟨g1,g2,g3,g4⟩
  ·rw [if_pos g1] at eD
   have g3':=g3.weak (Y:=BX X0 fg qs) λi hi=>by
    rcases hi with hi|hi|hi
    ·exact .inl (.inl hi)
    ·exact .inr (.inl hi)
    ·exact .inr (.inr hi)
   refine ⟨⟨⟨_,by rw [<- s3.fb];exact g3.frm.box,rfl⟩,s3.fr.blk hb2 (hB.wh.other (.inl (.inr rfl)))⟩,?_⟩;exact hR _ _ (.bad 28422 _ _ eD (by decide) (by decide) g2 (gG.of_ext x02 ⟨p3,q3,g3',s3⟩))
  ·rw [if_neg g1] at eD;obtain ⟨p3,a3,b3,c3,d3,m1,m2,m3,m4⟩:=g3;refine ⟨⟨g4,m4.blk hb2 λhn=>hn (.inr rfl)⟩,?_⟩;exact hR _ _ (.run _ eD g2 (FZ.after rfl rfl (Fr.of_ext x02) ⟨p3,a3,b3,c3,d3,m1.weak λi hi=>.inl hi,m2,m3,m4.mono λi hn hx=>hn (.inl hx)⟩))
 refine aL (λh37=>?_) λn37=>?_
 ·-- Call
  have hc0:qM l m.f x=some (m.f.who,x.a.toNat):=by unfold qM;rw [if_pos h37]
  have ha:0<=x.a:=by
   have:=hokx.xr.2.1;unfold lim at this;rw [h37] at this;exact this
  have D1:aG w1 w1.drew:=(aG.refl _).drew;refine aI.mk' (λw'=>(∃ cs,lM w' q.fb 0 cs/\cs[0]?=some (i64 (m.f.who:Int)))/\aY w' w.heap.size [i64 x.op,i64 x.a,i64 x.b] 70) ⟨⟨_,h1.wh.frm.box.ext D1,rfl⟩,hb.ext D1⟩ ⟨.inl ⟨_,rfl⟩,?_⟩;refine yFE cE aJ (λw' hw=>hw.1) ?_;refine dU (λw' hw=>hw.2.boxed) bC aJ rfl ?_;have:=call hc0 (.inl h37) (by omega) D1;rw [show ((x.a.toNat:Nat):Int)=x.a by omega] at this;exact this
 refine aF.2 (aL (λh38=>?_) λn38=>?_)
 ·-- CallX
  have hxr:=hokx.xr.2.1;unfold lim at hxr;rw [h38] at hxr;have ha:0<=x.a:=hxr
  have hnm:x.a < ((m.f.img l).imports.length:Int):=by
   have:=hokx.nm;unfold gI at this;rw [h38] at this;exact this
  obtain ⟨k,hk⟩:∃ k:Nat,x.a=k:=⟨x.a.toNat,by omega⟩;have D1:aG w1 w1.drew:=(aG.refl _).drew;refine aI.mk' (λw'=>aG w1 w') D1 ⟨.inl ⟨_,rfl⟩,?_⟩;refine DI cL eY (λw' hw=>h1.wh.box.ext hw) rfl ⟨.inl ⟨_,rfl⟩,?_⟩;refine DI cE aJ (λw' hw=>h1.wh.frm.box.ext hw) rfl ?_;refine dU (λw' hw=>(hb.ext hw).boxed) bC aJ rfl ?_;have hD:=h1.ext D1;have hkl:k < (aR l m.f.who).imports.length:=by have e:m.f.img l=aR l m.f.who:=rfl;rw [e] at hnm;omega
  refine aD.mono (R:=λrv w2=>rv=(match kR l m.f.who (k:Int) with|some q=>.tuple #[i64 (q.1:Int),i64 (q.2:Int),.bool true]|none=>.tuple #[i64 0,i64 0,.bool false])/\aG w1.drew w2) ?_ λrv w2 ⟨hrv,x2⟩=>?_
  ·apply aQg;unfold OR;refine ⟨.inl ⟨_,rfl⟩,?_⟩;refine kK cD iU hD.wh.room.room rfl ?_;rw [hk];refine (BH hD.wh.img.now hT hll hok.top.who hkl).mono λrv w2 ⟨hrv,x2⟩=>?_;cases hq:kR l m.f.who (k:Int) with
   | none=>
    rw [hq] at hrv;subst hrv;exact V.ok MY (V.ok MX (V.ok MW ⟨rfl,x2⟩))
   | some z=>
    rw [hq] at hrv;subst hrv;exact V.ok MY (V.ok MX (V.ok MW ⟨rfl,x2⟩))
  have x12:=D1.trans x2;have x02:=x1.trans x12;have eq38:qM l m.f x=kR l m.f.who (k:Int):=by unfold qM;rw [if_neg (by omega),hk]
  refine ⟨x12,?_⟩;cases hq:kR l m.f.who (k:Int) with
  | none=>
   rw [hq] at hrv;subst hrv;refine aB.ok (λw' _=>MY) (aB.ok (λw' _=>MX) (aB.ok (λw' _=>MW) (eJ.2 ?_)));refine aE.2 ?_;refine bB (hb.ext x12).boxed bC aJ rfl ?_;rw [hk];refine (RZ hT (h1.ext x12) hok.top.who hkl).mono λrv w3 ⟨pv,hrv,hpv,x3⟩=>?_;subst hrv;refine V.ok UN ?_;refine gD aK hpv ?_
   have e1:((aR l m.f.who).imp (k:Int)).params.length=bH l m.f:=by
    rw [hN];unfold bA;simp only [h38,iV,Int.reduceEq,or_self,Int.reduceLE,and_false,if_false,if_true];rw [hk];rfl
   rw [e1];refine (aNg (h1.ext (x12.trans x3)).wh (by omega) hnt).mono λrv w4 ⟨_,g⟩=>?_
   have eD:uW l m.fs m.f m.fuel m.r x (gL (bH l m.f) m.f.st) (jA (bH l m.f) m.f.st)=.fin 28424 (m.fs.length+1) m.fuel (m.r.ends 28424):=by
    unfold uW;rw [if_neg (by omega),if_pos (.inr h38),eq38,hq]
   exact hR _ _ (.bad 28424 _ _ eD (by decide) (by decide) rfl (gG.of_ext (x1.trans (x12.trans x3)) g))
  | some z=>
   rw [hq] at hrv;subst hrv;refine aB.ok (λw' _=>MY) (aB.ok (λw' _=>MX) (aB.ok (λw' _=>MW) (eJ.2 ?_)));refine aA.2 ?_;exact (call (eq38.trans hq) (.inr h38) (by omega) x12).mono λ_ _ h=>h.2
 refine aF.2 (aL (λh39=>?_) λn39=>?_)
 ·-- Ret
  have hnr:bH l m.f=(iT (m.f.me l).result).length:=by
   rw [hN];unfold bA;simp only [h39,iV,Int.reduceEq,or_self,Int.reduceLE,and_false,if_false,if_true]
  have hg8:∀ g∈m.fs,g.st.length<=8:=by
   have:∀ (c:iK) (fs:List iK),aBt l c fs->∀ g∈fs,g.st.length<=8:=by
    intro c fs;induction fs generalizing c with
    | nil=>intro _ g hg;simp at hg
    | cons a fs ih=>
     intro hch g hg;obtain ⟨c1,c2⟩:=hch;rcases List.mem_cons.1 hg with rfl|hg
     ·obtain ⟨K,hK,hl⟩:=c1.rch;have hr:=c1.rt hT;obtain ⟨_,_,_,g4,_⟩:=hK.go hr.1 hr.2.1;omega
     ·exact ih a c2 g hg
   exact this _ _ hok.ch
  refine (aVi h1 hdep h8 hg8 hrt.2.1.2.1.1 (by rw [<- hnr];exact hnt) (by omega)).mono λrv w2 hr=>?_;rcases hr with ⟨e,g⟩|⟨g0,gs,e,g⟩
  ·have eD:uW l m.fs m.f m.fuel m.r x (gL (bH l m.f) m.f.st) (jA (bH l m.f) m.f.st)=.fin 36864 0 m.fuel (m.r.ends 36864):=by
    unfold uW;rw [if_pos h39,e]
   exact hR _ _ (.fin _ _ _ _ eD rfl (EGo.after rfl rfl (Fr.of_ext x1) g))
  ·have eD:uW l m.fs m.f m.fuel m.r x (gL (bH l m.f) m.f.st) (jA (bH l m.f) m.f.st)=.run ⟨gs,{ g0 with st:=g0.st++gL (bH l m.f) m.f.st },m.fuel,m.r⟩:=by
    unfold uW;rw [if_pos h39,e]
   refine hR _ _ (.run _ eD rfl (FZ.after rfl rfl (Fr.of_ext x1) ?_));rw [hnr];exact g
 refine bB hb.boxed bV aJ rfl ?_;have hne:¬ (x.op=37\/x.op=38):=by omega
 by_cases hs:eV x.op
 ·-- served
  have hNs:bH l m.f=oB x.op:=by rw [hN];exact BF hs
  refine (QR hs).mono λrv w2 ⟨hrv,hw⟩=>?_;subst hrv;have hw:=hw.symm;subst hw;refine kF.2 ?_;simp only [show ((oB x.op:Nat):Int)>=0 by omega,decide_true,aE];refine oY hb.boxed tF rfl ?_;refine (aMl h1.wh hokx.xr hs (by rw [<- hNs];exact hnt) h8 h32 hpc htr rfl).mono λrv w2 ⟨hrv,g1,g2⟩=>?_
  have eD:uW l m.fs m.f m.fuel m.r x (gL (bH l m.f) m.f.st) (jA (bH l m.f) m.f.st)=if (fG m.r.ps m.f.who x (gL (bH l m.f) m.f.st)).2.1=36864 then .run ⟨m.fs,{ m.f with st:=jA (bH l m.f) m.f.st++(if jF x.op then [] else [(fG m.r.ps m.f.who x (gL (bH l m.f) m.f.st)).1]),pc:=m.f.pc+1 },m.fuel,{ m.r with ps:=(fG m.r.ps m.f.who x (gL (bH l m.f) m.f.st)).2.2 }⟩
   else .fin (fG m.r.ps m.f.who x (gL (bH l m.f) m.f.st)).2.1 (m.fs.length+1) m.fuel (Rm.ends { m.r with ps:=(fG m.r.ps m.f.who x (gL (bH l m.f) m.f.st)).2.2 } (fG m.r.ps m.f.who x (gL (bH l m.f) m.f.st)).2.1):=by
   unfold uW;rw [if_neg n39,if_neg hne,if_pos hs]
  rw [hNs] at eD;rw [hNs] at hR;by_cases hf:(fG m.r.ps m.f.who x (gL (oB x.op) m.f.st)).2.1=36864
  ·rw [if_pos hf] at eD;obtain ⟨p2,q2,hm2,s2⟩:=h1.topGo (fu':=m.fuel) (g1 hf);refine hR _ _ (.run _ eD (by rw [hrv,hf]) (FZ.after rfl rfl (Fr.of_ext x1) ⟨p2,fg,fcap,qs,q2,hm2,s2.mb,s2.rb,h1.fx s2⟩))
  ·rw [if_neg hf] at eD;exact hR _ _ (.bad _ _ _ eD hf vZ hrv (gG.of_ext x1 (g2 hf)))
 ·-- plain
  refine (TQ hs).mono λrv w2 ⟨hrv,hw⟩=>?_;subst hrv;have hw:=hw.symm;subst hw;refine kF.2 ?_;simp only [show ¬ ((-1:Int)>=0) by omega,decide_false,aA];refine oY hb.boxed tF rfl ?_;refine (aNh h1.wh hokx ⟨by omega,by omega,n39,hs⟩ (by rw [<- hN];exact hnt) h8 h32 hok.top.loc hok.top.who hok.fd hpc).mono λrv w2 ⟨hrv,g⟩=>?_;subst hrv;rw [<- hN] at g ⊢;obtain ⟨p2,q2,h2,s2⟩:=g;have e:pf q=.pointer (some ⟨q2.fb,0,none⟩):=by unfold pf;rw [s2.fb]
  rw [e];refine ⟨.inl ⟨_,rfl⟩,?_⟩;refine fdA cC ?_;refine oP gP h2.frm.box (show 2 < 9 by decide) rfl ?_;have g3:=gG.after s2 (h2.setPc (JH x m.f.pc (gL (bH l m.f) m.f.st)));obtain ⟨p3,q3,hm3,s3⟩:=h1.topGo (fu':=m.fuel) g3
  have eD:uW l m.fs m.f m.fuel m.r x (gL (bH l m.f) m.f.st) (jA (bH l m.f) m.f.st)=.run ⟨m.fs,{ m.f with st:=jA (bH l m.f) m.f.st++qE x m.f m.r.fd (gL (bH l m.f) m.f.st),pc:=JH x m.f.pc (gL (bH l m.f) m.f.st),loc:=zA x m.f.loc (gL (bH l m.f) m.f.st) },m.fuel,{ m.r with fd:=fdP x m.f.who m.r.fd (gL (bH l m.f) m.f.st) }⟩:=by
   unfold uW;rw [if_neg n39,if_neg hne,if_neg hs]
  refine hR _ _ (.run _ eD rfl (FZ.after rfl rfl (Fr.of_ext x1) ⟨p3,fg,fcap,qs,q3,hm3,s3.mb,s3.rb,h1.fx s3⟩))
end
end Go.Proofs.YtgkkecladbmjkaaGreatDoor
namespace Go.Vc
theorem yxA {P:Program} {w:Ω} {S:Ω->Prop} {L:O->Prop} {t x:TypeId} {v:O} {n sz:Nat} {cs l:List O} {k:IntKind} {i:Int} (h:XA P t sz) (ht:∃ d z by_,P.underlying x=some d/\mP d=true/\Go.Vc.cP P x z sz by_) (hs0:aC w v sz n cs) (hs:∀ w',S w'->aC w' v sz n cs) (h0:0<=i) (h1:i < n)
  (hl:(cs.drop (i.toNat*sz)).take sz=l) (hlen:l.length=sz) (hk:L (.agg l.toArray)) :
  aB P S (Instr.indexAt t v (.int k i)) λp=>aB P S (Instr.loadAt x p) L:=by
 obtain ⟨e,z,b',hte,hi⟩:=h;obtain ⟨d,z',by_,h2,h3,h4⟩:=ht;obtain ⟨b,off,cap,rfl,_⟩:=hs0.there (by omega);refine aB.ok (λw' _=>eQ hte hi h0 h1) (aB.ok (λw' hw=>iY h2 h3 h4 hlen λj hj=>?_) hk);have hj':j < l.length:=by omega
 obtain ⟨u,hu⟩:∃ u,l[j]?=some u:=⟨_,List.getElem?_eq_getElem hj'⟩;rw [hu];rcases (hs w' hw).2 with ⟨he,_⟩|⟨b2,off2,cap2,he,_,_,hc2⟩
 ·cases he
 ·cases he
  have hcu:cs[i.toNat*sz+j]?=some u:=by
   rw [<- hl,List.getElem?_take,if_pos (by omega),List.getElem?_drop] at hu;exact hu
  rw [Nat.add_assoc];exact hc2 _ _ hcu
end Go.Vc
namespace Go.Proofs.YtgkkecladbmjkaaGreatDoor
open Tryz
open Go.Vc Go.Tc
section
variable {l:List bF} {X0:Nat->Prop} {p p1:iG} {fg fcap:Nat} {qs:List FP} {q q1:FP} {m:PM} {w w1 w':Ω}
theorem aDr {m:fV} {pc:Nat} (h:pc < m.code.length):m.code[pc]?=some (m.ins pc):=by
 unfold fV.ins;rw [List.getD_eq_getElem?_getD,List.getElem?_eq_getElem h];rfl
theorem aMx {n:Nat} {c:Prop} [Decidable c] {a b:AZ} (ha:a.2.2.tr.length<=n) (hb:b.2.2.tr.length<=n):(if c then a else b).2.2.tr.length<=n:=by split<;>assumption
theorem QV {s:PS} {who:Int} {x:fO} {t:List Int}:(fG s who x t).2.2.tr.length<=s.tr.length+2:=by
 unfold fG pU pT dW qB qC qA lF kQ fN
 repeat' (with_reducible apply aMx)
 all_goals simp [PS.ev,PS.ev2]
theorem WL (l:List bF) (fs:List iK) (f:iK) (fu:Nat) (r:Rm) (x:fO) (t u:List Int):(uW l fs f fu r x t u).r.ps.tr.length<=r.ps.tr.length+3:=by
 have e1:∀ (r:Rm) (s:Int),(r.ends s).ps.tr.length=r.ps.tr.length+1:=λr s=>by simp [Rm.ends,Rm.ev,PS.ev]
 have hs:=QV (s:=r.ps) (who:=f.who) (x:=x) (t:=t);unfold uW;split
 ·cases fs with
  | nil=>show (r.ends 36864).ps.tr.length<=_;rw [e1];omega
  | cons g gs=>show r.ps.tr.length<=_;omega
 split
 ·split
  ·show (r.ends 28424).ps.tr.length<=_;rw [e1];omega
  ·split
   ·show (r.ends 28422).ps.tr.length<=_;rw [e1];omega
   ·show r.ps.tr.length<=_;omega
 split
 ·split
  ·show (fG r.ps f.who x t).2.2.tr.length<=_;omega
  ·show (Rm.ends _ _).ps.tr.length<=_;rw [e1];show (fG r.ps f.who x t).2.2.tr.length+1<=_;omega
 ·show r.ps.tr.length<=_;omega
theorem MR {f:iK} {r:Rm} {X:Nat->Prop} {sl:O} {fu st:Int} (h:Wh l p1 q1 f r X sl fu st w) (hp:p1.mb=p.mb) {R:O->Ω->Prop} (hR:R (i64 st) w) :
  Go.Vc.aM (pm p)/\V prog (Instr.fieldAt 109 (pm p) 4) w λa w1=>V prog (Instr.loadAt 3 a) w1 λb w2=>R b w2:=by
 have e:pm p=.pointer (some ⟨p1.mb,0,none⟩):=by unfold pm;rw [hp]
 rw [e];exact ⟨.inl ⟨_,rfl⟩,kK dS aJ h.box rfl hR⟩
theorem aKv (hT:pO l) (hll:l.length<=1000) (h:cW l X0 p fg fcap qs q m w) (hok:m.ok l) (htr:m.r.ps.tr.length<=90000) (hfu:m.fuel<=1000000) :
  aD prog 19 #[pm p] w λrv w'=>(∃ m',kP l m=.run m'/\rv=i64 0/\FZ l X0 p m' w w')\/(∃ s d fu r,kP l m=.fin s d fu r/\s≠0/\rv=i64 s/\EGo l X0 p ⟨s,d,fu,r⟩ w w'):=by
 have hA:=hok.top.at_ hT;have hrt:=hok.top.rt hT;have hpc:=hA.pc;have hc120:=hrt.2.1.2.2.2.1.2;have hm8:m.f.mth<=1000:=by have:=hok.top.mth;have:=hrt.1.2.2.1.1.2;omega
 apply YM;suffices key:∀ R:O->Ω->Prop,(∀ rv w',((∃ m',kP l m=.run m'/\rv=i64 0/\FZ l X0 p m' w w')\/(∃ s d fu r,kP l m=.fin s d fu r/\s≠0/\rv=i64 s/\EGo l X0 p ⟨s,d,fu,r⟩ w w'))->R rv w')->tU (pm p) w R from key _ λrv w' h=>h;intro R hR;unfold tU;refine ⟨.inl ⟨_,rfl⟩,?_⟩;refine kK dS aJ h.wh.box rfl (aT.2 ?_);simp only [ne_eq,not_true_eq_false,decide_false,aA];refine ⟨.inl ⟨_,rfl⟩,?_⟩;refine kK dK aJ h.wh.box rfl (aF.2 (aL (λh0=>?_) λh0=>?_))
 ·have h0:m.fuel=0:=by omega
  have eS:kP l m=.fin 28423 (m.fs.length+1) 0 (m.r.ends 28423):=by unfold kP;rw [if_pos h0]
  refine (aOr h.wh (by omega) (s:=28423)).mono λ_ w2 ⟨p2,q2,h2,s2⟩=>?_;refine MR h2 s2.mb (hR _ _ (.inr ⟨_,_,_,_,eS,by decide,rfl,p2,⟨q2,m.f,BX X0 fg qs,some ⟨fg,0,none⟩,fcap,?_,λi hi=>.inl hi⟩,s2.mb,s2.rb,h.fx s2⟩));rw [h0,h.len] at h2;exact h2
 have h0:¬ m.fuel=0:=by omega
 refine ⟨.inl ⟨_,rfl⟩,?_⟩;refine kK dK aJ h.wh.box rfl (iJ.2 ?_);rw [show IntKind.i64.wrap (((m.fuel:Nat):Int) - 1)=((m.fuel - 1:Nat):Int) from by rw [aX (by omega)];omega];refine ⟨.inl ⟨_,rfl⟩,?_⟩;refine fdA dK ?_;refine oP gP h.wh.box (show 3 < 5 by decide) rfl ?_;obtain ⟨p1,q1,h1,s1⟩:=h.topGo (h.wh.cell (j:=3) (u:=i64 ((m.fuel - 1:Nat):Int)) (sl':=.slice (some ⟨fg,0,none⟩) (qs.length+1) fcap) (fu':=((m.fuel - 1:Nat):Int)) (st':=0) (by decide) rfl);have e1:pm p=pm p1:=s1.pm.symm;rw [e1];have F1:=h.fx s1;generalize w.setCell ⟨p.mb,0+3,none⟩ (i64 ((m.fuel - 1:Nat):Int))=w1 at *;refine (aMc h1 hok.dep).mono λrv w2 ⟨hrv,x2⟩=>?_;subst hrv;have h2:=h1.ext x2;have D2:aG w2 w2.drew:=(aG.refl _).drew;refine aI.mk' (λw'=>aG w2 w') D2 ⟨.inl ⟨_,rfl⟩,?_⟩;refine yFF eW fZ gM (λw' hw=>h2.wh.frm.box.ext hw) (u:=q1.cv) rfl ⟨.inl ⟨_,rfl⟩,?_⟩;refine DI cC aJ (λw' hw=>h2.wh.frm.box.ext hw) rfl ?_;have hcode:=aC.of_own h2.wh.frm.code;refine yxA kD tF hcode (λw' hw=>hcode.ext hw) (by omega) (show ((m.f.pc:Nat):Int) < (((m.f.me l).code.length:Nat):Int) by omega) (l:=[i64 (m.f.ins l).op,i64 (m.f.ins l).a,i64 (m.f.ins l).b]) (by rw [Int.toNat_natCast];exact oR (aDr hpc)) rfl ?_;refine LN nL λw4 hz x4=>?_;refine ⟨D2.trans x4,?_⟩;refine DS nL hz (l:=[i64 (m.f.ins l).op,i64 (m.f.ins l).a,i64 (m.f.ins l).b]) rfl rfl rfl rfl λw5 h5b hch=>?_
 have x25:aG w2 w5:=D2.trans (hch.ext _ x4 (Nat.le_refl _));have h5:=h2.ext x25;have hbn:¬ WM p1 q1 w2.drew.heap.size:=λhm=>by have:=h2.wh.wm_lt _ hm;have:=D2.size;omega
 have D5:aG w5 w5.drew:=(aG.refl _).drew;refine aI.mk' (SG l p1 q1 m.f (BX X0 fg qs) (.slice (some ⟨fg,0,none⟩) (qs.length+1) fcap) ((m.fuel - 1:Nat):Int) 0 w5) (h5.wh.sg D5) ⟨.inl ⟨_,rfl⟩,?_⟩;refine yMa (λ_ h=>h) dT rL (u:=rH p1.rp) rfl ⟨.inl ⟨_,rfl⟩,?_⟩;refine yFr (λ_ h=>h) cE aJ (by decide) (u:=i64 (m.f.who:Int)) rfl ⟨.inl ⟨_,rfl⟩,?_⟩;refine yFr (λ_ h=>h) eI aJ (by decide) (u:=i64 (m.f.mth:Int)) rfl ?_;refine aB.ok (λw' _=>UK) ⟨.inl ⟨_,rfl⟩,?_⟩;refine yFr (λ_ h=>h) cC aJ (by decide) (u:=i64 (m.f.pc:Int)) rfl ?_;refine aB.ok (λw' _=>lG) ?_;rw [iL (n:=1000*((m.f.mth:Nat):Int)) (by omega) (by omega),iL (n:=1000*((m.f.mth:Nat):Int)+((m.f.pc:Nat):Int)) (by omega) (by omega)];refine dU (λw' hw=>(SG.blk h5.wh h5b hbn hw).boxed) bV aJ rfl ?_;refine (aTr (h5.ext D5).wh (by show m.r.ps.tr.length<=_;omega) (e:=nA l m.f)).mono λ_ w6 g=>?_;have g:=gG.of_ext D5 g;refine ⟨g.sg,?_⟩;have hb6:=SG.blk h5.wh h5b hbn g.sg;obtain ⟨p6,q6,h6,s6⟩:=h5.topGo (fu':=m.fuel - 1) g;have hok6:PM.ok l ⟨m.fs,m.f,m.fuel - 1,m.r.ev (nA l m.f)⟩:=⟨hok.top,hok.ch,hok.dep,hok.fd⟩;refine oY hb6.boxed tF rfl ?_;rw [<- s6.pm,<- s6.pf];refine (doW hT hll h6 hok6 (by show (m.r.ps.tr++[_]).length<=_;rw [List.length_append];simp;omega)).mono λrv w7 hd=>?_;have F06:Fr (λi=>¬ X0 i) w w6:=(F1.trans (Fr.of_ext (S:=λi=>¬ X0 i) (x2.trans x25)) λ_ _ h=>h).trans (h5.fx s6) λ_ _ h=>h
 have emb:p6.mb=p.mb:=s6.mb.trans s1.mb;have erb:p6.rp.rb=p.rp.rb:=s6.rb.trans s1.rb;have eS:kP l m=uW l m.fs m.f (m.fuel - 1) (m.r.ev (nA l m.f)) (m.f.ins l) (gL (bH l m.f) m.f.st) (jA (bH l m.f) m.f.st):=by unfold kP;rw [if_neg h0]
 cases hd with
 | run m' he hrv g=>
  subst hrv;refine aT.2 ?_;simp only [show ¬ ((36864:Int)≠36864) by decide,decide_false,aA];obtain ⟨p7,a7,b7,c7,q7,h7,m7,r7,F7⟩:=g;refine MR h7.wh m7 (hR _ _ (.inl ⟨m',eS.trans he,rfl,p7,a7,b7,c7,q7,h7,m7.trans emb,r7.trans erb,F06.trans F7 λ_ _ h=>h⟩))
 | fin s d fu r he hrv g=>
  subst hrv;refine aT.2 ?_;simp only [show ¬ ((36864:Int)≠36864) by decide,decide_false,aA];obtain ⟨p7,⟨q7,f7,X7,a7,c7,h7,hX7⟩,m7,r7,F7⟩:=g
  have hs0:s≠0:=by
   intro hs;have:=(FR.2 s d fu r he)
   have hne:∀ (o:Out),uW l m.fs m.f (m.fuel - 1) (m.r.ev (nA l m.f)) (m.f.ins l) (gL (bH l m.f) m.f.st) (jA (bH l m.f) m.f.st)=o->∀ s d fu r,o=.fin s d fu r->s≠0:=by
    intro o ho s d fu r hos;subst hos;unfold uW at ho;split at ho
    ·cases hfs:m.fs with
     | nil=>rw [hfs] at ho;cases ho;decide
     | cons _ _=>rw [hfs] at ho;cases ho
    split at ho
    ·split at ho
     ·cases ho;decide
     ·split at ho
      ·cases ho;decide
      ·cases ho
    split at ho
    ·split at ho
     ·cases ho
     ·cases ho;exact vZ
    ·cases ho
   exact hne _ he _ _ _ _ rfl hs
  refine MR h7 m7 (hR _ _ (.inr ⟨s,d,fu,r,eS.trans he,hs0,rfl,p7,⟨q7,f7,X7,a7,c7,h7,hX7⟩,m7.trans emb,r7.trans erb,F06.trans F7 λ_ _ h=>h⟩))
 | bad s r f' he hs hs0 hrv g=>
  subst hrv;refine aT.2 ?_;simp only [show s≠36864 from hs,ne_eq,not_false_eq_true,decide_true,aE]
  have F7:Fr (λi=>¬ X0 i) w6 w7:=by
   obtain ⟨p7,q7,h7,s7⟩:=g;exact h6.fx s7
  have htr7:r.ps.tr.length<=100000:=by
   have hp:=WL l m.fs m.f (m.fuel - 1) (m.r.ev (nA l m.f)) (m.f.ins l) (gL (bH l m.f) m.f.st) (jA (bH l m.f) m.f.st);rw [he] at hp;have h1:(r.ends s).ps.tr.length=r.ps.tr.length+1:=by simp [Rm.ends,Rm.ev,PS.ev]
   have h2:(m.r.ev (nA l m.f)).ps.tr.length=m.r.ps.tr.length+1:=by simp [Rm.ev,PS.ev]
   have:(r.ends s).ps.tr.length<=(m.r.ev (nA l m.f)).ps.tr.length+3:=hp;omega
  obtain ⟨p7,q7,h7,s7⟩:=g;rw [<- s7.pm];refine (aOr h7 htr7 (s:=s)).mono λ_ w8 ⟨p8,q8,h8,s8⟩=>?_;have F8:Fr (λi=>¬ X0 i) w7 w8:=(jE.fx h7 s8).mono λi hn hx=>hn (.inl hx);refine MR h8 s8.mb (hR _ _ (.inr ⟨s,_,_,_,eS.trans he,hs0,rfl,p8,⟨q8,f',BX X0 fg qs,some ⟨fg,0,none⟩,fcap,?_,λi hi=>.inl hi⟩,s8.mb.trans (s7.mb.trans emb),s8.rb.trans (s7.rb.trans erb),(F06.trans F7 λ_ _ h=>h).trans F8 λ_ _ h=>h⟩));have:m.fs.length+1=qs.length+1:=by rw [h.len]
  show Wh l p8 q8 f' (r.ends s) (BX X0 fg qs) (.slice (some ⟨fg,0,none⟩) (m.fs.length+1) fcap) ((m.fuel - 1:Nat):Int) s w8;rw [this];exact h8
end
section
variable {l:List bF} {X0:Nat->Prop} {p p1:iG} {fg fcap:Nat} {qs:List FP} {q q1:FP} {m:PM} {w w1 w':Ω}
def OA (w:Ω) (b o:Nat):Int:=match w.cell? ⟨b,o,none⟩ with
 | some v=>RowKit.intOf v
 | none=>0
theorem xS {w:Ω} {b o:Nat} {n:Int} (h:w.cell? ⟨b,o,none⟩=some (i64 n)):OA w b o=n:=by unfold OA;rw [h];rfl
def pP (mb:Nat) (w:Ω):Nat:=if OA w mb 4=0 then (OA w mb 3).toNat+1 else 0
theorem zJ {f:iK} {r:Rm} {X:Nat->Prop} {sl:O} {fu:Nat} (h:Wh l p q f r X sl fu 0 w):pP p.mb w=fu+1:=by
 unfold pP;have h4:=h.box.cell (j:=4) rfl;have h3:=h.box.cell (j:=3) rfl;rw [Nat.zero_add] at h4 h3;rw [xS h4,if_pos rfl,xS h3];rfl
theorem QX {f:iK} {r:Rm} {X:Nat->Prop} {sl:O} {fu s:Int} (h:Wh l p q f r X sl fu s w) (hs:s≠0):pP p.mb w=0:=by
 unfold pP;have h4:=h.box.cell (j:=4) rfl;rw [Nat.zero_add] at h4;rw [xS h4,if_neg hs]
def Bnd (m:PM):Prop:=m.r.ps.tr.length+5*m.fuel<=80000
theorem aCf (l:List bF) (m:PM):(kP l m).r.ps.tr.length<=m.r.ps.tr.length+4:=by
 unfold kP;split
 ·show (m.r.ends 28423).ps.tr.length<=_;simp [Rm.ends,Rm.ev,PS.ev]
 ·have:=WL l m.fs m.f (m.fuel - 1) (m.r.ev (nA l m.f)) (m.f.ins l) (gL (bH l m.f) m.f.st) (jA (bH l m.f) m.f.st);have h2:(m.r.ev (nA l m.f)).ps.tr.length=m.r.ps.tr.length+1:=by simp [Rm.ev,PS.ev]
  omega
theorem DQ {l:List bF} {m m':PM} (h:kP l m=.run m') (hb:Bnd m):Bnd m':=by
 have hf:=(rS h).1;have:=aCf l m;rw [h] at this;have this:m'.r.ps.tr.length<=m.r.ps.tr.length+4:=this;unfold Bnd at *;omega
theorem aVh (hT:pO l) (hll:l.length<=1000) (h:cW l X0 p fg fcap qs q m w) (hok:m.ok l) (hb:Bnd m) :
  aD prog 20 #[pm p] w λrv w'=>∃ e,DF l m e/\e.s≠0/\rv=i64 e.s/\EGo l X0 p e w w':=by
 apply YL;unfold DA;refine ⟨λw'=>(∃ m',(∀ e,DF l m' e->DF l m e)/\m'.ok l/\Bnd m'/\FZ l X0 p m' w w')\/(∃ e,DF l m e/\e.s≠0/\EGo l X0 p e w w'),λw'=>pP p.mb w',.inl ⟨m,λ_ h=>h,hok,hb,h.go⟩,?_⟩;rintro w1 (⟨m1,he1,hok1,hb1,p1,a1,b1,c1,q1,h1,mb1,rb1,F1⟩|⟨e,he,hs,p1,⟨q1,f1,X1,a1,c1,h1,hX1⟩,mb1,rb1,F1⟩) _
 ·refine MR h1.wh mb1 (aF.2 ?_);simp only [decide_true,aE];have e1:pm p=pm p1:=by unfold pm;rw [mb1]
  rw [e1];have mu1:pP p.mb w1=m1.fuel+1:=by rw [<- mb1];exact zJ h1.wh
  refine (aKv hT hll h1 hok1 (by unfold Bnd at hb1;omega) (by unfold Bnd at hb1;omega)).mono λrv w2 hstep=>?_;rcases hstep with ⟨m2,hs,_,p2,a2,b2,c2,q2,h2,mb2,rb2,F2⟩|⟨s,d,fu,r,hs,hs0,_,p2,⟨q2,f2,X2,a2,c2,h2,hX2⟩,mb2,rb2,F2⟩
  ·refine ⟨.inl ⟨m2,λe he=>he1 e (.go hs he),vV hT hok1 hs,DQ hs hb1,p2,a2,b2,c2,q2,h2,mb2.trans mb1,rb2.trans rb1,F1.trans F2 λ_ _ h=>h⟩,?_⟩;have mu2:pP p.mb w2=m2.fuel+1:=by rw [<- mb1,<- mb2];exact zJ h2.wh
   have:=(rS hs).1;show pP p.mb w2 < pP p.mb w1;rw [mu1,mu2];omega
  ·refine ⟨.inr ⟨⟨s,d,fu,r⟩,he1 _ (.fin hs),hs0,p2,⟨q2,f2,X2,a2,c2,h2,hX2⟩,mb2.trans mb1,rb2.trans rb1,F1.trans F2 λ_ _ h=>h⟩,?_⟩;have mu2:pP p.mb w2=0:=by rw [<- mb1,<- mb2];exact QX h2 hs0
   show pP p.mb w2 < pP p.mb w1;rw [mu1,mu2];omega
 ·refine MR h1 mb1 (aF.2 ?_);simp only [show ¬ e.s=0 from hs,decide_false,aA];refine MR h1 mb1 ⟨e,he,hs,rfl,p1,⟨q1,f1,X1,a1,c1,h1,hX1⟩,mb1,rb1,F1⟩
theorem sS {f:iK} {r:Rm} {X:Nat->Prop} {sl:O} {fu st:Int} (h:Wh l p q f r X sl fu st w):aD prog 15 #[pm p] w λrv w'=>rv=i64 st/\w'=w:=by
 apply aRp;unfold QA;exact MR h rfl ⟨rfl,rfl⟩
theorem NU {f:iK} {r:Rm} {X:Nat->Prop} {sl:O} {fu st:Int} (h:Wh l p q f r X sl fu st w):aD prog 18 #[pm p] w λrv w'=>rv=i64 fu/\w'=w:=by
 apply aRm;unfold PV;exact ⟨.inl ⟨_,rfl⟩,kK dK aJ h.box rfl ⟨rfl,rfl⟩⟩
theorem aOv {f:iK} {r:Rm} {X:Nat->Prop} {a:Option Addr} {n c:Nat} {fu st:Int} (h:Wh l p q f r X (.slice a n c) fu st w):aD prog 17 #[pm p] w λrv w'=>rv=i64 (n:Int)/\w'=w:=by
 apply aRn;unfold PY;exact ⟨.inl ⟨_,rfl⟩,kK bZ fH h.box rfl (tN.2 ⟨rfl,rfl⟩)⟩
theorem aCc (h:cW l X0 p fg fcap qs q m w) (hd:m.fs.length < 8) (h8:m.f.st.length<=8):aD prog 14 #[pm p] w λrv w'=>∃ sv,rv=.tuple #[i64 (m.f.who:Int),i64 (m.f.mth:Int),i64 (m.f.pc:Int),sv]/\w'.ownsRow w.heap.size 21 1 sv m.f.st.length (m.f.st.map i32)/\aG w w':=by
 apply aAb;unfold DC;refine MR h.wh rfl (aT.2 ?_);simp only [ne_eq,not_true_eq_false,decide_false,aA];refine (aMc h hd).mono λrv w1 ⟨hrv,x1⟩=>?_;subst hrv;have h1:=h.ext x1;have D1:aG w1 w1.drew:=(aG.refl _).drew;refine aI.mk' (λw'=>aG w1 w') D1 ⟨.inl ⟨_,rfl⟩,?_⟩;refine DI cE aJ (λw' hw=>h1.wh.frm.box.ext hw) rfl ⟨.inl ⟨_,rfl⟩,?_⟩;refine DI eI aJ (λw' hw=>h1.wh.frm.box.ext hw) rfl ⟨.inl ⟨_,rfl⟩,?_⟩;refine DI cC aJ (λw' hw=>h1.wh.frm.box.ext hw) rfl ⟨.inl ⟨_,rfl⟩,?_⟩;refine DI cK lH (λw' hw=>h1.wh.frm.box.ext hw) rfl ?_;have hD:=(h1.ext D1).wh.frm.st;refine aD.mono (R:=λr w'=>w'.ownsRow w1.drew.heap.size 21 1 r m.f.st.length (m.f.st.map i32)/\aG w1.drew w') ?_ λr w2 ⟨hr,x2⟩=>?_
 ·apply XQ;unfold CV;exact CD (R:=λr w'=>w'.ownsRow w1.drew.heap.size 21 1 r m.f.st.length (m.f.st.map i32)/\aG w1.drew w') DJ (aC.of_own hD) (List.all_eq_true.2 λv hv=>by obtain ⟨x,_,rfl⟩:=List.mem_map.1 hv;rfl) (by omega) λv' w' g1 g2=>⟨g1,g2⟩
 have s1:=x1.size;have s2:=D1.size;exact ⟨D1.trans x2,r,rfl,aP hr (by omega),(x1.trans D1).trans x2⟩
theorem aMd {f:iK} {r:Rm} {X:Nat->Prop} {sl:O} {fu st:Int} (h:Wh l p q f r X sl fu st w) (hs:st≠0):aD prog 14 #[pm p] w λrv w'=>rv=.tuple #[i64 (-1),i64 (-1),i64 (-1),.slice none 0 0]/\w'=w:=by
 apply aAb;unfold DC;refine MR h rfl (aT.2 ?_);simp only [show st≠0 from hs,ne_eq,not_false_eq_true,decide_true,aE];exact ⟨by first|rfl|trivial,by first|rfl|trivial⟩
theorem aCg {f:iK} {r:Rm} {X:Nat->Prop} {sl:O} {fu st:Int} (h:Wh l p q f r X sl fu st w) (hs:st≠0):aD prog 19 #[pm p] w λrv w'=>rv=i64 st/\w'=w:=by
 apply YM
 have key:∀ R:O->Ω->Prop,R (i64 st) w->tU (pm p) w R:=by
  intro R hR;unfold tU;refine MR h rfl (aT.2 ?_);simp only [show st≠0 from hs,ne_eq,not_false_eq_true,decide_true,aE];exact MR h rfl hR
 exact key _ ⟨rfl,rfl⟩
theorem aMo {f:iK} {r:Rm} {X:Nat->Prop} {sl:O} {fu st:Int} (h:Wh l p q f r X sl fu st w) (hs:st≠0):aD prog 20 #[pm p] w λrv w'=>rv=i64 st/\w'=w:=by
 apply YL;unfold DA;refine ⟨λw'=>w'=w,λ_=>0,rfl,?_⟩;rintro w1 hw _;have hw:=hw.symm;subst hw;refine MR h rfl (aF.2 ?_);simp only [show ¬ st=0 from hs,decide_false,aA];exact MR h rfl ⟨rfl,rfl⟩
end
def XB (p:iG) (X:Nat->Prop):Lb->Nat->Prop
 | .rm,i=>iX p.rp i
 | .im,i=>p.IB i
 | .fo,i=>i=p.fo
 | .fd,i=>FdM p.vs i
 | .ex,i=>X i
 | _,_=>False
structure XF (l:List bF) (X0:Nat->Prop) (p:iG) (r:Rm) (w:Ω):Prop where
 room:jZ p.rp w
 rps:p.rp.size=r.ps.size/\p.rp.ar.map pa=r.ps.ar/\p.rp.tp=r.ps.tp/\p.rp.ts=r.ps.ts
 fld:sN w p.rp.fv p.fo p.vs r.fd
 img:uO p.IB w λw'=>jL w' p.rp.iv l
 sep:Sep (XB p X0) w.heap.size
section
variable {l:List bF} {X0:Nat->Prop} {p:iG} {r:Rm} {w w':Ω}
theorem XF.fr {S:Nat->Prop} (h:XF l X0 p r w) (g:Fr S w w') (hn:∀ a i,a≠Lb.ex->XB p X0 a i->¬ S i):XF l X0 p r w':=
 ⟨h.room.fr g λi hi=>hn .rm i (by intro e;cases e) hi,h.rps,h.fld.fr g (hn .fo _ (by intro e;cases e) rfl) λi hi=>hn .fd i (by intro e;cases e) hi,h.img.fr g λi hi=>hn .im i (by intro e;cases e) hi,h.sep.step g.size .ex λa i ha=>.inl ha⟩
theorem XF.ext (h:XF l X0 p r w) (hx:aG w w'):XF l X0 p r w':=h.fr (Fr.of_ext (S:=λ_=>False) hx) λ_ _ _ _ h=>h
def tY (l:List bF) (who fuel:Nat) (r:Rm):PM:=⟨[],oF l who 0 [],fuel,{ r with ps:={ r.ps with tr:=[] } }⟩
theorem QN (hT:pO l) {who fuel:Nat} (hw:who < l.length) (hfd:LR l r.fd):(tY l who fuel r).ok l:=by
 have hi:=(hT _ (gQ hw)).1.2.2.1;have h0:((aR l who).meth 0).params=[]:=hi.2.2.1;exact ⟨zY hT hw (by have:=hi.1.1;omega) tK (by show (0:Nat)=((aR l who).meth ((0:Nat):Int)).params.length;rw [show (((0:Nat):Int))=0 from rfl,h0];first|rfl|done),trivial,by show 0 < 8;decide,hfd⟩
theorem aOy (h:XF l X0 p r w):aD prog 45 #[lC p.rp] w λrv w'=>rv=i64 (l.length:Int)/\w'=w:=by
 apply aRa;unfold PH;exact ⟨.inl ⟨_,rfl⟩,kK cD iU h.room.room rfl (wZ kM h.img.now ⟨rfl,rfl⟩)⟩
theorem TG:aD prog 46 #[] w λrv w'=>(rv=.pointer (some ⟨w.heap.size,0,none⟩)/\aY w' w.heap.size [.slice none 0 0] 125)/\aG w w':=by
 apply aQz;unfold PG;refine bld aPl [] rfl rfl ?_;exact sO λw1 hb x1=>⟨⟨rfl,hb⟩,x1⟩
theorem aVo (hT:pO l) (h:XF l X0 p r w) {who fuel:Nat} (hw:who < l.length) (hf:fuel<=100000) :
  aD prog 13 #[lC p.rp,i64 (who:Int),i64 (fuel:Int)] w λrv w'=>∃ p' fg fcap q,rv=.tuple #[pm p',i64 0]/\cW l X0 p' fg fcap [] q (tY l who fuel r) w'/\p'.rp.rb=p.rp.rb/\aG w w'/\w.heap.size<=fg/\∀ a i,a≠Lb.ex->WR p' q (λ_=>False) a i->(∃ b,b≠Lb.ex/\XB p X0 b i)\/w.heap.size<=i:=by
 have hi:=(hT _ (gQ hw)).1.2.2.1;have h0:((aR l who).meth ((0:Nat):Int)).params=[]:=hi.2.2.1;apply aRq;unfold QB;refine V.ok (iO underlying26) ?_;simp only [aV,dZ,aH,reduceIte,Bool.false_eq_true];simp only [show ¬ ((fuel:Int) < 0) by omega,show ¬ ((fuel:Int) > 100000) by omega,show ¬ ((who:Int) < 0) by omega,aV,cX,dZ,aH,reduceIte,Bool.false_eq_true,decide_false];refine (aOy h).mono λrv w1 ⟨hrv,hw1⟩=>?_;subst hrv;have hw1:=hw1.symm;subst hw1;simp only [show ¬ ((who:Int)>=(l.length:Int)) by omega,kF,aA,decide_false];refine TG.mono λrv w1 ⟨⟨hrv,hb1⟩,x1⟩=>?_;subst hrv;refine bld aPm [(0,lC p.rp),(1,.pointer (some ⟨w.heap.size,0,none⟩)),(3,i64 (fuel:Int))] rfl rfl ?_;refine sO λw2 hb2 x2=>?_;have hb2:aY w2 w1.heap.size [lC p.rp,.pointer (some ⟨w.heap.size,0,none⟩),.slice none 0 0,i64 (fuel:Int),i64 0] 109:=hb2;have x02:=x1.trans x2;have h2:=h.ext x02;have hb12:=hb1.ext x2;have l1:=hb1.lt;have l2:=hb2.lt;have s1:=x1.size;have s2:=x2.size;refine (WK hT h2.room.room h2.img.now (n:=0) (ptrs:=[]) (sl:=.slice none 0 0) (fu:=(fuel:Int)) (st:=0) (tbv:=.pointer (some ⟨w.heap.size,0,none⟩)) hb2.seg (World.ownsRow_nil _ _ _ _) (by decide) (by intro e;cases e) hw (by have:=hi.1.1;omega) (mth:=0) (pv:=.slice none 0 0) (t:=[]) (aC.nil _ _) (by rw [h0];first|rfl|done)).mono λrv w3 ⟨sl',qn,hq,hnew,hb3,hr3,hsl3,F3⟩=>?_
 obtain ⟨fg,fcap,rfl⟩:=lS hr3 (by decide);have F3':Fr (λi=>i=w1.heap.size) w2 w3:=F3.mono λi hi=>hi.elim id λh=>(by cases h);have s3:=F3.size;have old:∀ {a:Lb} {i:Nat},XB p X0 a i->i < w.heap.size:=λhi=>h.sep.lt _ _ hi;have h3:=h2.fr F3' λa i _ hi he=>by have:=old hi;omega
 have hb13:=F3'.blk hb12 (by omega);have hR:=h3.room.trace hb13 (λhm=>by have:=old (a:=.rm) hm;omega);have x03:aG w w3:=F3'.ext x02 λi hi=>by omega
 have hfg:w2.heap.size<=fg/\¬ pS qn fg:=by
  rcases hsl3 fg rfl with h|h
  ·cases h
  ·exact h
 have hfl:=(hr3.lt fg rfl).2;have hql:=λi hi=>hq.hi i hi;refine ⟨{ p with rp:={ p.rp with tb:=w.heap.size,tv:=.slice none 0 0,tr:=[] },mb:=w1.heap.size },fg,fcap,qn,rfl,⟨⟨hR,?_,h3.fld,h3.img,hb3,hq,⟨λa b i ha hb=>?_,λa i ha=>?_⟩⟩,?_,trivial,List.Pairwise.nil,λa ha=>by simp at ha,λi hi=>⟨λhe=>?_,λa ha=>by simp at ha⟩⟩,rfl,x03,by omega,λa i ha hi=>?_⟩
 ·show (⟨p.rp.size,p.rp.ar.map pa,p.rp.tp,p.rp.ts,[]⟩:PS)=⟨r.ps.size,r.ps.ar,r.ps.tp,r.ps.ts,[]⟩;obtain ⟨e1,e2,e3,e4⟩:=h.rps;rw [e1,e2,e3,e4]
 ·have cls:∀ {a:Lb} {i:Nat},WR { p with rp:={ p.rp with tb:=w.heap.size,tv:=.slice none 0 0,tr:=[] },mb:=w1.heap.size } qn (BX X0 fg []) a i->(XB p X0 a i/\i < w.heap.size)\/(a=.rm/\i=w.heap.size)\/(a=.mb/\i=w1.heap.size)\/(a=.fr/\pS qn i/\w2.heap.size<=i)\/(a=.ex/\i=fg):=by
   intro a i hi;cases a with
   | rm=>
    rcases hi with hi|hi|hi
    ·exact .inl ⟨hi,old (a:=.rm) hi⟩
    ·exact .inr (.inl ⟨rfl,hi⟩)
    ·cases hi
   | mb=>exact .inr (.inr (.inl ⟨rfl,hi⟩))
   | fr=>exact .inr (.inr (.inr (.inl ⟨rfl,hi,hnew i hi⟩)))
   | ex=>
    rcases hi with hi|hi|⟨c,hc,_⟩
    ·exact .inl ⟨hi,old (a:=.ex) hi⟩
    ·exact .inr (.inr (.inr (.inr ⟨rfl,hi⟩)))
    ·simp at hc
   | im=>exact .inl ⟨hi,old (a:=.im) hi⟩
   | fo=>exact .inl ⟨hi,old (a:=.fo) hi⟩
   | fd=>exact .inl ⟨hi,old (a:=.fd) hi⟩
  rcases cls ha with ⟨ha,la⟩|⟨ea,ha⟩|⟨ea,ha⟩|⟨ea,ha,la⟩|⟨ea,ha⟩<;>rcases cls hb with ⟨hb,lb⟩|⟨eb,hb⟩|⟨eb,hb⟩|⟨eb,hb,lb⟩|⟨eb,hb⟩
  all_goals first|exact h.sep.dj a b i ha hb|(rw [ea,eb];done)|(exfalso;omega)|(exfalso;exact hfg.2 (hb▸ha))|(exfalso;exact hfg.2 (ha▸hb))
 ·cases a with
  | rm=>
   rcases ha with hi|hi|hi
   ·have:=old (a:=.rm) hi;omega
   ·have hi:i=w.heap.size:=hi;omega
   ·cases hi
  | mb=>have ha:i=w1.heap.size:=ha;omega
  | fr=>exact hql i ha
  | ex=>
   rcases ha with hi|hi|⟨c,hc,_⟩
   ·have:=old (a:=.ex) hi;omega
   ·rw [hi];exact hfl
   ·simp at hc
  | im=>have:=old (a:=.im) ha;omega
  | fo=>have:=old (a:=.fo) ha;omega
  | fd=>have:=old (a:=.fd) ha;omega
 ·exact hr3
 ·have:=old (a:=.ex) hi;omega
 ·cases a with
  | rm=>
   rcases hi with hi|hi|hi
   ·exact .inl ⟨.rm,(by intro e;cases e),hi⟩
   ·have hi:i=w.heap.size:=hi;exact .inr (by omega)
   ·cases hi
  | mb=>have hi:i=w1.heap.size:=hi;exact .inr (by omega)
  | fr=>have:=hnew i hi;exact .inr (by omega)
  | ex=>exact absurd rfl ha
  | im=>exact .inl ⟨.im,(by intro e;cases e),hi⟩
  | fo=>exact .inl ⟨.fo,(by intro e;cases e),hi⟩
  | fd=>exact .inl ⟨.fd,(by intro e;cases e),hi⟩
end
abbrev pt (b:Nat):O:=.pointer (some ⟨b,0,none⟩)
abbrev nl:O:=.slice none 0 0
def oZ:List bS:=[⟨-1,3,0,false,.slice none 0 0,[]⟩,⟨-1,4,0,false,.slice none 0 0,[]⟩]
theorem qT:∀ a∈oZ,a.dv=.slice none 0 0/\a.data=[]:=λa ha=>by
 simp only [oZ,List.mem_cons,List.not_mem_nil,or_false] at ha;rcases ha with rfl|rfl<;>exact ⟨rfl,rfl⟩
theorem mJ:∀ a∈oZ,a.dv.ownBlock=none:=λa ha=>by rw [(qT a ha).1];rfl
theorem FF {w:Ω} {size:Int} (h1:64<=size) (h2:size<=4096):aD prog 73 #[i64 size] w λr w'=>(∃ hb,r=.tuple #[.pointer (some ⟨hb,0,none⟩),i64 0]/\w.heap.size < hb/\eZ w' hb w.heap.size size w.heap.size 2 oZ)/\aG w w':=by
 apply aQp;unfold OX;refine aV.2 ?_;simp only [show ¬ size < 64 by omega,cX,dZ,aH,reduceIte,Bool.false_eq_true,decide_false];simp only [show ¬ size > 4096 by omega,aA,decide_false];refine bld kZ [(0,i64 (-1)),(1,i64 3)] rfl rfl ?_;refine bld kZ [(0,i64 (-1)),(1,i64 4)] rfl rfl ?_;refine V.ok (v:=.slice (some ⟨w.heap.size,0,none⟩) 2 2) (w':=w.alloc (.cells (iD oZ).toArray 127)) (by kernel_rfl) ?_;have hab:aY (w.alloc (.cells (iD oZ).toArray 127)) w.heap.size (iD oZ) 127:=by unfold aY;rw [heap_alloc_new]
 have hx1:aG w (w.alloc (.cells (iD oZ).toArray 127)):=(aG.refl w).alloc _;generalize w.alloc (.cells (iD oZ).toArray 127)=w1 at hab hx1 ⊢;refine bld aPh [(0,i64 size),(1,.slice (some ⟨w.heap.size,0,none⟩) 2 2)] rfl rfl ?_;refine sO λw2 hhb x2=>?_;have hl:=hab.lt;have hl2:=hhb.lt;refine ⟨⟨_,rfl,by omega,⟨hhb,dX (hab.ext x2) rfl (Nat.le_refl _) (by unfold maxLen;decide),λa ha=>?_,λa ha=>?_,λi j a b x hi _ hx=>?_,λa ha=>?_,by omega,by decide,by omega,λa ha=>?_⟩⟩,hx1.trans x2⟩
 ·rw [(qT a ha).1,(qT a ha).2];exact ⟨rfl,.inl ⟨rfl,rfl⟩⟩
 ·rw [(qT a ha).2];exact Nat.zero_le _
 ·rw [mJ a (List.mem_of_getElem? hi)] at hx;cases hx
 iterate 2
  ·rw [mJ a ha];exact λh=>by cases h
theorem uS {w:Ω} {size:Int} (h1:64<=size) (h2:size<=4096):aD prog 33 #[i64 size] w λr w'=>(∃ rb hb,r=.tuple #[pt rb,i64 0]/\w.heap.size < hb/\hb < rb/\aY w' rb [pt hb,nl,nl,nl,nl] 134/\eZ w' hb w.heap.size size w.heap.size 2 oZ)/\aG w w':=by
 apply aRk;unfold PO;refine (FF h1 h2).mono λr w1 ⟨⟨hb,hr,hbw,hh⟩,x1⟩=>?_;subst hr;refine cH.2 (cG.2 (aT.2 ?_));simp only [ne_eq,not_true_eq_false,aA,decide_false];refine bld aPk [(0,.pointer (some ⟨hb,0,none⟩))] rfl rfl ?_;refine sO λw2 hrb x2=>?_;exact ⟨⟨_,hb,rfl,hbw,hh.heap.lt,hrb,hh.ext x2⟩,x1.trans x2⟩
theorem KC {w:Ω} {size:Int}:aD prog 85 #[i64 size] w λr w'=>(∃ yb,r=pt yb/\w.heap.size < yb/\aY w' yb [i64 size,.slice (some ⟨w.heap.size,0,none⟩) 2 2] 156/\aY w' w.heap.size (iD oZ) 127)/\aG w w':=by
 apply aQm;unfold OV;refine bld kZ [(0,i64 (-1)),(1,i64 3)] rfl rfl ?_;refine bld kZ [(0,i64 (-1)),(1,i64 4)] rfl rfl ?_;refine V.ok (v:=.slice (some ⟨w.heap.size,0,none⟩) 2 2) (w':=w.alloc (.cells (iD oZ).toArray 127)) (by kernel_rfl) ?_;have hab:aY (w.alloc (.cells (iD oZ).toArray 127)) w.heap.size (iD oZ) 127:=by unfold aY;rw [heap_alloc_new]
 have hx1:aG w (w.alloc (.cells (iD oZ).toArray 127)):=(aG.refl w).alloc _;generalize w.alloc (.cells (iD oZ).toArray 127)=w1 at hab hx1 ⊢;refine bld aPi [(0,i64 size),(1,.slice (some ⟨w.heap.size,0,none⟩) 2 2)] rfl rfl ?_;refine sO λw2 hhb x2=>?_;exact ⟨⟨_,rfl,hab.lt,hhb,hab.ext x2⟩,hx1.trans x2⟩
theorem KB {w:Ω} {size:Int}:aD prog 40 #[i64 size] w λr w'=>(∃ xb yb,r=pt xb/\w.heap.size < yb/\yb < xb/\aY w' xb [pt yb,nl,nl,nl,nl] 139/\aY w' yb [i64 size,.slice (some ⟨w.heap.size,0,none⟩) 2 2] 156/\aY w' w.heap.size (iD oZ) 127)/\aG w w':=by
 apply aRf;unfold PK;refine KC.mono λr w1 ⟨⟨yb,hr,hyw,hy,ha⟩,x1⟩=>?_;subst hr;refine bld aPj [(0,pt yb)] rfl rfl ?_;refine sO λw2 hrb x2=>?_;exact ⟨⟨_,yb,rfl,hyw,hy.lt,hrb,hy.ext x2,ha.ext x2⟩,x1.trans x2⟩
def BR (p:iG):Lb->Nat->Prop
 | .rm,i=>iX p.rp i
 | .im,i=>p.IB i
 | .fo,i=>p.rp.fv.ownBlock=some i
 | .fd,i=>FdM p.vs i
 | .mb,i=>p.rp.iv.ownBlock=some i
 | _,_=>False
structure QH (l:List bF) (p:iG) (fd:List (List Int)) (B:Nat) (w:Ω):Prop where
 room:jZ p.rp w
 iv:∃ cs,w.ownsRow 0 46 5 p.rp.iv l.length cs/\∀ (k:Nat) i,l[k]?=some i->∃ pk:cN,(cs.drop (k*5)).take 5=pk.cells i/\uO p.IB w λw'=>hJ w' pk i
 fv:w.ownsRow 0 37 1 p.rp.fv fd.length p.vs
 row:∀ (k:Nat) v d,p.vs[k]?=some v->fd[k]?=some d->w.ownsRow 0 21 1 v d.length (d.map i32)
 dj:∀ (j k:Nat) u v i,p.vs[j]?=some u->p.vs[k]?=some v->u.ownBlock=some i->v.ownBlock=some i->j=k
 sep:Sep (BR p) w.heap.size
 ge:∀ a i,BR p a i->B<=i
 hB:B<=w.heap.size
section
variable {l:List bF} {p:iG} {fd:List (List Int)} {B:Nat} {w w':Ω}
theorem QH.ext (h:QH l p fd B w) (hx:aG w w'):QH l p fd B w':=by
 obtain ⟨cs,h1,h2⟩:=h.iv;refine ⟨h.room.ext hx,⟨cs,hx.own h1,λk i hk=>?_⟩,hx.own h.fv,λk v d hk hd=>hx.own (h.row k v d hk hd),h.dj,h.sep.step hx.size .ex λa i ha=>.inl ha,h.ge,Nat.le_trans h.hB hx.size⟩;obtain ⟨pk,h3,h4⟩:=h2 k i hk;exact ⟨pk,h3,h4.ext hx⟩
theorem AA {α:Type} {sz:Nat} {cs row:List O} {l:List α} {k:Nat} {x:α} (hl:cs.length=l.length*sz) (hk:k < l.length):((cs++row).drop (k*sz)).take sz=(cs.drop (k*sz)).take sz:=by
 have h1:k*sz+sz<=cs.length:=by
  have:=Nat.mul_le_mul_right sz (show k+1<=l.length by omega);rw [Nat.add_mul,Nat.one_mul] at this;omega
 rw [List.drop_append_of_le_length (by omega),List.take_append_of_le_length (by rw [List.length_drop];omega)]
theorem aLr {w:Ω} {p:cN} {i:bF} {K:O->Ω->Prop} (h1:∃ a n c,p.fv=.slice a n c) (h2:∃ a n c,p.iv=.slice a n c) (h3:∃ a n c,p.mv=.slice a n c) (h4:∃ a n c,p.xv=.slice a n c)
  (hk:∀ w1,aY w1 w.heap.size (p.cells i) 46->aG w w1->K (.slice (some ⟨w.heap.size,0,none⟩) 1 1) w1):V prog (Instr.buildSlice 24 1 #[(0,p.val i)]) w K:=by
 obtain ⟨fv,iv,mv,xv⟩:=p;obtain ⟨a1,n1,c1,rfl⟩:=h1;obtain ⟨a2,n2,c2,rfl⟩:=h2;obtain ⟨a3,n3,c3,rfl⟩:=h3;obtain ⟨a4,n4,c4,rfl⟩:=h4;refine V.ok (v:=.slice (some ⟨w.heap.size,0,none⟩) 1 1) (w':=w.alloc (.cells (cN.cells ⟨.slice a1 n1 c1,.slice a2 n2 c2,.slice a3 n3 c3,.slice a4 n4 c4⟩ i).toArray 46)) (by kernel_rfl) ?_;exact hk _ (by unfold aY;rw [heap_alloc_new]) ((aG.refl _).alloc _)
theorem oV.shapes {B:Nat} {p:cN} {i:bF} (h:oV B w p i):(∃ a n c,p.fv=.slice a n c)/\(∃ a n c,p.iv=.slice a n c)/\(∃ a n c,p.mv=.slice a n c)/\∃ a n c,p.xv=.slice a n c:=by
 obtain ⟨h1,h2,⟨c1,h3,_⟩,c2,h5,_⟩:=h;obtain ⟨a1,b1,e1⟩:=(aC.of_own h1).shape;obtain ⟨a2,b2,e2⟩:=(aC.of_own h3).shape;obtain ⟨a3,b3,e3⟩:=(aC.of_own h5).shape;obtain ⟨a4,b4,e4⟩:=(aC.of_own h2).shape;exact ⟨⟨_,_,_,e1⟩,⟨_,_,_,e2⟩,⟨_,_,_,e3⟩,_,_,_,e4⟩
theorem xW (h:QH l p fd B w) (hl4:l.length < 4) (hfl:fd.length=l.length) {q:cN} {i:bF} (hA:hJ w q i) (hi:i.right) :
  aD prog 35 #[lC p.rp,q.val i] w λrv w'=>∃ p',rv=.tuple #[i64 (l.length:Int),.bool true]/\QH (l++[i]) p' (fd++[List.replicate i.fields.length 0]) B w'/\p'.rp.rb=p.rp.rb/\p'.rp.ps=p.rp.ps/\Fr (λi=>∃ a,BR p a i) w w'/\∀ a i,BR p' a i->BR p a i\/w.heap.size<=i:=by
 have hfn:=hi.1.2;obtain ⟨cs,hiv,hrows⟩:=h.iv;have hBw:=h.hB;apply aRj;suffices key:∀ R:O->Ω->Prop,(∀ p' w',QH (l++[i]) p' (fd++[List.replicate i.fields.length 0]) B w'->p'.rp.rb=p.rp.rb->p'.rp.ps=p.rp.ps->Fr (λi=>∃ a,BR p a i) w w'->(∀ a i,BR p' a i->BR p a i\/w.heap.size<=i)->R (.tuple #[i64 (l.length:Int),.bool true]) w')->CZ (lC p.rp) (q.val i) w R from key _ λp' w' h1 h2 h3 h4 h5=>⟨p',rfl,h1,h2,h3,h4,h5⟩;intro R hR;unfold CZ;refine sO λw1 hb x1=>?_;have hb:aY w1 w.heap.size (q.cells i) 46:=hb;have lb:=hb.lt;have rm1:=h.room.room.ext x1;obtain ⟨ia,ic,hie⟩:=(aC.of_own hiv).shape;refine ⟨.inl ⟨_,rfl⟩,?_⟩;refine kK cD iU rm1 rfl (gD kM (aC.of_own (x1.own hiv)) (kF.2 ?_));simp only [show ¬ (((l.length:Nat):Int)>=4) by omega,decide_false,aA];have D1:aG w1 w1.drew:=(aG.refl _).drew;have rbl:p.rp.rb < w.heap.size:=h.room.room.lt;have oldl:∀ {a:Lb} {i:Nat},BR p a i->i < w.heap.size:=λhi=>h.sep.lt _ _ hi;have ivrb:p.rp.iv.ownBlock≠some p.rp.rb:=λhe=>by cases h.sep.dj .mb .rm _ he (.inl rfl)
 have fvrb:p.rp.fv.ownBlock≠some p.rp.rb:=λhe=>by cases h.sep.dj .fo .rm _ he (.inl rfl)
 refine aI.mk' (λw'=>Fr (λi=>p.rp.iv.ownBlock=some i) w1 w') (Fr.of_ext D1) ⟨.inl ⟨_,rfl⟩,?_⟩;refine DI cD iU (λw' hw=>hw.seg rm1 ivrb) rfl ?_;refine yA (λw' hw=>(hw.blk hb λhe=>by have:=oldl (a:=.mb) he;omega).boxed) jQ rfl ?_;refine (AJ (hA.ext (x1.trans D1)) hi).mono λrv w2 ⟨p2,hrv,hO,x2⟩=>?_;subst hrv;have x12:=D1.trans x2;have s1:=x1.size;have sD:=D1.size;have s2:=x2.size;refine ⟨Fr.of_ext x12,?_⟩;obtain ⟨sh1,sh2,sh3,sh4⟩:=hO.shapes;refine aLr sh1 sh2 sh3 sh4 λw3 hb3 x3=>?_;have x13:=x12.trans x3;refine ⟨Fr.of_ext x13,?_⟩;have l3:=hb3.lt;have s3:=x3.size;have hiv3:=(x1.trans x13).own hiv;refine apZ underlying24 iE rfl (by omega) hiv3 (dX hb3 rfl (Nat.zero_le _) (by unfold maxLen;omega)) (by decide) hO.one (by omega) (by unfold maxLen;omega) (Nat.zero_le _) λg' cap' w4 ho4 hg4 hlies=>?_;have f4:Fr (λi=>p.rp.iv.ownBlock=some i) w3 w4:=Fr.of_grown hg4 λk hk=>hk;have f14:Fr (λi=>p.rp.iv.ownBlock=some i) w1 w4:=(Fr.of_ext (S:=λi=>p.rp.iv.ownBlock=some i) x13).trans f4 λ_ _ h=>h;refine ⟨f14,.inl ⟨_,rfl⟩,?_⟩;refine yFA cD ?_;have rm4:=f14.seg rm1 ivrb;refine oP NO rm4 (show 1 < 5 by decide) rfl ?_;have f5:Fr (λi=>i=p.rp.rb) w4 (w4.setCell ⟨p.rp.rb,0+1,none⟩ (.slice (some ⟨g',0,none⟩) (l.length+1) cap')):=Fr.of_set rfl;have rm5:=rm4.set (j:=1) (by simp) (.slice (some ⟨g',0,none⟩) (l.length+1) cap')
 have s4:=f4.size
 have hg':p.rp.iv.ownBlock=some g'\/w2.heap.size < g'/\g'=w3.heap.size:=by
  rcases hlies with hl|hl
  ·exact .inl hl
  ·exact .inr (by omega)
 have hgrb:g'≠p.rp.rb:=λhe=>by
  rcases hg' with h'|h'
  ·exact ivrb (he▸h')
  ·omega
 have ho5:=f5.own ho4 λi hi he=>hgrb ((show g'=i by simpa [Value.ownBlock] using hi).trans he);have hb5:aY (w4.setCell ⟨p.rp.rb,0+1,none⟩ (.slice (some ⟨g',0,none⟩) (l.length+1) cap')) w.heap.size (q.cells i) 46:=f5.blk (f14.blk hb λhe=>by have:=oldl (a:=.mb) he;omega) (by omega);generalize w4.setCell ⟨p.rp.rb,0+1,none⟩ (.slice (some ⟨g',0,none⟩) (l.length+1) cap')=w5 at f5 rm5 ho5 hb5 ⊢;have s5:=f5.size;have F15:Fr (λi=>i=p.rp.rb\/p.rp.iv.ownBlock=some i) w1 w5:=(f14.or f5).mono λi hi=>hi.symm;have rm5:lM w5 p.rp.rb 0 [.pointer (some ⟨p.rp.hb,0,none⟩),.slice (some ⟨g',0,none⟩) (l.length+1) cap',p.rp.fv,p.rp.pub,p.rp.sec]:=rm5;have D5:aG w5 w5.drew:=(aG.refl _).drew
 have hfv5:=F15.own (x1.own h.fv) λi hi hs=>by
  rcases hs with hs|hs
  ·exact fvrb (hs▸hi)
  ·cases h.sep.dj .fo .mb _ hi hs
 refine aI.mk' (λw'=>Fr (λi=>p.rp.fv.ownBlock=some i) w5 w') (Fr.of_ext D5) ⟨.inl ⟨_,rfl⟩,?_⟩;refine DI cV gK (λw' hw=>hw.seg rm5 fvrb) rfl ?_;refine dU (λw' hw=>(hw.blk hb5 λhe=>by have:=oldl (a:=.fo) he;omega).boxed) iA aZ rfl ?_;obtain ⟨qa,qc,hqe⟩:=hA.fl.shape;rw [hqe];refine aB.ok (λw' _=>kS underlying42) ?_;refine wX (n:=i.fields.length) rfl underlying37 tJ rfl (by omega) (by omega) λw6 hb6 x6 hs6=>?_;have x56:=D5.trans x6;refine ⟨Fr.of_ext x56,?_⟩;refine kC JI [.slice (some ⟨w5.drew.heap.size,0,none⟩) i.fields.length i.fields.length] rfl rfl (by simp) rfl λv7 w7 ho7 x7=>?_;have x57:=x56.trans x7;refine ⟨Fr.of_ext x57,?_⟩;have sD5:=D5.size;have s6:=x6.size;have s7:=x7.size;refine apL JI (x57.own hfv5) ho7 (by decide) (by rfl) (by omega) (by unfold maxLen;omega) (Nat.zero_le _) λg2 cap2 w8 ho8 hg8 hlies8=>?_;have f8:Fr (λi=>p.rp.fv.ownBlock=some i) w7 w8:=Fr.of_grown hg8 λk hk=>hk;have f58:Fr (λi=>p.rp.fv.ownBlock=some i) w5 w8:=(Fr.of_ext (S:=λi=>p.rp.fv.ownBlock=some i) x57).trans f8 λ_ _ h=>h;refine ⟨f58,.inl ⟨_,rfl⟩,?_⟩;refine yFA cV ?_;have rm8:=f58.seg rm5 fvrb;refine oP BZ rm8 (show 2 < 5 by decide) rfl ?_;have f9:Fr (λi=>i=p.rp.rb) w8 (w8.setCell ⟨p.rp.rb,0+2,none⟩ (.slice (some ⟨g2,0,none⟩) (fd.length+1) cap2)):=Fr.of_set rfl;have rm9:=rm8.set (j:=2) (by simp) (.slice (some ⟨g2,0,none⟩) (fd.length+1) cap2)
 have s8:=f8.size
 have hg2:p.rp.fv.ownBlock=some g2\/w6.heap.size < g2/\g2=w7.heap.size:=by
  rcases hlies8 with hl|hl
  ·exact .inl hl
  ·have:=ho7.lt;refine .inr ⟨?_,hl⟩;have h7:=lS ho7 (by decide);obtain ⟨g7,_,e7⟩:=h7;have:=ho7.lt g7 (by rw [e7];rfl);omega
 have hg2rb:g2≠p.rp.rb:=λhe=>by
  rcases hg2 with h'|h'
  ·exact fvrb (he▸h')
  ·omega
 have ho9:=f9.own ho8 λi hi he=>hg2rb ((show g2=i by simpa [Value.ownBlock] using hi).trans he);have rm9:lM (w8.setCell ⟨p.rp.rb,0+2,none⟩ (.slice (some ⟨g2,0,none⟩) (fd.length+1) cap2)) p.rp.rb 0 [.pointer (some ⟨p.rp.hb,0,none⟩),.slice (some ⟨g',0,none⟩) (l.length+1) cap',.slice (some ⟨g2,0,none⟩) (fd.length+1) cap2,p.rp.pub,p.rp.sec]:=rm9;generalize w8.setCell ⟨p.rp.rb,0+2,none⟩ (.slice (some ⟨g2,0,none⟩) (fd.length+1) cap2)=w9 at f9 rm9 ho9 ⊢;have s9:=f9.size;refine ⟨.inl ⟨_,rfl⟩,?_⟩;refine kK cD iU rm9 rfl (aFb.2 (iJ.2 ?_));rw [show IntKind.i64.wrap (((l.length+1:Nat):Int) - 1)=(l.length:Int) from by rw [aX (by omega)];omega];have F59:Fr (λi=>i=p.rp.rb\/p.rp.fv.ownBlock=some i) w5 w9:=(f58.or f9).mono λi hi=>hi.symm
 have F19:Fr (λi=>i=p.rp.rb\/p.rp.iv.ownBlock=some i\/p.rp.fv.ownBlock=some i) w1 w9:=(F15.or F59).mono λi hi=>by
  rcases hi with (h|h)|h|h
  ·exact .inl h
  ·exact .inr (.inl h)
  ·exact .inl h
  ·exact .inr (.inr h)
 have F09:Fr (λi=>i=p.rp.rb\/p.rp.iv.ownBlock=some i\/p.rp.fv.ownBlock=some i) w w9:=(Fr.of_ext (S:=λi=>i=p.rp.rb\/p.rp.iv.ownBlock=some i\/p.rp.fv.ownBlock=some i) x1).trans F19 λ_ _ h=>h
 have no:∀ {a:Lb} {j:Nat},a≠.mb->a≠.fo->BR p a j->j≠p.rp.rb->¬ (j=p.rp.rb\/p.rp.iv.ownBlock=some j\/p.rp.fv.ownBlock=some j):=λ{a j} h1 h2 hj hr hs=>by
  rcases hs with hs|hs|hs
  ·exact hr hs
  ·exact h1 (h.sep.dj a .mb j hj hs)
  ·exact h2 (h.sep.dj a .fo j hj hs)
 have nrm:∀ {a:Lb} {j:Nat},a≠.rm->BR p a j->j≠p.rp.rb:=λ{a j} ha hj he=>ha (h.sep.dj a .rm j hj (.inl he));have hg'9:g' < w9.heap.size:=by have:=(ho5.lt g' rfl).2;omega
 have hg29:g2 < w9.heap.size:=(ho9.lt g2 rfl).2;have l6:=hb6.lt;have ho6:w6.ownsRow 0 21 1 (.slice (some ⟨w5.drew.heap.size,0,none⟩) i.fields.length i.fields.length) i.fields.length (List.replicate i.fields.length (i32 0)):=dX hb6 (by simp) (Nat.zero_le _) (by unfold maxLen;omega)
 have ho69:=f9.own (f8.own (x7.own ho6) λj hj hs=>by
   have hj:w5.drew.heap.size=j:=by simpa [Value.ownBlock] using hj
   have:=oldl (a:=.fo) hs;omega) λj hj hs=>by
   have hj:w5.drew.heap.size=j:=by simpa [Value.ownBlock] using hj
   omega
 have mu':∀ j,iX { p.rp with iv:=.slice (some ⟨g',0,none⟩) (l.length+1) cap',fv:=.slice (some ⟨g2,0,none⟩) (fd.length+1) cap2 } j↔iX p.rp j:=λj=>Iff.rfl
 have hO9:uO (λj=>w1.drew.heap.size<=j/\j < w2.heap.size) w9 λw'=>hJ w' p2 i:=by
  have d0:uO (λj=>w1.drew.heap.size<=j/\j < w2.heap.size) w2 λw'=>hJ w' p2 i:=(hO.dep.lt).imp λw' h=>h.at_;have d4:=(d0.ext x3).fr f4 λj hj hs=>by have:=oldl (a:=.mb) hs;omega
  have d5:=d4.fr f5 λj hj he=>by omega
  have d8:=(d5.ext x57).fr f8 λj hj hs=>by have:=oldl (a:=.fo) hs;omega
  exact d8.fr f9 λj hj he=>by omega
 have cls:∀ {a:Lb} {j:Nat},BR { p with rp:={ p.rp with iv:=.slice (some ⟨g',0,none⟩) (l.length+1) cap',fv:=.slice (some ⟨g2,0,none⟩) (fd.length+1) cap2 },vs:=p.vs++[.slice (some ⟨w5.drew.heap.size,0,none⟩) i.fields.length i.fields.length],IB:=λj=>p.IB j\/(w1.drew.heap.size<=j/\j < w2.heap.size) } a j ->
   (BR p a j/\j < w.heap.size)\/(a=.mb/\w2.heap.size < j/\j < w4.heap.size)\/(a=.fo/\w6.heap.size < j/\j < w9.heap.size)\/(a=.fd/\j=w5.drew.heap.size)\/(a=.im/\w1.drew.heap.size<=j/\j < w2.heap.size):=by
  intro a j hj;cases a with
  | rm=>exact .inl ⟨hj,oldl (a:=.rm) hj⟩
  | im=>
   rcases hj with hj|hj
   ·exact .inl ⟨hj,oldl (a:=.im) hj⟩
   ·exact .inr (.inr (.inr (.inr ⟨rfl,hj⟩)))
  | fo=>
   have hj:g2=j:=by simpa [BR,Value.ownBlock] using hj
   subst hj;rcases hg2 with h'|h'
   ·exact .inl ⟨h',oldl (a:=.fo) h'⟩
   ·exact .inr (.inr (.inl ⟨rfl,h'.1,hg29⟩))
  | fd=>
   obtain ⟨v,hv,hj⟩:=hj;rcases List.mem_append.1 hv with hv|hv
   ·exact .inl ⟨⟨v,hv,hj⟩,oldl (a:=.fd) ⟨v,hv,hj⟩⟩
   ·rw [List.mem_singleton] at hv;subst hv;have hj:w5.drew.heap.size=j:=by simpa [Value.ownBlock] using hj
    exact .inr (.inr (.inr (.inl ⟨rfl,hj.symm⟩)))
  | mb=>
   have hj:g'=j:=by simpa [BR,Value.ownBlock] using hj
   subst hj;rcases hg' with h'|h'
   ·exact .inl ⟨h',oldl (a:=.mb) h'⟩
   ·exact .inr (.inl ⟨rfl,h'.1,(ho4.lt g' rfl).2⟩)
  | fr=>exact hj.elim
  | ex=>exact hj.elim
 refine hR { p with rp:={ p.rp with iv:=.slice (some ⟨g',0,none⟩) (l.length+1) cap',fv:=.slice (some ⟨g2,0,none⟩) (fd.length+1) cap2 },vs:=p.vs++[.slice (some ⟨w5.drew.heap.size,0,none⟩) i.fields.length i.fields.length],IB:=λj=>p.IB j\/(w1.drew.heap.size<=j/\j < w2.heap.size) } w9 ⟨?_,?_,?_,λk v d hk hd=>?_,λj k u v x hj hk hu hv=>?_,?_,λa j hj=>?_,by omega⟩ rfl rfl (F09.mono λj hj=>?_) λa j hj=>?_
 ·-- the room's box, and the rest
  have H:=h.room;have F0:=F09;have nrb:∀ {j},iX p.rp j->j≠p.rp.rb->¬ (j=p.rp.rb\/p.rp.iv.ownBlock=some j\/p.rp.fv.ownBlock=some j):=λhm hr=>no (a:=.rm) (by intro e;cases e) (by intro e;cases e) hm hr
  exact ⟨rm9,H.h.frT F0 λj hs=>⟨λe=>nrb (.inr (.inl e)) (λe2=>H.lt (e2.symm.trans e)) hs,λe=>nrb (.inr (.inr (.inl e))) (λe2=>(H.fresh p.rp.rb (.inl rfl)).1 (e2.symm.trans e)) hs,λa ha e=>nrb (.inr (.inr (.inr (.inl ⟨a,ha,e⟩)))) (λe2=>(H.fresh p.rp.rb (.inl rfl)).2.1 a ha (e2▸e)) hs⟩,
   F0.own H.qp λj hj=>nrb (.inr (.inr (.inr (.inr (.inl hj))))) λe=>(H.fresh p.rp.rb (.inl rfl)).2.2.1 (e▸hj),F0.own H.qs λj hj=>nrb (.inr (.inr (.inr (.inr (.inr hj))))) λe=>(H.fresh p.rp.rb (.inl rfl)).2.2.2 (e▸hj),H.lp,H.ls,H.ne,H.np,H.ns,H.gp,H.gs,H.lt,H.fresh,H.two,H.sz,H.bytes⟩
 ·refine ⟨cs++p2.cells i,?_,λk x hk=>?_⟩
  ·have:=f9.own (f58.own ho5 λj hj hs=>?_) λj hj he=>?_
   ·simpa using this
   ·have hj:g'=j:=by simpa [Value.ownBlock] using hj
    subst hj;rcases hg' with h'|h'
    ·cases h.sep.dj .mb .fo _ h' hs
    ·have:=oldl (a:=.fo) hs;omega
   ·have hj:g'=j:=by simpa [Value.ownBlock] using hj
    exact hgrb (hj.trans he)
  ·by_cases hkl:k < l.length
   ·rw [List.getElem?_append_left hkl] at hk;obtain ⟨pk,e1,e2⟩:=hrows k x hk;refine ⟨pk,by rw [AA (l:=l) (x:=x) hiv.1 hkl];exact e1,?_⟩;have d1:=e2.fr F09 λj hj hs=>no (a:=.im) (by intro e;cases e) (by intro e;cases e) hj (nrm (a:=.im) (by intro e;cases e) hj) hs;exact d1.mono λj _ hj=>.inl hj
   ·have hkk:k=l.length:=by have:=(List.getElem?_eq_some_iff.1 hk).1;simp at this;omega
    subst hkk;rw [List.getElem?_concat_length] at hk;cases hk;refine ⟨p2,?_,hO9.mono λj _ hj=>.inr hj⟩;rw [<- hiv.1,List.drop_left];rfl
 ·simpa using ho9
 ·by_cases hkl:k < fd.length
  ·rw [List.getElem?_append_left hkl] at hd;have hlv:p.vs.length=fd.length:=by have:=h.fv.1;omega
   rw [List.getElem?_append_left (by omega)] at hk;have hm:=List.mem_of_getElem? hk;exact F09.own (h.row k v d hk hd) λj hj hs=>no (a:=.fd) (by intro e;cases e) (by intro e;cases e) ⟨v,hm,hj⟩ (nrm (a:=.fd) (by intro e;cases e) ⟨v,hm,hj⟩) hs
  ·have hkk:k=fd.length:=by have:=(List.getElem?_eq_some_iff.1 hd).1;simp at this;omega
   subst hkk;have hlv:p.vs.length=fd.length:=by have:=h.fv.1;omega
   rw [List.getElem?_concat_length] at hd;rw [<- hlv,List.getElem?_concat_length] at hk;cases hd;cases hk;simpa using ho69
 ·have hlv:p.vs.length=fd.length:=by have:=h.fv.1;omega
  have cls:∀ {j:Nat} {u:O},(p.vs++[Value.slice (some ⟨w5.drew.heap.size,0,none⟩) i.fields.length i.fields.length])[j]?=some u->(p.vs[j]?=some u)\/(j=p.vs.length/\u=Value.slice (some ⟨w5.drew.heap.size,0,none⟩) i.fields.length i.fields.length):=λ{j u} hj=>by
   by_cases hjl:j < p.vs.length
   ·rw [List.getElem?_append_left hjl] at hj;exact .inl hj
   ·have hjj:j=p.vs.length:=by have:=(List.getElem?_eq_some_iff.1 hj).1;simp at this;omega
    subst hjj;rw [List.getElem?_concat_length] at hj;exact .inr ⟨rfl,(Option.some.inj hj).symm⟩
  rcases cls hj with hj|⟨hj,rfl⟩<;>rcases cls hk with hk|⟨hk,rfl⟩
  ·exact h.dj j k u v x hj hk hu hv
  ·have:=oldl (a:=.fd) ⟨u,List.mem_of_getElem? hj,hu⟩;have hv:w5.drew.heap.size=x:=by simpa [Value.ownBlock] using hv
   omega
  ·have:=oldl (a:=.fd) ⟨v,List.mem_of_getElem? hk,hv⟩;have hu:w5.drew.heap.size=x:=by simpa [Value.ownBlock] using hu
   omega
  ·omega
 ·-- apart
  refine ⟨λa b j ha hb=>?_,λa j ha=>?_⟩
  ·rcases cls ha with ⟨ha,la⟩|⟨ea,la,lb⟩|⟨ea,la,lb⟩|⟨ea,ha⟩|⟨ea,la,lb⟩<;>rcases cls hb with ⟨hb,ma⟩|⟨eb,ma,mb⟩|⟨eb,ma,mb⟩|⟨eb,hb⟩|⟨eb,ma,mb⟩
   all_goals first|exact h.sep.dj a b j ha hb|(rw [ea,eb];done)|(exfalso;omega)
  ·rcases cls ha with ⟨_,_⟩|⟨_,_⟩|⟨_,_⟩|⟨_,_⟩|⟨_,_⟩<;>omega
 ·have old:=λhx=>h.ge a j hx;cases a with
  | rm=>exact h.ge .rm j hj
  | im=>
   rcases hj with hj|hj
   ·exact h.ge .im j hj
   ·omega
  | fo=>
   have hj:g2=j:=by simpa [BR,Value.ownBlock] using hj
   subst hj;rcases hg2 with h'|h'
   ·exact h.ge .fo _ h'
   ·omega
  | fd=>
   obtain ⟨v,hv,hj⟩:=hj;rcases List.mem_append.1 hv with hv|hv
   ·exact h.ge .fd j ⟨v,hv,hj⟩
   ·rw [List.mem_singleton] at hv;subst hv;have hj:w5.drew.heap.size=j:=by simpa [Value.ownBlock] using hj
    omega
  | mb=>
   have hj:g'=j:=by simpa [BR,Value.ownBlock] using hj
   subst hj;rcases hg' with h'|h'
   ·exact h.ge .mb _ h'
   ·omega
  | fr=>exact hj.elim
  | ex=>exact hj.elim
 ·rcases hj with hj|hj|hj
  ·rw [hj];exact ⟨.rm,.inl rfl⟩
  ·exact ⟨.mb,hj⟩
  ·exact ⟨.fo,hj⟩
 ·rcases cls hj with ⟨hj,_⟩|⟨_,h2,_⟩|⟨_,h2,_⟩|⟨_,h2⟩|⟨_,h2,_⟩
  ·exact .inl hj
  all_goals exact .inr (by omega)
end
def SX (q:QP) (i:Nat):Prop:=i=q.xb\/i=q.yb
structure pL (q:QP) (w:Ω):Prop where
 xbox:lM w q.xb 0 [pt q.yb,q.iv,q.fv,q.pub,q.sec]
 ybox:aY w q.yb [i64 q.size,.slice (some ⟨q.g,0,none⟩) q.ar.length q.cap] 156
 list:w.ownsRow 0 127 5 (.slice (some ⟨q.g,0,none⟩) q.ar.length q.cap) q.ar.length (iD q.ar)
 data:∀ a∈q.ar,w.ownsRow 0 5 1 a.dv a.data.length (a.data.map u8)
 len:∀ a∈q.ar,a.data.length<=64
 qp:w.ownsRow 0 5 1 q.pub q.tp.length (q.tp.map u8)
 qs:w.ownsRow 0 5 1 q.sec q.ts.length (q.ts.map u8)
 lp:q.tp.length<=128
 ls:q.ts.length<=128
 xy:q.xb≠q.yb
 dj:∀ i,SX q i->¬ CJ q i
 two:2<=q.ar.length
 cnt:q.ar.length<=1000
 sz:0<=q.size/\q.size<=1000
def BQ (q:QP) (vs:List O):Lb->Nat->Prop
 | .rm,i=>SX q i\/CJ q i
 | .fo,i=>q.fv.ownBlock=some i
 | .fd,i=>FdM vs i
 | .mb,i=>q.iv.ownBlock=some i
 | _,_=>False
structure RBd (l:List (cN × bF)) (q:QP) (vs:List O) (fd:List (List Int)) (B:Nat) (w:Ω):Prop where
 ref:pL q w
 iv:∃ cs,w.ownsRow 0 46 5 q.iv l.length cs/\cs.all cB=true/\∀ (k:Nat) x,l[k]?=some x->(cs.drop (k*5)).take 5=x.1.cells x.2
 one:vs.all cB=true
 fv:w.ownsRow 0 37 1 q.fv fd.length vs
 row:∀ (k:Nat) v d,vs[k]?=some v->fd[k]?=some d->w.ownsRow 0 21 1 v d.length (d.map i32)
 djv:∀ (j k:Nat) u v i,vs[j]?=some u->vs[k]?=some v->u.ownBlock=some i->v.ownBlock=some i->j=k
 sep:Sep (BQ q vs) w.heap.size
 ge:∀ a i,BQ q vs a i->B<=i
 hB:B<=w.heap.size
section
variable {q:QP} {vs:List O} {fd:List (List Int)} {B:Nat} {w w':Ω} {K:O->Ω->Prop} {l:List (cN × bF)}
theorem pL.hi (h:pL q w):∀ i,SX q i\/CJ q i->i < w.heap.size:=by
 intro i hm;rcases hm with (rfl|rfl)|rfl|⟨a,ha,he⟩|he|he
 ·exact h.xbox.lt
 ·exact h.ybox.lt
 ·exact (h.list.lt _ rfl).2
 ·exact ((h.data a ha).lt _ he).2
 ·exact (h.qp.lt _ he).2
 ·exact (h.qs.lt _ he).2
theorem pL.fr {S:Nat->Prop} (h:pL q w) (f:Fr S w w') (hn:∀ i,S i->¬ SX q i/\¬ CJ q i):pL q w':=
 ⟨f.seg h.xbox λhs=>(hn _ hs).1 (.inl rfl),f.blk h.ybox λhs=>(hn _ hs).1 (.inr rfl),
  f.own h.list λi hi hs=>(hn i hs).2 (.inl (by simpa [Value.ownBlock] using hi.symm)),λa ha=>f.own (h.data a ha) λi hi hs=>(hn i hs).2 (.inr (.inl ⟨a,ha,hi⟩)),h.len,
  f.own h.qp λi hi hs=>(hn i hs).2 (.inr (.inr (.inl hi))),f.own h.qs λi hi hs=>(hn i hs).2 (.inr (.inr (.inr hi))),h.lp,h.ls,h.xy,h.dj,h.two,h.cnt,h.sz⟩
theorem pL.lists {w1:Ω} (h:pL q w) (f:Fr (λi=>i=q.xb) w w1) {iv fv:O} (hs:lM w1 q.xb 0 [pt q.yb,iv,fv,q.pub,q.sec]):pL { q with iv:=iv,fv:=fv } w1:=by
 have no:∀ i,CJ q i->i≠q.xb:=λi hi e=>h.dj q.xb (.inl rfl) (e▸hi)
 exact ⟨hs,f.blk h.ybox λe=>h.xy e.symm,f.own h.list λi hi=>no i (.inl (by simpa [Value.ownBlock] using hi.symm)),λa ha=>f.own (h.data a ha) λi hi=>no i (.inr (.inl ⟨a,ha,hi⟩)),h.len,
  f.own h.qp λi hi=>no i (.inr (.inr (.inl hi))),f.own h.qs λi hi=>no i (.inr (.inr (.inr hi))),h.lp,h.ls,h.xy,h.dj,h.two,h.cnt,h.sz⟩
theorem aLs (hk:∀ w',aY w' w.heap.size [] 46->aG w w'->K (.slice (some ⟨w.heap.size,0,none⟩) 0 0) w'):V prog (Instr.buildSlice 24 0 #[]) w K:=by
 refine V.ok (v:=.slice (some ⟨w.heap.size,0,none⟩) 0 0) (w':=w.alloc (.cells (([]:List O)).toArray 46)) (by kernel_rfl) ?_;exact hk _ (by unfold aY;rw [heap_alloc_new]) ((aG.refl _).alloc _)
theorem aPb (hk:∀ w',aY w' w.heap.size [] 37->aG w w'->K (.slice (some ⟨w.heap.size,0,none⟩) 0 0) w'):V prog (Instr.buildSlice 132 0 #[]) w K:=by
 refine V.ok (v:=.slice (some ⟨w.heap.size,0,none⟩) 0 0) (w':=w.alloc (.cells (([]:List O)).toArray 37)) (by kernel_rfl) ?_;exact hk _ (by unfold aY;rw [heap_alloc_new]) ((aG.refl _).alloc _)
theorem SJ {a:Option Addr} {n c:Nat} (hk:∀ w',aY w' w.heap.size [.slice a n c] 37->aG w w'->K (.slice (some ⟨w.heap.size,0,none⟩) 1 1) w'):V prog (Instr.buildSlice 132 1 #[(0,.slice a n c)]) w K:=by
 refine V.ok (v:=.slice (some ⟨w.heap.size,0,none⟩) 1 1) (w':=w.alloc (.cells (([.slice a n c]:List O)).toArray 37)) (by kernel_rfl) ?_;exact hk _ (by unfold aY;rw [heap_alloc_new]) ((aG.refl _).alloc _)
theorem aOx {b n:Nat} {v:O} {cs:List O} (hb:aY w b [] 46) (hv:aC w v 5 n cs) (h1:cs.all cB=true) (hn:n<=1000)
  (hk:∀ v' w',w'.ownsRow b 46 5 v' n cs->Fr (λi=>i=b) w w'->(v'.ownBlock=some b\/v'.ownBlock=some w.heap.size)->K v' w'):V prog (Builtin.append_ #[24,24] 24 #[.slice (some ⟨b,0,none⟩) 0 0,v]) w K:=by
 have ho:w.ownsRow b 46 5 (.slice (some ⟨b,0,none⟩) 0 0) 0 []:=dX hb rfl (Nat.le_refl _) (by decide);refine apG underlying24 iE rfl (by decide) ho hv h1 (by omega) (by unfold maxLen;omega) (Nat.le_of_lt hb.lt) λv' w' h2 h3 h4=>?_;refine hk v' w' (by simpa using h2) (Fr.of_grown h3 λk hk=>?_) h4;simpa [Value.ownBlock] using hk.symm
theorem cpF {b n:Nat} {v:O} {cs:List O} (hb:aY w b [] 37) (hv:aC w v 1 n cs) (h1:cs.all cB=true) (hn:n<=1000)
  (hk:∀ v' w',w'.ownsRow b 37 1 v' n cs->Fr (λi=>i=b) w w'->(v'.ownBlock=some b\/v'.ownBlock=some w.heap.size)->K v' w'):V prog (Builtin.append_ #[132,132] 132 #[.slice (some ⟨b,0,none⟩) 0 0,v]) w K:=by
 have ho:w.ownsRow b 37 1 (.slice (some ⟨b,0,none⟩) 0 0) 0 []:=dX hb rfl (Nat.le_refl _) (by decide);refine apG underlying132 xF rfl (by decide) ho hv h1 (by omega) (by unfold maxLen;omega) (Nat.le_of_lt hb.lt) λv' w' h2 h3 h4=>?_;refine hk v' w' (by simpa using h2) (Fr.of_grown h3 λk hk=>?_) h4;simpa [Value.ownBlock] using hk.symm
theorem SV (h:RBd l q vs fd B w) (hl4:l.length < 4) (hfl:fd.length=l.length) {p:cN} {i:bF} (hA:hJ w p i) (hfn:i.fields.length<=64) :
  aD prog 41 #[rG q,p.val i] w λ_ w'=>∃ q' vs',RBd (l++[(p,i)]) q' vs' (fd++[List.replicate i.fields.length 0]) B w'/\q'={ q with iv:=q'.iv,fv:=q'.fv }/\Fr (λi=>i=q.xb) w w'/\∀ a i,BQ q' vs' a i->BQ q vs a i\/w.heap.size<=i:=by
 obtain ⟨cs,hiv,hcs1,hrows⟩:=h.iv;have hBw:=h.hB;have hlv:vs.length=fd.length:=by have:=h.fv.1;omega
 have oldl:∀ {a:Lb} {i:Nat},BQ q vs a i->i < w.heap.size:=λhi=>h.sep.lt _ _ hi;have xbl:q.xb < w.heap.size:=h.ref.xbox.lt;have noX:∀ {a:Lb} {j:Nat},a≠.rm->BQ q vs a j->j≠q.xb:=λ{a j} ha hj he=>ha (h.sep.dj a .rm j hj (.inl (.inl he)));obtain ⟨a1,c1,e1⟩:=hA.fl.shape;obtain ⟨_,hx2,_⟩:=hA.im;obtain ⟨a2,c2,e2⟩:=hx2.shape;obtain ⟨_,hx3,_⟩:=hA.mt;obtain ⟨a3,c3,e3⟩:=hx3.shape;obtain ⟨a4,c4,e4⟩:=hA.ex.shape;have hp1:(p.cells i).all cB=true:=by unfold cN.cells;rw [e1,e2,e3,e4];rfl
 apply aRe;suffices key:∀ R:O->Ω->Prop,(∀ rv q' vs' w',RBd (l++[(p,i)]) q' vs' (fd++[List.replicate i.fields.length 0]) B w'->q'={ q with iv:=q'.iv,fv:=q'.fv }->Fr (λi=>i=q.xb) w w'->(∀ a i,BQ q' vs' a i->BQ q vs a i\/w.heap.size<=i)->R rv w')->CX (rG q) (p.val i) w R from key _ λrv q' vs' w' h1 h2 h3 h4=>⟨q',vs',h1,h2,h3,h4⟩;intro R hR;unfold CX;refine sO λw1 hb x1=>?_;have hb:aY w1 w.heap.size (p.cells i) 46:=hb;have lb:=hb.lt;have s1:=x1.size;have xb1:=h.ref.xbox.ext x1;refine ⟨λw'=>∃ g cap,w'.ownsRow w1.heap.size 46 5 (.slice (some ⟨g,0,none⟩) (l.length+1) cap) (l.length+1) (cs++p.cells i)/\lM w' q.xb 0 [pt q.yb,.slice (some ⟨g,0,none⟩) (l.length+1) cap,q.fv,q.pub,q.sec]/\Fr (λi=>i=q.xb) w w'/\aY w' w.heap.size (p.cells i) 46,?_,?_⟩
 ·have D1:aG w1 w1.drew:=(aG.refl _).drew;have sD1:=D1.size;refine aI.mk' (λw'=>aG w1 w') D1 ⟨.inl ⟨_,rfl⟩,?_⟩;refine DI dI iU (λw' hw=>xb1.ext hw) rfl ?_;refine yA (λw' hw=>(hb.ext hw).boxed) jQ rfl ?_;have hsl:aC w1.drew q.iv 5 l.length cs:=aC.of_own ((x1.trans D1).own hiv)
  have tail:∀ {w':Ω} {v10:O} {b12:Nat},aG w1 w'->w'.ownsRow w1.heap.size 46 5 v10 l.length cs->aY w' b12 (p.cells i) 46->∀ {K:O->Ω->Prop},(∀ g cap w'',aG w1 w''->w''.ownsRow w1.heap.size 46 5 (.slice (some ⟨g,0,none⟩) (l.length+1) cap) (l.length+1) (cs++p.cells i)->K (.slice (some ⟨g,0,none⟩) (l.length+1) cap) w'') ->
    V prog (Builtin.append_ #[24,24] 24 #[v10,.slice (some ⟨b12,0,none⟩) 1 1]) w' K:=by
   intro w' v10 b12 x ho10 hb12 K hk;refine apZ underlying24 iE rfl (by omega) ho10 (dX hb12 rfl (Nat.zero_le _) (by unfold maxLen;omega)) (by decide) hp1 (by omega) (by unfold maxLen;omega) x.size λg cap w'' h1 h2 _=>?_;exact hk g cap w'' (x.grown h2 λk hk=>(ho10.lt k hk).1) h1
  have fin:∀ {g cap:Nat} {w':Ω},aG w1 w'->w'.ownsRow w1.heap.size 46 5 (.slice (some ⟨g,0,none⟩) (l.length+1) cap) (l.length+1) (cs++p.cells i) ->
    U prog (Instr.storeAt 24 (.pointer (some ⟨q.xb,0+1,none⟩)) (.slice (some ⟨g,0,none⟩) (l.length+1) cap)) w' λ_ w'=>∃ g cap,w'.ownsRow w1.heap.size 46 5 (.slice (some ⟨g,0,none⟩) (l.length+1) cap) (l.length+1) (cs++p.cells i)/\lM w' q.xb 0 [pt q.yb,.slice (some ⟨g,0,none⟩) (l.length+1) cap,q.fv,q.pub,q.sec]/\Fr (λi=>i=q.xb) w w'/\aY w' w.heap.size (p.cells i) 46:=by
   intro g cap w' x ho;refine oP NO (xb1.ext x) (show 1 < 5 by decide) rfl ?_;have f:Fr (λi=>i=q.xb) w' (w'.setCell ⟨q.xb,0+1,none⟩ (.slice (some ⟨g,0,none⟩) (l.length+1) cap)):=Fr.of_set rfl;exact ⟨g,cap,f.own ho λj hj e=>(by have:=(ho.lt j hj).1;omega),(xb1.ext x).set (j:=1) (by simp) _,(Fr.of_ext (S:=λi=>i=q.xb) (x1.trans x)).trans f λ_ _ h=>h,f.blk (hb.ext x) (by omega)⟩
  have bs:∀ {w':Ω} {K:O->Ω->Prop},(∀ w1,aY w1 w'.heap.size (p.cells i) 46->aG w' w1->K (.slice (some ⟨w'.heap.size,0,none⟩) 1 1) w1)->V prog (Instr.buildSlice 24 1 #[(0,.agg (p.cells i).toArray)]) w' K:=λhk=>aLr (p:=p) (i:=i) ⟨_,_,_,e1⟩ ⟨_,_,_,e2⟩ ⟨_,_,_,e3⟩ ⟨_,_,_,e4⟩ hk;refine ⟨aLs λw3 hb3 x3=>?_,bs λw3 hb3 x3=>?_⟩
  ·have X3:=D1.trans x3;have s3:=x3.size;have l3:=hb3.lt;refine ⟨X3,⟨aOx hb3 (hsl.ext x3) hcs1 (by omega) λv4 w4 ho4 f4 hv4=>?_,bs λw4 hb4 x4=>?_⟩⟩
   ·have X4:aG w1 w4:=f4.ext X3 λj hj=>by omega
    refine ⟨X4,bs λw5 hb5 x5=>?_⟩;have X5:=X4.trans x5;refine ⟨X5,tail X5 (aP (x5.own ho4) (by omega)) hb5 λg cap w6 X6 ho6=>⟨X6,.inl ⟨_,rfl⟩,yFA dI (fin X6 ho6)⟩⟩
   ·have X4:=X3.trans x4;refine ⟨X4,aOx (hb3.ext x4) ((hsl.ext x3).ext x4) hcs1 (by omega) λv5 w5 ho5 f5 hv5=>?_⟩;have X5:aG w1 w5:=f5.ext X4 λj hj=>by omega
    refine ⟨X5,tail X5 (aP ho5 (by omega)) (f5.blk hb4 (by omega)) λg cap w6 X6 ho6=>⟨X6,.inl ⟨_,rfl⟩,yFA dI (fin X6 ho6)⟩⟩
  ·have X3:=D1.trans x3;have s3:=x3.size;have l3:=hb3.lt;refine ⟨X3,aLs λw4 hb4 x4=>?_⟩;have X4:=X3.trans x4;refine ⟨X4,aOx hb4 ((hsl.ext x3).ext x4) hcs1 (by omega) λv5 w5 ho5 f5 hv5=>?_⟩;have X5:aG w1 w5:=f5.ext X4 λj hj=>by omega
   refine ⟨X5,tail X5 (aP ho5 (by omega)) (f5.blk (hb3.ext x4) (by omega)) λg cap w6 X6 ho6=>⟨X6,.inl ⟨_,rfl⟩,yFA dI (fin X6 ho6)⟩⟩
 ·-- the fields
  rintro w5 ⟨g,cap,ho5,rm5,F5,hb5⟩ _;have s5:=F5.size;have lb5:=hb5.lt;have D5:aG w5 w5.drew:=(aG.refl _).drew;have sD5:=D5.size;have hfv5:w5.drew.ownsRow 0 37 1 q.fv fd.length vs:=D5.own (F5.own h.fv λj hj e=>noX (a:=.fo) (by intro e;cases e) hj e);have hfs:aC w5.drew q.fv 1 fd.length vs:=aC.of_own hfv5;have hone:=h.one;refine aI.mk' (λw'=>aG w5 w') D5 ⟨.inl ⟨_,rfl⟩,?_⟩;refine DI eE gK (λw' hw=>rm5.ext hw) rfl ?_;refine dU (λw' hw=>(hb5.ext hw).boxed) iA aZ rfl ?_;rw [e1];refine aB.ok (λw' _=>kS underlying42) ?_
  have fin:∀ {w':Ω} {v22:O} {b26 b27:Nat},aG w5 w'->w'.ownsRow w5.heap.size 37 1 v22 fd.length vs->aY w' b26 (List.replicate i.fields.length (i32 0)) 21->w5.heap.size<=b26->aY w' b27 [.slice (some ⟨b26,0,none⟩) i.fields.length i.fields.length] 37->(∀ j,v22.ownBlock=some j->j≠b26) ->
    V prog (Builtin.append_ #[132,132] 132 #[v22,.slice (some ⟨b27,0,none⟩) 1 1]) w' λt28 w23=>aG w5 w23/\Go.Vc.aM (rG q)/\aB prog (λw'=>aG w5 w') (Instr.fieldAt 139 (rG q) 2) λt30=>U prog (Instr.storeAt 132 t30 t28) w23 λ_ w24=>R (.tuple #[]) w24:=by
   intro w' v22 b26 b27 X ho22 hb26 h26 hb27 h2226;have l26:=hb26.lt;refine apL JI ho22 (dX hb27 rfl (Nat.zero_le _) (by unfold maxLen;omega)) (by decide) (by rfl) (by omega) (by unfold maxLen;omega) X.size λg2 cap2 w8 ho8 hg8 hlies8=>?_;have X8:aG w5 w8:=X.grown hg8 λk hk=>(ho22.lt k hk).1;refine ⟨X8,.inl ⟨_,rfl⟩,yFA eE ?_⟩;refine oP BZ (rm5.ext X8) (show 2 < 5 by decide) rfl ?_;have f9:Fr (λi=>i=q.xb) w8 (w8.setCell ⟨q.xb,0+2,none⟩ (.slice (some ⟨g2,0,none⟩) (fd.length+1) cap2)):=Fr.of_set rfl;have rm9:lM (w8.setCell ⟨q.xb,0+2,none⟩ (.slice (some ⟨g2,0,none⟩) (fd.length+1) cap2)) q.xb 0 [pt q.yb,.slice (some ⟨g,0,none⟩) (l.length+1) cap,.slice (some ⟨g2,0,none⟩) (fd.length+1) cap2,q.pub,q.sec]:=(rm5.ext X8).set (j:=2) (by simp) _;have hg2:=ho8.lt g2 rfl;have hg:=ho5.lt g rfl
   have hg226:g2≠b26:=λe=>by
    rcases hlies8 with hl|hl
    ·exact h2226 _ hl e
    ·omega
   have ho9:=f9.own ho8 λj hj e=>(by have:=(ho8.lt j hj).1;omega);have ho59:=f9.own (X8.own ho5) λj hj e=>(by have:=(ho5.lt j hj).1;omega);have f8:Fr (λj=>v22.ownBlock=some j) w' w8:=Fr.of_grown hg8 λk hk=>hk;have ho26:w'.ownsRow 0 21 1 (.slice (some ⟨b26,0,none⟩) i.fields.length i.fields.length) i.fields.length (List.replicate i.fields.length (i32 0)):=dX hb26 (by simp) (Nat.zero_le _) (by unfold maxLen;omega)
   have ho269:=f9.own (f8.own ho26 λj hj e=>h2226 j e (by simpa [Value.ownBlock] using hj.symm)) λj hj e=>(by
    have hj:b26=j:=by simpa [Value.ownBlock] using hj
    omega)
   have F9:Fr (λi=>i=q.xb) w (w8.setCell ⟨q.xb,0+2,none⟩ (.slice (some ⟨g2,0,none⟩) (fd.length+1) cap2)):=(F5.trans (Fr.of_ext (S:=λi=>i=q.xb) X8) λ_ _ h=>h).trans f9 λ_ _ h=>h;have s9:=f9.size;have s8:=X8.size;have l26':b26 < w8.heap.size:=by have:=f8.size;omega
   generalize w8.setCell ⟨q.xb,0+2,none⟩ (.slice (some ⟨g2,0,none⟩) (fd.length+1) cap2)=w9 at f9 rm9 ho9 ho59 ho269 F9 s9 ⊢
   have cls:∀ {a:Lb} {j:Nat},BQ { q with iv:=.slice (some ⟨g,0,none⟩) (l.length+1) cap,fv:=.slice (some ⟨g2,0,none⟩) (fd.length+1) cap2 } (vs++[.slice (some ⟨b26,0,none⟩) i.fields.length i.fields.length]) a j ->
     (BQ q vs a j/\j < w.heap.size)\/(a=.mb/\j=g)\/(a=.fo/\j=g2)\/(a=.fd/\j=b26):=by
    intro a j hj;cases a with
    | rm=>exact .inl ⟨hj,oldl (a:=.rm) hj⟩
    | fo=>exact .inr (.inr (.inl ⟨rfl,by simpa [BQ,Value.ownBlock] using hj.symm⟩))
    | fd=>
     obtain ⟨v,hv,hj⟩:=hj;rcases List.mem_append.1 hv with hv|hv
     ·exact .inl ⟨⟨v,hv,hj⟩,oldl (a:=.fd) ⟨v,hv,hj⟩⟩
     ·rw [List.mem_singleton] at hv;subst hv;exact .inr (.inr (.inr ⟨rfl,by simpa [Value.ownBlock] using hj.symm⟩))
    | mb=>exact .inr (.inl ⟨rfl,by simpa [BQ,Value.ownBlock] using hj.symm⟩)
    | im=>exact hj.elim
    | fr=>exact hj.elim
    | ex=>exact hj.elim
   have hgw5:=hg.2;refine hR _ { q with iv:=.slice (some ⟨g,0,none⟩) (l.length+1) cap,fv:=.slice (some ⟨g2,0,none⟩) (fd.length+1) cap2 } (vs++[.slice (some ⟨b26,0,none⟩) i.fields.length i.fields.length]) w9 ⟨h.ref.lists F9 rm9,⟨cs++p.cells i,?_,?_,λk x hk=>?_⟩,?_,?_,λk v d hk hd=>?_,λj k u v x hj hk hu hv=>?_,⟨λa b j ha hb=>?_,λa j ha=>?_⟩,λa j ha=>?_,by omega⟩ rfl F9 λa j ha=>?_
   ·have:=aP ho59 (Nat.zero_le _);simpa using this
   ·rw [List.all_append,hcs1,hp1];rfl
   ·by_cases hkl:k < l.length
    ·rw [List.getElem?_append_left hkl] at hk;rw [AA (l:=l) (x:=x) hiv.1 hkl];exact hrows k x hk
    ·have hkk:k=l.length:=by have:=(List.getElem?_eq_some_iff.1 hk).1;simp at this;omega
     subst hkk;rw [List.getElem?_concat_length] at hk;cases hk;rw [<- hiv.1,List.drop_left];rfl
   ·rw [List.all_append,hone];rfl
   ·have:=aP ho9 (Nat.zero_le _);simpa using this
   ·by_cases hkl:k < fd.length
    ·rw [List.getElem?_append_left hkl] at hd;rw [List.getElem?_append_left (by omega)] at hk;have hm:=List.mem_of_getElem? hk;exact F9.own (h.row k v d hk hd) λj hj hs=>noX (a:=.fd) (by intro e;cases e) ⟨v,hm,hj⟩ hs
    ·have hkk:k=fd.length:=by have:=(List.getElem?_eq_some_iff.1 hd).1;simp at this;omega
     subst hkk;rw [List.getElem?_concat_length] at hd;rw [<- hlv,List.getElem?_concat_length] at hk;cases hd;cases hk;simpa using ho269
   ·have cls2:∀ {j:Nat} {u:O},(vs++[Value.slice (some ⟨b26,0,none⟩) i.fields.length i.fields.length])[j]?=some u->(vs[j]?=some u)\/(j=vs.length/\u=Value.slice (some ⟨b26,0,none⟩) i.fields.length i.fields.length):=λ{j u} hj=>by
     by_cases hjl:j < vs.length
     ·rw [List.getElem?_append_left hjl] at hj;exact .inl hj
     ·have hjj:j=vs.length:=by have:=(List.getElem?_eq_some_iff.1 hj).1;simp at this;omega
      subst hjj;rw [List.getElem?_concat_length] at hj;exact .inr ⟨rfl,(Option.some.inj hj).symm⟩
    rcases cls2 hj with hj|⟨hj,rfl⟩<;>rcases cls2 hk with hk|⟨hk,rfl⟩
    ·exact h.djv j k u v x hj hk hu hv
    ·have:=oldl (a:=.fd) ⟨u,List.mem_of_getElem? hj,hu⟩;have hv:b26=x:=by simpa [Value.ownBlock] using hv
     omega
    ·have:=oldl (a:=.fd) ⟨v,List.mem_of_getElem? hk,hv⟩;have hu:b26=x:=by simpa [Value.ownBlock] using hu
     omega
    ·omega
   ·rcases cls ha with ⟨ha,la⟩|⟨ea,ha⟩|⟨ea,ha⟩|⟨ea,ha⟩<;>rcases cls hb with ⟨hb,lb⟩|⟨eb,hb⟩|⟨eb,hb⟩|⟨eb,hb⟩
    all_goals first|exact h.sep.dj a b j ha hb|(rw [ea,eb];done)|(exfalso;omega)
   ·rcases cls ha with ⟨_,_⟩|⟨_,_⟩|⟨_,_⟩|⟨_,_⟩<;>omega
   ·rcases cls ha with ⟨ha,_⟩|⟨_,_⟩|⟨_,_⟩|⟨_,_⟩
    ·exact h.ge a j ha
    all_goals omega
   ·rcases cls ha with ⟨ha,_⟩|⟨_,_⟩|⟨_,_⟩|⟨_,_⟩
    ·exact .inl ha
    all_goals exact .inr (by omega)
  have mk:∀ {w':Ω} {K:O->Ω->Prop},(∀ w6,aY w6 w'.heap.size (List.replicate i.fields.length (i32 0)) 21->aG w' w6->K (.slice (some ⟨w'.heap.size,0,none⟩) i.fields.length i.fields.length) w6)->V prog (Instr.makeSlice 37 (i64 (i.fields.length:Int)) (i64 (i.fields.length:Int))) w' K:=λhk=>wX (n:=i.fields.length) rfl underlying37 tJ rfl (by omega) (by omega) λw6 hb6 x6 _=>hk w6 hb6 x6;refine ⟨aPb λw3 hb3 x3=>?_,mk λw3 hb3 x3=>?_⟩
  ·have X3:=D5.trans x3;have s3:=x3.size;have l3:=hb3.lt;refine ⟨X3,⟨cpF hb3 (hfs.ext x3) hone (by omega) λv4 w4 ho4 f4 hv4=>?_,mk λw4 hb4 x4=>?_⟩⟩
   ·have X4:aG w5 w4:=f4.ext X3 λj hj=>by omega
    refine ⟨X4,mk λw6 hb6 x6=>?_⟩;have X6:=X4.trans x6;refine ⟨X6,SJ λw7 hb7 x7=>?_⟩;have X7:=X6.trans x7;have q4:=X4.size;exact ⟨X7,fin X7 (aP (x7.own (x6.own ho4)) (by omega)) (hb6.ext x7) q4 hb7 λj hj e=>(by have:=(ho4.lt j hj).2;omega)⟩
   ·have X4:=X3.trans x4;have s4:=x4.size;have l4:=hb4.lt;refine ⟨X4,⟨cpF (hb3.ext x4) ((hfs.ext x3).ext x4) hone (by omega) λv6 w6 ho6 f6 hv6=>?_,SJ λw6 hb6 x6=>?_⟩⟩
    ·have X6:aG w5 w6:=f6.ext X4 λj hj=>by omega
     refine ⟨X6,SJ λw7 hb7 x7=>?_⟩;have X7:=X6.trans x7;exact ⟨X7,fin X7 (aP (x7.own ho6) (by omega)) ((f6.blk hb4 (by omega)).ext x7) (by omega) hb7 λj hj e=>(by rcases hv6 with h'|h'<;>(rw [h'] at hj;have hj:=Option.some.inj hj;omega))⟩
    ·have X6:=X4.trans x6;have s6:=x6.size;have l6:=hb6.lt;refine ⟨X6,cpF ((hb3.ext x4).ext x6) (((hfs.ext x3).ext x4).ext x6) hone (by omega) λv7 w7 ho7 f7 hv7=>?_⟩;have X7:aG w5 w7:=f7.ext X6 λj hj=>by omega
     exact ⟨X7,fin X7 (aP ho7 (by omega)) (f7.blk (hb4.ext x6) (by omega)) (by omega) (f7.blk hb6 (by omega)) λj hj e=>(by rcases hv7 with h'|h'<;>(rw [h'] at hj;have hj:=Option.some.inj hj;omega))⟩
  ·have X3:=D5.trans x3;have s3:=x3.size;have l3:=hb3.lt;refine ⟨X3,⟨aPb λw4 hb4 x4=>?_,SJ λw4 hb4 x4=>?_⟩⟩
   ·have X4:=X3.trans x4;have s4:=x4.size;have l4:=hb4.lt;refine ⟨X4,⟨cpF hb4 ((hfs.ext x3).ext x4) hone (by omega) λv6 w6 ho6 f6 hv6=>?_,SJ λw6 hb6 x6=>?_⟩⟩
    ·have X6:aG w5 w6:=f6.ext X4 λj hj=>by omega
     refine ⟨X6,SJ λw7 hb7 x7=>?_⟩;have X7:=X6.trans x7;exact ⟨X7,fin X7 (aP (x7.own ho6) (by omega)) ((f6.blk (hb3.ext x4) (by omega)).ext x7) (by omega) hb7 λj hj e=>(by rcases hv6 with h'|h'<;>(rw [h'] at hj;have hj:=Option.some.inj hj;omega))⟩
    ·have X6:=X4.trans x6;have s6:=x6.size;have l6:=hb6.lt;refine ⟨X6,cpF (hb4.ext x6) (((hfs.ext x3).ext x4).ext x6) hone (by omega) λv7 w7 ho7 f7 hv7=>?_⟩;have X7:aG w5 w7:=f7.ext X6 λj hj=>by omega
     exact ⟨X7,fin X7 (aP ho7 (by omega)) (f7.blk ((hb3.ext x4).ext x6) (by omega)) (by omega) (f7.blk hb6 (by omega)) λj hj e=>(by rcases hv7 with h'|h'<;>(rw [h'] at hj;have hj:=Option.some.inj hj;omega))⟩
   ·have X4:=X3.trans x4;have s4:=x4.size;have l4:=hb4.lt;refine ⟨X4,aPb λw6 hb6 x6=>?_⟩;have X6:=X4.trans x6;have s6:=x6.size;have l6:=hb6.lt;refine ⟨X6,cpF hb6 (((hfs.ext x3).ext x4).ext x6) hone (by omega) λv7 w7 ho7 f7 hv7=>?_⟩;have X7:aG w5 w7:=f7.ext X6 λj hj=>by omega
    exact ⟨X7,fin X7 (aP ho7 (by omega)) (f7.blk ((hb3.ext x4).ext x6) (by omega)) (by omega) (f7.blk (hb4.ext x6) (by omega)) λj hj e=>(by rcases hv7 with h'|h'<;>(rw [h'] at hj;have hj:=Option.some.inj hj;omega))⟩
end
end Go.Proofs.YtgkkecladbmjkaaGreatDoor
