/- A room's fields in memory; images that were copied. -/
import Derived.Test.YtgkkecladbmjkaaGreatDoorYf
set_option maxHeartbeats 4000000
set_option linter.unusedSimpArgs false
namespace Go.Vc
theorem OH {P:Program} {w:Ω} {t e by_ sz:Nat} {z:O} (ht:P.underlying t=some (.slice e)) (hi:cV P e z sz by_) (hz:(z.cells.size == sz)=true) (hsz:0 < sz) (hb0:∀ w,(Instr.buildSlice t 0 #[]).run P w=.ok (.slice (some ⟨w.heap.size,0,none⟩) 0 0) (w.alloc (.cells #[] e)))
  {v:O} {n:Nat} {cs:List O} (hs:aB w v sz n cs) (h1:cs.all cB=true) (hb:n*by_<=140737488355328) (hm:n<=maxLen) {x y:Operand} {R:O->Ω->Prop} (hk:∀ v' w',w'.ownsRow w.heap.size e sz v' n cs->aG w w'->R v' w') :
  V P (do eqGuard .eql t x y v (Value.slice none 0 0);binOp .eql t v (Value.slice none 0 0)) w λt4 w1=>
   aO t4 (R (Value.slice none 0 0) w1) (V P (Instr.buildSlice t 0 #[]) w1 λt5 w2=>V P (Builtin.append_ #[t,t] t #[t5,v]) w2 λt7 w3=>R t7 w3):=by
 rcases hs.2 with ⟨rfl,h0⟩|⟨b,off,cap,rfl,hc1,hc2,hc⟩
 ·refine V.ok (lF ht) (aE.2 (hk _ _ ?_ (aG.refl w)));have hl:=hs.1;rw [h0,Nat.zero_mul] at hl;rw [List.eq_nil_of_length_eq_zero hl,h0];exact World.ownsRow_nil _ _ _ _
 ·refine V.ok (lF ht) (aA.2 (V.ok (hb0 w) ?_));have hb1:bD (w.alloc (.cells (([]:List O)).toArray e)) w.heap.size [] e:=by unfold bD;rw [heap_alloc_new]
  have x1:aG w (w.alloc (.cells (([]:List O)).toArray e)):=(aG.refl _).alloc _;have e0:(([]:List O)).toArray=#[]:=rfl;rw [e0] at hb1 x1;generalize w.alloc (.cells #[] e)=w1 at hb1 x1 ⊢;have ho1:w1.ownsRow w.heap.size e sz (.slice (some ⟨w.heap.size,0,none⟩) 0 0) 0 []:=eC hb1 (by simp) (Nat.le_refl _) (by unfold maxLen;omega);refine apA ht hi hz hsz ho1 (hs.ext x1) h1 (by simpa using hb) (by omega) x1.size λv2 w2 ho2 hg=>?_;rw [Nat.zero_add,List.nil_append] at ho2;exact hk v2 w2 ho2 (x1.grown hg λk hk=>(ho1.lt k hk).1)
end Go.Vc
namespace Go.Proofs.YtgkkecladbmjkaaGreatDoor
open Tryz
open Go.Vc Go.Tc
theorem wT {l:List Int} {j:Nat} (h:j < l.length):(l.map i32)[j]?=some (i32 (l.getD j 0)):=by
 rw [List.getElem?_map,List.getD_eq_getElem?_getD,List.getElem?_eq_getElem h];rfl
structure tK (w:Ω) (fv:O) (fo:Nat) (vs:List O) (fd:List (List Int)):Prop where
 eq:∃ cap,fv=.slice (some ⟨fo,0,none⟩) fd.length cap
 out:kV w fo 0 vs
 len:vs.length=fd.length
 row:∀ (k:Nat) v d,vs[k]?=some v->fd[k]?=some d->w.ownsRow 0 21 1 v d.length (d.map i32)
 dj:∀ (j k:Nat) u v i,vs[j]?=some u->vs[k]?=some v->u.ownBlock=some i->v.ownBlock=some i->j=k
 ne:∀ v∈vs,v.ownBlock≠some fo
variable {w w':Ω} {fv:O} {fo:Nat} {vs:List O} {fd:List (List Int)}
def FdM (vs:List O) (i:Nat):Prop:=∃ v∈vs,v.ownBlock=some i
theorem tK.fr {S:Nat->Prop} (h:tK w fv fo vs fd) (f:Fr S w w') (hn:¬ S fo) (hm:∀ i,FdM vs i->¬ S i):tK w' fv fo vs fd:=
 ⟨h.eq,f.seg h.out hn,h.len,λk v d hk hd=>f.own (h.row k v d hk hd) λi hi=>hm i ⟨v,List.mem_of_getElem? hk,hi⟩,h.dj,h.ne⟩
theorem tK.get (h:tK w fv fo vs fd) {k:Nat} (hk:k < fd.length):∃ v,vs[k]?=some v/\w.ownsRow 0 21 1 v (fd.getD k []).length ((fd.getD k []).map i32):=by
 obtain ⟨v,hv⟩:=bH (l:=vs) (j:=k) (by have:=h.len;omega);refine ⟨v,hv,h.row k v _ hv ?_⟩;rw [List.getD_eq_getElem?_getD,List.getElem?_eq_getElem hk];rfl
theorem tK.set (h:tK w fv fo vs fd) {k j:Nat} {n:Int} {v:O} {w1:Ω} (hv:vs[k]?=some v) (hk:k < fd.length) (ho:w1.ownsRow 0 21 1 v (fd.getD k []).length (((fd.getD k []).map i32).set j (i32 n))) (f:Fr (λi=>v.ownBlock=some i) w w1) :
  tK w1 fv fo vs (fd.set k ((fd.getD k []).set j n)):=by
 refine ⟨by simpa using h.eq,f.seg h.out λhs=>h.ne v (List.mem_of_getElem? hv) hs,by simpa using h.len,λq u d hq hd=>?_,h.dj,h.ne⟩;by_cases hqk:k=q
 ·subst hqk;rw [List.getElem?_set_self hk] at hd;cases hd;rw [hv] at hq;cases hq;rw [List.length_set,List.map_set];exact ho
 ·rw [List.getElem?_set_ne hqk] at hd;exact f.own (h.row q u d hq hd) λi hi hs=>hqk (h.dj k q v u i hv hq hs hi)
section
variable {rb hb:Nat} {iv pub sec:O}
theorem zL (hr:kV w rb 0 [.pointer (some ⟨hb,0,none⟩),iv,fv,pub,sec]) (h:tK w fv fo vs fd) {k j:Nat} (hk:k < fd.length) (hj:j < (fd.getD k []).length) :
  aC prog 37 #[.pointer (some ⟨rb,0,none⟩),i64 (k:Int),i64 (j:Int)] w λr w'=>r=.tuple #[i32 ((fd.getD k []).getD j 0),.bool true]/\w'=w:=by
 obtain ⟨cap,hfv⟩:=h.eq;subst hfv;obtain ⟨v,hv,ho⟩:=h.get hk;apply aCk;unfold xR;refine aV.2 ?_;simp only [show ¬ ((k:Int) < 0) by omega,dJ,aJ,reduceIte,Bool.false_eq_true,decide_false];refine ⟨.inl ⟨_,rfl⟩,?_⟩;refine gC cQ eE hr rfl (IJ.2 (kU.2 ?_));simp only [show ¬ ((k:Int)>=((fd.length:Nat):Int)) by omega,aV,dJ,aJ,reduceIte,Bool.false_eq_true,decide_false];simp only [show ¬ ((j:Int) < 0) by omega,dJ,reduceIte,Bool.false_eq_true,decide_false];refine ⟨.inl ⟨_,rfl⟩,?_⟩;refine gC cQ eE hr rfl ?_;refine aEf pT gX h.out (by omega) (by omega) (u:=v) (by simpa using hv) ?_;refine gG bX (aB.of_own ho) (kU.2 ?_);simp only [show ¬ ((j:Int)>=(((fd.getD k []).length:Nat):Int)) by omega,aA,decide_false];refine ⟨.inl ⟨_,rfl⟩,?_⟩;refine gC cQ eE hr rfl ?_;refine aEf pT gX h.out (by omega) (by omega) (u:=v) (by simpa using hv) ?_;refine nO bX cE (aB.of_own ho) (by omega) (by omega) (u:=i32 ((fd.getD k []).getD j 0)) ?_ ⟨rfl,rfl⟩;rw [Int.toNat_natCast];exact wT hj
theorem aAx (hr:kV w rb 0 [.pointer (some ⟨hb,0,none⟩),iv,fv,pub,sec]) (h:tK w fv fo vs fd) {k j:Int} (hn:¬ (0<=k/\k < fd.length/\0<=j/\j < (fd.getD k.toNat []).length)) :
  aC prog 37 #[.pointer (some ⟨rb,0,none⟩),i64 k,i64 j] w λr w'=>r=.tuple #[i32 0,.bool false]/\w'=w:=by
 obtain ⟨cap,hfv⟩:=h.eq;subst hfv;apply aCk;suffices key:∀ R:O->Ω->Prop,R (.tuple #[i32 0,.bool false]) w->xR (.pointer (some ⟨rb,0,none⟩)) (i64 k) (i64 j) w R from key _ ⟨rfl,rfl⟩;intro R hR;unfold xR;refine aV.2 ?_;by_cases h1:k < 0
 ·simp only [h1,kB,aJ,aE,reduceIte,decide_true];exact hR
 simp only [h1,dJ,aJ,reduceIte,Bool.false_eq_true,decide_false];refine ⟨.inl ⟨_,rfl⟩,?_⟩;refine gC cQ eE hr rfl (IJ.2 (kU.2 ?_));by_cases h2:k>=((fd.length:Nat):Int)
 ·simp only [h2,kB,aJ,aE,reduceIte,decide_true];exact hR
 simp only [h2,aV,dJ,aJ,reduceIte,Bool.false_eq_true,decide_false];by_cases h3:j < 0
 ·simp only [h3,kB,aE,reduceIte,decide_true];exact hR
 simp only [h3,dJ,reduceIte,Bool.false_eq_true,decide_false];obtain ⟨k,rfl⟩:∃ m:Nat,k=m:=⟨k.toNat,by omega⟩;obtain ⟨v,hv,ho⟩:=h.get (k:=k) (by omega);refine ⟨.inl ⟨_,rfl⟩,?_⟩;refine gC cQ eE hr rfl ?_;refine aEf pT gX h.out (by omega) (by omega) (u:=v) (by simpa using hv) ?_;refine gG bX (aB.of_own ho) (kU.2 ?_);rw [Int.toNat_natCast] at hn;simp only [show j>=(((fd.getD k []).length:Nat):Int) by omega,aE,decide_true];exact hR
theorem GQ (hr:kV w rb 0 [.pointer (some ⟨hb,0,none⟩),iv,fv,pub,sec]) (h:tK w fv fo vs fd) {k j:Nat} (hk:k < fd.length) (hj:j < (fd.getD k []).length) {n:Int} :
  aC prog 137 #[.pointer (some ⟨rb,0,none⟩),i64 (k:Int),i64 (j:Int),i32 n] w λr w'=>r=.bool true/\tK w' fv fo vs (fd.set k ((fd.getD k []).set j n))/\Fr (FdM vs) w w':=by
 have h0:=h;obtain ⟨cap,hfv⟩:=h.eq;subst hfv;obtain ⟨v,hv,ho⟩:=h.get hk;apply aIl;unfold LC;refine (zL hr h hk hj).mono λr w' ⟨hr',hw⟩=>?_;subst hr';have hw:=hw.symm;subst hw;refine cL.2 (cK.2 (fN.2 (aA.2 ⟨.inl ⟨_,rfl⟩,?_⟩)));refine gC cQ eE hr rfl ?_;refine aEf pT gX h.out (by omega) (by omega) (u:=v) (by simpa using hv) ?_;refine stO bX mC ho (by omega) (by omega) rfl λw2 ho2 hg=>?_;have f:Fr (λi=>v.ownBlock=some i) w w2:=Fr.of_grown hg λk hk=>hk;exact ⟨rfl,h.set hv hk (by simpa using ho2) f,f.mono λi hi=>⟨v,List.mem_of_getElem? hv,hi⟩⟩
end
def zW (w:Ω) (row:List O) (i:bF):Prop:=∃ p:bP,row=p.cells i/\iG w p i
theorem zW.len {w:Ω} {row:List O} {i:bF} (h:zW w row i):row.length=5:=by obtain ⟨p,rfl,_⟩:=h;rfl
def hU (w:Ω) (v:O) (l:List bF):Prop:=dS zW 5 w v l
theorem zW.ext {w w':Ω} {row:List O} {i:bF} (h:zW w row i) (hx:aG w w'):zW w' row i:=by obtain ⟨p,h1,h2⟩:=h;exact ⟨p,h1,h2.ext hx⟩
theorem hU.ext {w w':Ω} {v:O} {l:List bF} (h:hU w v l) (hx:aG w w'):hU w' v l:=dS.ext (λh k=>h.ext k) h hx
def zT (B:Nat) (w:Ω) (row:List O) (m:gU):Prop:=∃ pv lv cv,row=[pv,i64 m.result,lv,cv]/\w.ownsRow B 3 1 pv m.params.length (m.params.map i64)/\w.ownsRow B 3 1 lv m.locals.length (m.locals.map i64)/\w.ownsRow B 70 3 cv m.code.length (jK m.code)
def zU (B:Nat) (w:Ω) (row:List O) (x:zV):Prop:=∃ pv,row=[.string x.name,i64 x.exp,pv,i64 x.result]/\w.ownsRow B 3 1 pv x.params.length (x.params.map i64)
def OS {α:Type} (T:List O->α->Prop) (sz:Nat) (cs:List O) (l:List α):Prop:=∀ (k:Nat) x,l[k]?=some x->T ((cs.drop (k*sz)).take sz) x
structure qL (B:Nat) (w:Ω) (p:bP) (i:bF):Prop where
 fl:w.ownsRow B 3 1 p.fv i.fields.length (i.fields.map i64)
 ex:w.ownsRow B 3 1 p.xv i.exports.length (i.exports.map i64)
 im:∃ cs,w.ownsRow B 180 4 p.iv i.imports.length cs/\OS (zU B w) 4 cs i.imports
 mt:∃ cs,w.ownsRow B 74 4 p.mv i.methods.length cs/\OS (zT B w) 4 cs i.methods
theorem zT.at_ {B:Nat} {row:List O} {m:gU} (h:zT B w row m):jO w row m:=by
 obtain ⟨pv,lv,cv,h1,h2,h3,h4⟩:=h;exact ⟨pv,lv,cv,h1,aB.of_own h2,aB.of_own h3,aB.of_own h4⟩
theorem zU.at_ {B:Nat} {row:List O} {m:zV} (h:zU B w row m):rH w row m:=by
 obtain ⟨pv,h1,h2⟩:=h;exact ⟨pv,h1,aB.of_own h2⟩
theorem qL.at_ {B:Nat} {p:bP} {i:bF} (h:qL B w p i):iG w p i:=by
 obtain ⟨h1,h2,⟨c1,h3,h4⟩,c2,h5,h6⟩:=h;exact ⟨aB.of_own h1,⟨c1,aB.of_own h3,λk x hx=>⟨_,rfl,(h4 k x hx).at_⟩⟩,⟨c2,aB.of_own h5,λk x hx=>⟨_,rfl,(h6 k x hx).at_⟩⟩,aB.of_own h2⟩
theorem zT.fr {B:Nat} {row:List O} {m:gU} {S:Nat->Prop} (h:zT B w row m) (f:Fr S w w') (hS:∀ i,B<=i->¬ S i):zT B w' row m:=by
 obtain ⟨pv,lv,cv,h1,h2,h3,h4⟩:=h;exact ⟨pv,lv,cv,h1,f.own h2 λi hi=>hS i (h2.lt i hi).1,f.own h3 λi hi=>hS i (h3.lt i hi).1,f.own h4 λi hi=>hS i (h4.lt i hi).1⟩
theorem zU.fr {B:Nat} {row:List O} {m:zV} {S:Nat->Prop} (h:zU B w row m) (f:Fr S w w') (hS:∀ i,B<=i->¬ S i):zU B w' row m:=by
 obtain ⟨pv,h1,h2⟩:=h;exact ⟨pv,h1,f.own h2 λi hi=>hS i (h2.lt i hi).1⟩
theorem qL.fr {B:Nat} {p:bP} {i:bF} {S:Nat->Prop} (h:qL B w p i) (f:Fr S w w') (hS:∀ i,B<=i->¬ S i):qL B w' p i:=by
 obtain ⟨h1,h2,⟨c1,h3,h4⟩,c2,h5,h6⟩:=h;exact ⟨f.own h1 λi hi=>hS i (h1.lt i hi).1,f.own h2 λi hi=>hS i (h2.lt i hi).1,⟨c1,f.own h3 λi hi=>hS i (h3.lt i hi).1,λk x hx=>(h4 k x hx).fr f hS⟩,c2,f.own h5 λi hi=>hS i (h5.lt i hi).1,λk x hx=>(h6 k x hx).fr f hS⟩
theorem qL.dep {B:Nat} {p:bP} {i:bF} (h:qL B w p i):tM (λi=>B<=i) w λw'=>qL B w' p i:=λ_ f=>h.fr f λ_ hi hn=>hn hi
end Go.Proofs.YtgkkecladbmjkaaGreatDoor
namespace Go.Proofs.YtgkkecladbmjkaaGreatDoor
open Tryz
open Go.Vc Go.Tc
variable {w w':Ω}
variable {B B' n sz:Nat} {cs row:List O} {m:gU}
theorem GK {α:Type} {T:List O->α->Prop} {l:List α} (hl:cs.length=l.length*sz) (hsz:0 < sz) (hr:OS T sz cs l) (h1:∀ row x,T row x->row.all cB=true):cs.all cB=true:=by
 rw [List.all_eq_true];intro v hv;obtain ⟨j,hj⟩:=List.getElem?_of_mem hv;have hlt:=(List.getElem?_eq_some_iff.1 hj).1;have hk:j / sz < l.length:=by rw [Nat.div_lt_iff_lt_mul hsz];omega
 obtain ⟨x,hx⟩:=bH (l:=l) (j:=j / sz) hk;have hrow:=h1 _ _ (hr _ _ hx);rw [List.all_eq_true] at hrow;refine hrow v (List.mem_of_getElem? (i:=j % sz) ?_);rw [List.getElem?_take,if_pos (Nat.mod_lt _ hsz),List.getElem?_drop,Nat.mul_comm,Nat.div_add_mod];exact hj
theorem DR {v:O} (h:aB w v sz n cs):cB v=true:=by
 obtain ⟨a,c,rfl⟩:=h.shape;rfl
theorem jO.one (h:jO w row m):row.all cB=true:=by
 obtain ⟨pv,lv,cv,rfl,h1,h2,h3⟩:=h;simp [DR h1,DR h2,DR h3];rfl
theorem rH.one {m:zV} (h:rH w row m):row.all cB=true:=by
 obtain ⟨pv,rfl,h1⟩:=h;simp [DR h1];exact ⟨rfl,rfl,rfl⟩
theorem aAi (l:List Int):(l.map i64).all cB=true:=List.all_eq_true.2 λv hv=>by obtain ⟨x,_,rfl⟩:=List.mem_map.1 hv;rfl
theorem qH {v:O} {l:List Int} (h:aU w v l) (hl:l.length<=1000000):aC prog 122 #[v] w λr w'=>w'.ownsRow w.heap.size 3 1 r l.length (l.map i64)/\aG w w':=by
 apply aIu;unfold LL;exact EO (R:=λr w'=>w'.ownsRow w.heap.size 3 1 r l.length (l.map i64)/\aG w w') bU h (aAi l) (by omega) λv' w' g1 g2=>⟨g1,g2⟩
theorem WG {v:O} {l:List gP} (h:pM w v l) (hl:l.length<=1000000):aC prog 125 #[v] w λr w'=>w'.ownsRow w.heap.size 70 3 r l.length (jK l)/\aG w w':=by
 apply aIr;unfold LI;exact OH (R:=λr w'=>w'.ownsRow w.heap.size 70 3 r l.length (jK l)/\aG w w') underlying71 nZ rfl (by omega) (λw=>by kernel_rfl) h (aAk l) (by omega) (by unfold maxLen;omega) λv' w' g1 g2=>⟨g1,g2⟩
theorem WD {v:O} (h:aB w v 4 n cs) (h1:cs.all cB=true) (hl:n<=1000000):aC prog 123 #[v] w λr w'=>w'.ownsRow w.heap.size 180 4 r n cs/\aG w w':=by
 apply aIt;unfold LK;exact OH (R:=λr w'=>w'.ownsRow w.heap.size 180 4 r n cs/\aG w w') underlying43 pK rfl (by omega) (λw=>by kernel_rfl) h h1 (by omega) (by unfold maxLen;omega) λv' w' g1 g2=>⟨g1,g2⟩
theorem WE {v:O} (h:aB w v 4 n cs) (h1:cs.all cB=true) (hl:n<=1000000):aC prog 124 #[v] w λr w'=>w'.ownsRow w.heap.size 74 4 r n cs/\aG w w':=by
 apply aIs;unfold LJ;exact OH (R:=λr w'=>w'.ownsRow w.heap.size 74 4 r n cs/\aG w w') underlying44 pJ rfl (by omega) (λw=>by kernel_rfl) h h1 (by omega) (by unfold maxLen;omega) λv' w' g1 g2=>⟨g1,g2⟩
def aTu {α:Type} (T U:List O->α->Prop) (j sz:Nat) (cs:List O) (l:List α):Prop:=∀ (k:Nat) x,l[k]?=some x->(k < j->U ((cs.drop (k*sz)).take sz) x)/\(j<=k->T ((cs.drop (k*sz)).take sz) x)
theorem zT.mono (h:zT B w row m) (hB:B'<=B):zT B' w row m:=by
 obtain ⟨pv,lv,cv,h1,h2,h3,h4⟩:=h;exact ⟨pv,lv,cv,h1,aR h2 hB,aR h3 hB,aR h4 hB⟩
theorem zU.mono {m:zV} (h:zU B w row m) (hB:B'<=B):zU B' w row m:=by
 obtain ⟨pv,h1,h2⟩:=h;exact ⟨pv,h1,aR h2 hB⟩
theorem nA {e:Nat} {v:O} {xs:List O} (h:w.ownsRow B e sz v n xs) (hn:0 < n):∃ g cap,v=.slice (some ⟨g,0,none⟩) n cap:=by
 rcases h.2 with ⟨_,h0⟩|⟨g,cap,cur,e,_⟩
 ·omega
 ·exact ⟨g,cap,e⟩
theorem CY {p:bP} {i:bF} (h:iG w p i) (hi:i.right):aC prog 78 #[p.val i] w λr w'=>∃ p':bP,r=p'.val i/\qL w.heap.size w' p' i/\aG w w':=by
 obtain ⟨⟨fk,fl⟩,⟨iml,imr⟩,⟨⟨_,mtl⟩,mtr,_⟩,exl,_⟩:=hi;apply aPo;suffices key:∀ R:O->Ω->Prop,(∀ p' w',qL w.heap.size w' p' i->aG w w'->R (p'.val i) w')->FB (p.val i) w R from key _ λp' w' h1 h2=>⟨p',rfl,h1,h2⟩;intro R hR;unfold FB;refine tH λw1 hb1 x1=>?_;refine MA jT λw2 hz2 x2=>?_;have hb1:bD w1 w.heap.size [.string i.name,p.fv,p.iv,p.mv,p.xv] 46:=hb1;have hb2:=hb1.ext x2;have s1:=x1.size;have s2:=x2.size;have l1:=hb1.lt;have l2:=hz2.lt;have x02:=x1.trans x2;generalize hb:w.heap.size=b at *;generalize hc:w1.heap.size=c at *;have D2:aG w2 w2.drew:=(aG.refl _).drew;refine aH.mk' (λw'=>aG w2 w') D2 ?_;refine dT (λw' hw=>(hb2.ext hw).boxed) jH aZ rfl ?_;refine dT (λw' hw=>(hb2.ext hw).boxed) iI aZ rfl ?_;refine (qH (h.fl.ext (x02.trans D2)) (by omega)).mono λfv4 w4 ⟨of4,x4⟩=>?_;have x24:=D2.trans x4;refine ⟨x24,?_⟩;refine aD.ok (λw' _=>VD) ?_;refine (qH (h.ex.ext (x02.trans x24)) (by omega)).mono λxv5 w5 ⟨ox5,x5⟩=>?_;have x25:=x24.trans x5;refine ⟨x25,?_⟩;have hb5:=hb2.ext x25;have of5:=x5.own of4;have s4:=x4.size;have s5:=x5.size;have sD:=D2.size;refine wX jU hb5 rfl (by simp) (bM of5) ?_;have hb6:=hb5.set 1 fv4;have f6:Fr (λi=>i=b) w5 (w5.setCell ⟨b,1,none⟩ fv4):=Fr.of_set rfl;generalize w5.setCell ⟨b,1,none⟩ fv4=w6 at hb6 f6 ⊢
 refine ⟨(λw'=>w'=w6),rfl,?_⟩;refine aD.ok (λw' _=>VA) ?_;refine wX jU hb6 rfl (by simp) (bM ox5) ?_;have hb7:=hb6.set 4 xv5;have f7:Fr (λi=>i=b) w5 (w6.setCell ⟨b,4,none⟩ xv5):=f6.set rfl;generalize w6.setCell ⟨b,4,none⟩ xv5=w7 at hb7 f7 ⊢;have hb7:bD w7 b [.string i.name,fv4,p.iv,p.mv,xv5] 46:=hb7;have of7:=f7.own of5 λk hk he=>by have:=(of5.lt k hk).1;omega
 have ox7:=f7.own ox5 λk hk he=>by have:=(ox5.lt k hk).1;omega
 have x07:aG w w7:=f7.ext (x02.trans x25) λk hk=>by omega
 have hz7:=f7.blk (hz2.ext x25) (by omega);have s7:=f7.size;clear hb6 f6 f7 hb5 of5 ox5 of4 hb2 hz2;have D7:aG w7 w7.drew:=(aG.refl _).drew;obtain ⟨ci,hci,hri⟩:=h.im;obtain ⟨cm,hcm,hrm⟩:=h.mt;have hri':OS (rH w) 4 ci i.imports:=λk x hx=>by obtain ⟨row,e,hrow⟩:=hri k x hx;rw [e];exact hrow
 have hrm':OS (jO w) 4 cm i.methods:=λk x hx=>by obtain ⟨row,e,hrow⟩:=hrm k x hx;rw [e];exact hrow
 refine aH.mk' (λw'=>aG w7 w') D7 ?_;refine dT (λw' hw=>(hb7.ext hw).boxed) dC lA rfl ?_;refine dT (λw' hw=>(hb7.ext hw).boxed) bN gR rfl ?_;refine (WD (hci.ext (x07.trans D7)) (GK hci.1 (by decide) hri' λrow x hx=>hx.one) (by omega)).mono λiv8 w8 ⟨oi8,x8⟩=>?_;have x78:=D7.trans x8;refine ⟨x78,?_⟩;refine aD.ok (λw' _=>VC) ?_;refine (WE (hcm.ext ((x07.trans D7).trans x8)) (GK hcm.1 (by decide) hrm' λrow x hx=>hx.one) (by omega)).mono λmv9 w9 ⟨om9,x9⟩=>?_;have x79:=x78.trans x9;refine ⟨x79,?_⟩;have hb9:=hb7.ext x79;have oi9:=x9.own oi8;have sD7:=D7.size;have s8:=x8.size;have s9:=x9.size;refine wX RH hb9 rfl (by simp) (bM oi9) ?_;have hb10:=hb9.set 2 iv8;have f10:Fr (λi=>i=b) w9 (w9.setCell ⟨b,2,none⟩ iv8):=Fr.of_set rfl;generalize w9.setCell ⟨b,2,none⟩ iv8=w10 at hb10 f10 ⊢;refine ⟨(λw'=>w'=w10),rfl,?_⟩;refine aD.ok (λw' _=>VB) ?_;refine wX RG hb10 rfl (by simp) (bM om9) ?_;have hb11:=hb10.set 3 mv9;have f11:Fr (λi=>i=b) w9 (w10.setCell ⟨b,3,none⟩ mv9):=f10.set rfl;generalize w10.setCell ⟨b,3,none⟩ mv9=w11 at hb11 f11 ⊢;have hb11:bD w11 b [.string i.name,fv4,iv8,mv9,xv5] 46:=hb11;have oi11:=f11.own oi9 λk hk he=>by have:=(oi9.lt k hk).1;omega
 have om11:=f11.own om9 λk hk he=>by have:=(om9.lt k hk).1;omega
 have x011:aG w w11:=f11.ext (x07.trans x79) λk hk=>by omega
 have of11:=f11.own (x79.own of7) λk hk he=>by have:=(of7.lt k hk).1;omega
 have ox11:=f11.own (x79.own ox7) λk hk he=>by have:=(ox7.lt k hk).1;omega
 have hz11:=f11.blk (hz7.ext x79) (by omega);have s11:=f11.size;have li:∀ k,iv8.ownBlock=some k->c < k/\k < w11.heap.size:=λk hk=>by have:=(oi8.lt k hk).1;have:=(oi11.lt k hk).2;omega
 have lm:∀ k,mv9.ownBlock=some k->c < k/\k < w11.heap.size:=λk hk=>by have:=(om9.lt k hk).1;have:=(om11.lt k hk).2;omega
 have hne:∀ k,iv8.ownBlock=some k->mv9.ownBlock≠some k:=λk hk hm=>by have:=(om9.lt k hm).1;have:=(oi8.lt k hk).2;omega
 have hfi:∀ k,fv4.ownBlock=some k->c < k/\iv8.ownBlock≠some k/\mv9.ownBlock≠some k:=λk hk=>by
  have a1:=of7.lt k hk;exact ⟨by omega,λhe=>by have:=(oi8.lt k he).1;omega,λhe=>by have:=(om9.lt k he).1;omega⟩
 have hxi:∀ k,xv5.ownBlock=some k->c < k/\iv8.ownBlock≠some k/\mv9.ownBlock≠some k:=λk hk=>by
  have a1:=ox7.lt k hk;exact ⟨by omega,λhe=>by have:=(oi8.lt k he).1;omega,λhe=>by have:=(om9.lt k he).1;omega⟩
 clear oi9 om9 hb9 hb10 f10 f11 hb7 hz7 of7 ox7 oi8 x78 x79 x8 x9;refine bA hb11.boxed dC lA rfl (gG mG (aB.of_own oi11) ?_);have oib:=aR oi11 (show 0<=_ from Nat.zero_le _);have omb:=aR om11 (show 0<=_ from Nat.zero_le _)
 refine ⟨λv w'=>∃ (j:Nat) (cs:List O),v=i64 j/\j<=i.imports.length/\Fr (λk=>iv8.ownBlock=some k) w11 w'/\w'.ownsRow 0 180 4 iv8 i.imports.length cs/\aTu (rH w) (zU w11.heap.size w') j 4 cs i.imports,
  λv _=>i.imports.length - (RowKit.intOf v).toNat,⟨0,ci,rfl,Nat.zero_le _,Fr.refl _ _,oib,λk x hx=>⟨λhk=>absurd hk (Nat.not_lt_zero _),λ_=>hri' k x hx⟩⟩,?_⟩
 rintro _ wa ⟨j,cs,rfl,hj,fa,oa,ra⟩ _;have hba:=fa.blk hb11 λhe=>by have:=li b he;omega
 have x0a:aG w wa:=fa.ext x011 λk hk=>by have:=li k hk;omega
 refine aV.2 (aK (λhlt=>?_) λhge=>?_)
 ·have hj':j < i.imports.length:=by omega
  obtain ⟨g,cap,hg⟩:=nA oa (by omega);obtain ⟨x,hx⟩:=bH hj';obtain ⟨pv,hrow,hpv⟩:=(ra j x hx).2 (Nat.le_refl _);have Da:aG wa wa.drew:=(aG.refl _).drew;have hlx:=(imr x (List.mem_of_getElem? hx)).2.1.2
  have hcell:∀ (o:Nat) u,o < 4->[Value.string x.name,i64 x.exp,pv,i64 x.result][o]?=some u->cs[j*4+o]?=some u:=λo u ho hu=>by
   rw [<- hrow,List.getElem?_take,if_pos ho,List.getElem?_drop] at hu;exact hu
  subst hg;refine aH.mk' (λw'=>aG wa w') Da ?_;refine dT (λw' hw=>(hba.ext hw).boxed) dC lA rfl ?_;refine dT (λw' hw=>(hba.ext hw).boxed) dC lA rfl ?_;refine aD.ok (λw' _=>QM (by omega) (by omega)) ?_;refine aD.ok (λw' _=>yM) ?_;refine aD.ok (λw' hw=>DV (v:=pv) ?_) ?_
  ·have:=(hw.own oa).cells (g:=g) rfl (j*4+2) pv (hcell 2 pv (by decide) rfl);rw [gO] at this;rw [Int.toNat_natCast];simpa [Nat.add_assoc] using this
  refine (qH (hpv.ext (x0a.trans Da)) (by omega)).mono λpv2 wb ⟨ob,xb⟩=>?_;have xab:=Da.trans xb;refine ⟨xab,?_⟩;refine aD.ok (λw' _=>QM (by omega) (by omega)) ?_;refine aD.ok (λw' _=>yM) ?_;rw [Int.toNat_natCast];have hsa:=fa.size;have hsD:=Da.size;refine YB underlying43 pK cM jU (xab.own oa) hj' (by decide) (bM ob) λwc _ oc fc=>?_;refine mH (by omega) ?_;have hgl:=li g rfl;refine ⟨⟨j+1,_,rfl,by omega,(fa.trans (Fr.of_ext (S:=λ_=>False) xab) λ_ _ h=>h.elim).trans (fc.mono λk hk=>by show Value.ownBlock _=_;rw [hk];rfl) λ_ _ h=>h,oc,λk y hy=>?_⟩,by simp only [aT];omega⟩
  have hr4:=xD (q:=j) (o:=2) (v:=pv2) (show (cs.drop (k*4)).take 4=(cs.drop (k*4)).take 4 from rfl) (by
   have hkl:=(List.getElem?_eq_some_iff.1 hy).1;have:=oa.1;rw [List.length_take,List.length_drop];omega) (by decide)
  by_cases hkj:k=j
  ·subst hkj;rw [hx] at hy;cases hy;refine ⟨λ_=>?_,λhh=>by omega⟩;rw [hr4,if_pos rfl,hrow];exact ⟨pv2,rfl,aR (fc.own ob λq hq he=>by have:=(ob.lt q hq).1;omega) (by omega)⟩
  ·rw [hr4,if_neg hkj];refine ⟨λhh=>?_,λhh=>(ra k y hy).2 (by omega)⟩;exact (((ra k y hy).1 (by omega)).fr (Fr.of_ext (S:=λ_=>False) xab) λ_ _ h=>h.elim).fr fc λq hq he=>by omega
 have hjn:j=i.imports.length:=by omega
 have ra:OS (zU w11.heap.size wa) 4 cs i.imports:=λk x hx=>(ra k x hx).1 (by have:=(List.getElem?_eq_some_iff.1 hx).1;omega);have oma:=fa.own omb λk hk he=>hne k he hk;have hsa:=fa.size;refine bA hba.boxed bN gR rfl (gG iJ (aB.of_own oma) ?_)
 refine ⟨λv w'=>∃ (j:Nat) (cs:List O),v=i64 j/\j<=i.methods.length/\Fr (λk=>mv9.ownBlock=some k) wa w'/\w'.ownsRow 0 74 4 mv9 i.methods.length cs/\aTu (jO w) (zT wa.heap.size w') j 4 cs i.methods,
  λv _=>i.methods.length - (RowKit.intOf v).toNat,⟨0,cm,rfl,Nat.zero_le _,Fr.refl _ _,oma,λk x hx=>⟨λhk=>absurd hk (Nat.not_lt_zero _),λ_=>hrm' k x hx⟩⟩,?_⟩
 rintro _ wd ⟨jm,cs2,rfl,hjm,fd,od,rd⟩ _;have hbd:=fd.blk hba λhe=>by have:=lm b he;omega
 have x0d:aG w wd:=fd.ext x0a λk hk=>by have:=lm k hk;omega
 refine aV.2 (aK (λhlt=>?_) λhge=>?_)
 ·have hj':jm < i.methods.length:=by omega
  obtain ⟨g,cap,hg⟩:=nA od (by omega);obtain ⟨x,hx⟩:=bH hj';obtain ⟨pv,lv,cv,hrow,hpv,hlv,hcv⟩:=(rd jm x hx).2 (Nat.le_refl _);have hmr:=mtr x (List.mem_of_getElem? hx);obtain ⟨⟨_,hp1⟩,_,⟨_,hp2⟩,⟨_,hp3⟩,_⟩:=hmr
  have hcell:∀ (o:Nat) u,o < 4->[pv,i64 x.result,lv,cv][o]?=some u->cs2[jm*4+o]?=some u:=λo u ho hu=>by
   rw [<- hrow,List.getElem?_take,if_pos ho,List.getElem?_drop] at hu;exact hu
  subst hg;have hgl:=lm g rfl;refine bA hbd.boxed bN gR rfl ?_;refine V.ok (aDm (by omega) (by omega)) ?_;rw [Int.toNat_natCast];have Dd:aG wd wd.drew:=(aG.refl _).drew
  have hld:∀ (o:Nat) u,o < 4->[pv,i64 x.result,lv,cv][o]?=some u->∀ w',aG wd w'->w'.cell? ⟨g,0+jm*4+o,none⟩=some u:=λo u ho hu w' hw=>by
   have:=(hw.own od).cells (g:=g) rfl (jm*4+o) u (hcell o u ho hu);rw [gO] at this;simpa [Nat.add_assoc] using this
  refine aH.mk' (λw'=>aG wd w') Dd ⟨.inl ⟨_,rfl⟩,?_⟩;refine aD.ok (λw' _=>CA) ?_;refine aD.ok (λw' hw=>DV (hld 0 pv (by decide) rfl w' hw)) ⟨.inl ⟨_,rfl⟩,?_⟩;refine aD.ok (λw' _=>BZ) ?_;refine aD.ok (λw' hw=>DV (hld 2 lv (by decide) rfl w' hw)) ⟨.inl ⟨_,rfl⟩,?_⟩;refine aD.ok (λw' _=>BW) ?_;refine aD.ok (λw' hw=>aDl (hld 3 cv (by decide) rfl w' hw)) ?_;refine (qH (hpv.ext (x0d.trans Dd)) (by omega)).mono λpv2 w21 ⟨op21,x21⟩=>?_;have e21:=Dd.trans x21;refine ⟨e21,?_⟩;refine (qH (hlv.ext (x0d.trans e21)) (by omega)).mono λlv2 w22 ⟨ol22,x22⟩=>?_;have e22:=e21.trans x22;refine ⟨e22,?_⟩;refine (WG (hcv.ext (x0d.trans e22)) (by omega)).mono λcv2 w23 ⟨oc23,x23⟩=>?_;have e23:=e22.trans x23;refine ⟨e23,.inl ⟨_,rfl⟩,?_⟩;have hsd:=fd.size;have hsD:=Dd.size;have hs21:=x21.size;have hs22:=x22.size;have hs23:=x23.size;refine aD.ok (λw' _=>CA) ?_;refine YB (o:=0) underlying44 pJ fB jU (e23.own od) hj' (by decide) (bM op21) λwc1 _ oc1 fc1=>?_;refine ⟨(λ_=>True),trivial,.inl ⟨_,rfl⟩,?_⟩;refine aD.ok (λw' _=>BZ) ?_;refine YB (o:=2) underlying44 pJ oQ jU oc1 hj' (by decide) (bM ol22) λwc2 _ oc2 fc2=>?_;refine ⟨(λ_=>True),trivial,.inl ⟨_,rfl⟩,?_⟩;refine aD.ok (λw' _=>BW) ?_;refine YB (o:=3) underlying44 pJ iH wS oc2 hj' (by decide) (bM oc23) λwc3 _ oc3 fc3=>?_
  refine mH (by omega) ?_;have fc:Fr (λk=>k=g) w23 wc3:=(fc1.trans fc2 λ_ _ h=>h).trans fc3 λ_ _ h=>h;have fdc:Fr (λk=>(Value.slice (some ⟨g,0,none⟩) i.methods.length cap).ownBlock=some k) wa wc3:=(fd.trans (Fr.of_ext (S:=λ_=>False) e23) λ_ _ h=>h.elim).trans (fc.mono λk hk=>by show Value.ownBlock _=_;rw [hk];rfl) λ_ _ h=>h;refine ⟨⟨jm+1,_,rfl,by omega,fdc,oc3,λk y hy=>?_⟩,by simp only [aT];omega⟩;have hkl:=(List.getElem?_eq_some_iff.1 hy).1;have hl0:=od.1;have hr1:=xD (q:=jm) (o:=0) (v:=pv2) (show (cs2.drop (k*4)).take 4=(cs2.drop (k*4)).take 4 from rfl) (by rw [List.length_take,List.length_drop];omega) (by decide);have hr2:=xD (q:=jm) (o:=2) (v:=lv2) (show ((cs2.set (jm*4+0) pv2).drop (k*4)).take 4=((cs2.set (jm*4+0) pv2).drop (k*4)).take 4 from rfl) (by rw [List.length_take,List.length_drop,List.length_set];omega) (by decide);have hr3:=xD (q:=jm) (o:=3) (v:=cv2) (show (((cs2.set (jm*4+0) pv2).set (jm*4+2) lv2).drop (k*4)).take 4=(((cs2.set (jm*4+0) pv2).set (jm*4+2) lv2).drop (k*4)).take 4 from rfl) (by rw [List.length_take,List.length_drop,List.length_set,List.length_set];omega) (by decide);by_cases hkj:k=jm
  ·subst hkj;rw [hx] at hy;cases hy;refine ⟨λ_=>?_,λhh=>by omega⟩;rw [hr3,if_pos rfl,hr2,if_pos rfl,hr1,if_pos rfl,hrow];refine ⟨pv2,lv2,cv2,rfl,aR (fc.own (x23.own (x22.own op21)) λq hq he=>by have:=(op21.lt q hq).1;omega) (by omega),aR (fc.own (x23.own ol22) λq hq he=>by have:=(ol22.lt q hq).1;omega) (by omega),aR (fc.own oc23 λq hq he=>by have:=(oc23.lt q hq).1;omega) (by omega)⟩
  ·rw [hr3,if_neg hkj,hr2,if_neg hkj,hr1,if_neg hkj];refine ⟨λhh=>?_,λhh=>(rd k y hy).2 (by omega)⟩;exact (((rd k y hy).1 (by omega)).fr (Fr.of_ext (S:=λ_=>False) e23) λ_ _ h=>h.elim).fr fc λq hq he=>by omega
 have hjn2:jm=i.methods.length:=by omega
 have rd:OS (zT wa.heap.size wd) 4 cs2 i.methods:=λk x hx=>(rd k x hx).1 (by have:=(List.getElem?_eq_some_iff.1 hx).1;omega);refine qO hbd.boxed kQ rfl ?_;have hzd:=fd.blk (fa.blk hz11 λhe=>by have:=li c he;omega) λhe=>by have:=lm c he;omega
 have ofd:=fd.own (fa.own of11 λk hk=>(hfi k hk).2.1) λk hk=>(hfi k hk).2.2;have oxd:=fd.own (fa.own ox11 λk hk=>(hxi k hk).2.1) λk hk=>(hxi k hk).2.2;have oid:=fd.own oa λk hk=>hne k hk;refine GF jT hzd (l:=[.string i.name,fv4,iv8,mv9,xv5]) rfl rfl rfl (by simp [bM ofd,bM oid,bM od,bM oxd];rfl) λw9 h9 hch=>?_;have f9:=rB hch;refine ⟨_,vB underlying46 rfl jT h9 rfl,⟨_,rfl⟩,?_⟩
 have up:∀ {B e sz n:Nat} {v:O} {xs:List O},wd.ownsRow B e sz v n xs->(∀ k,v.ownBlock=some k->c < k)->w9.ownsRow b e sz v n xs:=λ{B e sz n v xs} ho hk=>by
  have h1:=f9.own ho λk hk' he=>by have:=hk k hk';omega
  refine ⟨h1.1,?_⟩;rcases h1.2 with h2|⟨g,cap,cur,rfl,_,rest⟩
  ·exact .inl h2
  ·exact .inr ⟨g,cap,cur,rfl,by have:=hk g rfl;omega,rest⟩
 have hsd:=fd.size;have f9':∀ B,w11.heap.size<=B->∀ q,B<=q->¬ q=c:=λB hB q hq he=>by omega
 refine hR ⟨fv4,iv8,mv9,xv5⟩ w9 ⟨up ofd λk hk=>(hfi k hk).1,up oxd λk hk=>(hxi k hk).1,⟨cs,up oid λk hk=>(li k hk).1,λk x hx=>?_⟩,⟨cs2,up od λk hk=>(lm k hk).1,λk x hx=>?_⟩⟩ ?_
 ·exact (((ra k x hx).fr fd λq hq he=>by have:=lm q he;omega).fr f9 (f9' _ (Nat.le_refl _))).mono (by omega)
 ·exact ((rd k x hx).fr f9 (f9' _ hsa)).mono (by omega)
 ·exact f9.ext x0d λk hk=>by omega
end Go.Proofs.YtgkkecladbmjkaaGreatDoor
namespace Go.Proofs.YtgkkecladbmjkaaGreatDoor
open Tryz
open Go.Vc Go.Tc
variable {w w':Ω} {K:O->Ω->Prop}
theorem qL.mono {B B':Nat} {p:bP} {i:bF} (h:qL B w p i) (hB:B'<=B):qL B' w p i:=by
 obtain ⟨h1,h2,⟨c1,h3,h4⟩,c2,h5,h6⟩:=h;exact ⟨aR h1 hB,aR h2 hB,⟨c1,aR h3 hB,λk x hx=>(h4 k x hx).mono hB⟩,c2,aR h5 hB,λk x hx=>(h6 k x hx).mono hB⟩
theorem qL.one {B:Nat} {p:bP} {i:bF} (h:qL B w p i):(p.cells i).all cB=true:=by
 obtain ⟨h1,h2,⟨c1,h3,_⟩,c2,h5,_⟩:=h;simp [bP.cells,bM h1,bM h2,bM h3,bM h5];rfl
theorem CT (w:Ω) (row:List O) (m:bF) (h:zW w row m):row.length=5:=h.len
theorem cC {l:List bF} {k:Nat} (hk:k < l.length):l[k]?=some (aP l k):=by
 unfold aP;rw [List.getD_eq_getElem?_getD,List.getElem?_eq_getElem hk];rfl
section
variable {rb:Nat} {hv iv fv pub sec:O} {l:List bF}
theorem zF (hr:kV w rb 0 [hv,iv,fv,pub,sec]) (hi:hU w iv l) (hT:nK l) {k:Nat} (hk:k < l.length) :
  aC prog 88 #[.pointer (some ⟨rb,0,none⟩),i64 (k:Int)] w λr w'=>∃ p':bP,r=.tuple #[p'.val (aP l k),.bool true]/\qL w.heap.size w' p' (aP l k)/\aG w w':=by
 apply aPj;unfold SP;refine MA jT λw1 hz x1=>?_;refine aV.2 ?_;simp only [show ¬ ((k:Int) < 0) by omega,dJ,aJ,reduceIte,Bool.false_eq_true,decide_false];refine ⟨.inl ⟨_,rfl⟩,?_⟩;refine gC cH iK (hr.ext x1) rfl (wQ iD (hi.ext x1) (kU.2 ?_));simp only [show ¬ ((k:Int)>=((l.length:Nat):Int)) by omega,aA,decide_false];refine ⟨.inl ⟨_,rfl⟩,?_⟩;refine gC cH iK (hr.ext x1) rfl ?_;refine XB (i:=k) iD kQ (hi.ext x1) (cC hk) CT λrow hrow=>?_;obtain ⟨p,hp,hA⟩:=hrow;subst hp;refine (CY hA (hT _ (fJ hk)).1).mono λr w2 ⟨p2,hr2,hO,x2⟩=>?_;subst hr2;have hzl:=hz.lt;have hO:=hO.mono (B':=w1.heap.size) (Nat.le_refl _);refine GF jT (hz.ext x2) (l:=p2.cells (aP l k)) rfl rfl rfl hO.one λw3 h3 hch=>?_;have f3:=rB hch;refine ⟨_,vB underlying46 rfl jT h3 rfl,⟨_,rfl⟩,p2,rfl,?_,?_⟩
 ·exact (hO.fr f3 λi hi he=>by omega).mono (by omega)
 ·exact f3.ext (x1.trans x2) λi hi=>by omega
theorem aEq (hi:hU w iv l) {name:ByteArray} (hl:l.length<=1000):aC prog 182 #[iv,.string name] w λr w'=>r=i64 (match mD l name with|some t=>(t:Int)|none=>-1)/\aG w w':=by
 apply aHd;unfold JV;refine bx λb w1 hb x1=>?_;refine fnK ?_;apply aGn;suffices key:∀ R:O->Ω->Prop,(∀ w',aG w w'->R (i64 (match mD l name with|some t=>(t:Int)|none=>-1)) w')->zZ iv _ w1 R from key _ λw' hx=>⟨rfl,hx⟩;intro R hR;unfold zZ;refine wQ iD (hi.ext x1) ?_;refine ⟨λv w'=>∃ j:Nat,v=i64 j/\j<=l.length/\aG w1 w'/\∀ k,k < j->((aP l k).name.toList == name.toList)=false,λv _=>l.length - (RowKit.intOf v).toNat,⟨0,rfl,Nat.zero_le _,aG.refl _,λk hk=>absurd hk (Nat.not_lt_zero _)⟩,?_⟩;rintro _ w2 ⟨j,rfl,hj,x2,hno⟩ _;refine aV.2 (aK (λhlt=>?_) λhge=>?_)
 ·have hj':j < l.length:=by omega
  refine XB (i:=j) iD kQ ((hi.ext x1).ext x2) (cC hj') CT λrow hrow=>?_;obtain ⟨p,hp,hA⟩:=hrow;subst hp;refine ⟨⟨_,_,rfl,?_⟩⟩;show aC prog 213 #[.agg (p.cells (aP l j)).toArray,.pointer (some ⟨b,0,none⟩)] w2 _;apply aGm;suffices key:∀ R:O->Ω->Prop,(∀ w',aG w2 w'->R (.bool ((aP l j).name.toList == name.toList)) w')->zY (.agg (p.cells (aP l j)).toArray) (.pointer (some ⟨b,0,none⟩)) w2 R from key _ λw3 x3=>?_
  ·cases hc:(aP l j).name.toList == name.toList with
   | true=>
    refine aE.2 ?_
    have e:mD l name=some j:=by
     unfold mD;rw [List.findIdx?_eq_some_iff_getElem];refine ⟨hj',?_,λk hk=>?_⟩
     ·have:=cC hj';rw [List.getElem?_eq_getElem hj'] at this;rw [Option.some.inj this];exact hc
     ·have:=cC (l:=l) (k:=k) (by omega);rw [List.getElem?_eq_getElem (by omega)] at this;rw [Option.some.inj this];have:=hno k hk;simpa using this
    have:=hR w3 ((x1.trans x2).trans x3);rw [e] at this;exact this
   | false=>
    refine aA.2 (bW.2 ?_);rw [aX (by omega),dF];refine ⟨⟨j+1,rfl,by omega,x2.trans x3,λk hk=>?_⟩,by simp only [aT];omega⟩;by_cases hkj:k=j
    ·subst hkj;exact hc
    ·exact hno k (by omega)
  intro R' hR';unfold zY;refine bx λb2 w3 hb2 x3=>?_;refine bA hb2 lK NK rfl ?_;refine V.ok (aLx (v:=.string name) (((hb.ext x2).ext x3) 0 (.string name) rfl)) ?_;exact V.ok sZ (hR' _ x3)
 ·have e:mD l name=none:=by
   unfold mD;rw [List.findIdx?_eq_none_iff];intro x hx;obtain ⟨k,hk⟩:=List.getElem?_of_mem hx;have hkl:=(List.getElem?_eq_some_iff.1 hk).1;have:=cC hkl;rw [hk] at this;rw [Option.some.inj this];exact hno k (by omega)
  have:=hR w2 (x1.trans x2);rw [e] at this;exact this
theorem aNm {av bv:O} {a b:List Int} (ha:aU w av a) (hb:aU w bv b) (ca:a.length<=1000000) (hk:∀ w',aG w w'->K (.bool (decide (a=b))) w'):aC prog 183 #[av,bv] w K:=by
 apply aHc;unfold JU;refine gG aM ha (gG aM hb (aS.2 (aK (λhne=>?_) λheq=>?_)))
 ·have:¬ a=b:=λe=>hne (by rw [e]);rw [decide_eq_false this] at hk;exact hk _ (aG.refl _)
 have hl:a.length=b.length:=by omega
 refine gG aM ha ?_;refine ⟨λv w'=>∃ j:Nat,v=i64 j/\j<=a.length/\aG w w'/\a.take j=b.take j,λv _=>a.length - (RowKit.intOf v).toNat,⟨0,rfl,Nat.zero_le _,aG.refl _,rfl⟩,?_⟩;rintro _ w1 ⟨j,rfl,hj,x1,hjs⟩ _;refine aV.2 (aK (λhlt=>?_) λhge=>?_)
 ·obtain ⟨x,hx⟩:=bH (l:=a) (j:=j) (by omega);obtain ⟨y,hy⟩:=bH (l:=b) (j:=j) (by omega);have D1:aG w1 w1.drew:=(aG.refl _).drew;refine aH.mk' (λw'=>aG w1 w') D1 ?_;refine gF aM aL (ha.ext x1) (λ_ h=>h) (by omega) (by omega) (fQ hx) ?_;refine gF aM aL (hb.ext x1) (λ_ h=>h) (by omega) (by omega) (fQ hy) ?_;refine aD.ok (λw' _=>lR) (aK (λhne=>?_) λheq=>?_)
  ·have:¬ a=b:=λe=>hne (by subst e;rw [hx] at hy;cases hy;rfl);rw [decide_eq_false this] at hk;exact hk _ (x1.trans D1)
  ·have:x=y:=by simpa using heq
   subst this;refine mH (by omega) ?_;exact ⟨⟨j+1,rfl,by omega,x1.trans D1,by rw [List.take_add_one,List.take_add_one,hx,hy,hjs]⟩,by simp only [aT];omega⟩
 ·have hjl:j=a.length:=by omega
  subst hjl
  have:a=b:=by
   rw [List.take_length,hl,List.take_length] at hjs;exact hjs
  rw [decide_eq_true this] at hk;exact hk _ x1
theorem XJ {S:Ω->Prop} {L:O->Prop} {t s f o ft sz n:Nat} {v:O} {cs:List O} (h:XA prog t sz) (hf:FA prog s f o) (hl:L1 prog ft) (hs0:aB w v sz n cs) (hx:∀ w',S w'->aG w w') {i:Nat} (hi:i < n) {u:O} (hu:cs[i*sz+o]?=some u) (hk:L u) :
  aD prog S (Instr.indexAt t v (i64 i)) λp=>aD prog S (Instr.fieldAt s p f) λq=>aD prog S (Instr.loadAt ft q) L:=by
 obtain ⟨e,z,b',hte,hinf⟩:=h;obtain ⟨d,hd,ha⟩:=hl;obtain ⟨b,off,cap,rfl,hc⟩:=hs0.there (by omega);refine aD.ok (λw' _=>gE hte hinf (by omega) (by omega)) (aD.ok (λw' _=>hf.ex w' _ _) (aD.ok (λw' hw=>jX hd ha ?_) hk));have:=(hx w' hw).cell (hc (i*sz+o) u hu);rw [Int.toNat_natCast,Nat.add_assoc];exact this
theorem yK {cs row:List O} {k sz o:Nat} {u:O} (h:(cs.drop (k*sz)).take sz=row) (ho:o < sz) (hu:row[o]?=some u):cs[k*sz+o]?=some u:=by
 rw [<- h,List.getElem?_take,if_pos ho,List.getElem?_drop] at hu;exact hu
theorem DT (hi:hU w iv l) (hT:nK l) (hl:l.length<=1000) {who:Nat} (hw:who < l.length) {k:Nat} (hk:k < (aP l who).imports.length) :
  aC prog 133 #[iv,i64 (who:Int),i64 (k:Int)] w λr w'=>r=(match iT l who k with|some q=>.tuple #[i64 (q.1:Int),i64 (q.2:Int),.bool true]|none=>.tuple #[i64 0,i64 0,.bool false])/\aG w w':=by
 apply aIo;suffices key:∀ R:O->Ω->Prop,(∀ r w',r=(match iT l who k with|some q=>.tuple #[i64 (q.1:Int),i64 (q.2:Int),.bool true]|none=>.tuple #[i64 0,i64 0,.bool false])->aG w w'->R r w')->AH iv (i64 (who:Int)) (i64 (k:Int)) w R from key _ λr w' h1 h2=>⟨h1,h2⟩;intro R hR;have hTw:=hT _ (fJ hw);have hxr:=hTw.1.2.1.2 _ (bF.imp_mem (i:=aP l who) (k:=(k:Int)) (by omega) (by omega));unfold AH;refine aV.2 ?_;simp only [show ¬ ((who:Int) < 0) by omega,dJ,aJ,reduceIte,Bool.false_eq_true,decide_false];refine wQ iD hi (kU.2 ?_);simp only [show ¬ ((who:Int)>=((l.length:Nat):Int)) by omega,aV,dJ,aJ,reduceIte,Bool.false_eq_true,decide_false];simp only [show ¬ ((k:Int) < 0) by omega,dJ,reduceIte,Bool.false_eq_true,decide_false];refine oG (i:=who) iD dC lA hi (cC hw) λrow ⟨p,hp,hA⟩=>⟨p.iv,by rw [hp];rfl,by decide,?_⟩;refine wQ mG hA.im (kU.2 ?_);simp only [show ¬ ((k:Int)>=(((aP l who).imports.length:Nat):Int)) by omega,aA,decide_false];refine oG (i:=who) iD dC lA hi (cC hw) λrow ⟨p,hp,hA⟩=>⟨p.iv,by rw [hp];rfl,by decide,?_⟩
 have himp:(aP l who).imports[k]?=some ((aP l who).imp (k:Int)):=by
  unfold bF.imp;rw [Int.toNat_natCast,List.getD_eq_getElem?_getD,List.getElem?_eq_getElem hk];rfl
 generalize hX:(aP l who).imp (k:Int)=X at *;refine XB (i:=k) mG EF hA.im himp EJ λrow ⟨pv,hrow,hpv⟩=>?_;subst hrow;refine xL MV rfl (rH.one (w:=w) (m:=X) ⟨pv,rfl,hpv⟩) λw1 hb x1=>?_;have hb:bD w1 w.heap.size [.string X.name,i64 X.exp,pv,i64 X.result] 180:=hb;refine bA hb.boxed eM NK rfl ?_;have hi1:=hi.ext x1;refine (aEq hi1 hl).mono λr w2 ⟨hr,x2⟩=>?_;subst hr;have x02:=x1.trans x2;have hi2:=hi1.ext x2;have hb2:=hb.ext x2;have D2:aG w2 w2.drew:=(aG.refl _).drew;have hres:iT l who k=(mD l X.name).bind λt=>if X.exp < (aP l t).exports.length/\((aP l t).meth ((aP l t).exports.getD X.exp.toNat 0)).params=X.params/\((aP l t).meth ((aP l t).exports.getD X.exp.toNat 0)).result=X.result then some (t,((aP l t).exports.getD X.exp.toNat 0).toNat) else none:=by unfold iT;rw [hX]
 refine aH.mk' (λw'=>aG w2 w') D2 ?_;refine aD.ok (λw' _=>pE) ?_;cases hf:mD l X.name with
 | none=>
  dsimp only;simp only [show ((-1:Int) < 0) by decide,zI,aJ,aE,reduceIte,decide_true];exact hR _ _ (by rw [hres,hf];rfl) (x02.trans D2)
 | some t=>
 dsimp only
 have htl:t < l.length:=by
  unfold mD at hf;exact (List.findIdx?_eq_some_iff_findIdx_eq.1 hf).1
 have hTt:=hT _ (fJ htl);simp only [show ¬ ((t:Int) < 0) by omega,kC,aJ,reduceIte,Bool.false_eq_true,decide_false];refine dT (λw' hw=>(hb2.ext hw).boxed) cN aL rfl ?_;refine aD.ok (λw' _=>pE) ?_;have hx0:=hxr.1.1;simp only [show ¬ (X.exp < 0) by omega,kC,aJ,reduceIte,Bool.false_eq_true,decide_false];refine dT (λw' hw=>(hb2.ext hw).boxed) cN aL rfl ?_;obtain ⟨cs,hcs,hrows⟩:=hi2;obtain ⟨row,hrow,q,hq,hQ⟩:=hrows t _ (cC htl);subst hq;refine XJ iD iI aZ hcs (λw' hw=>hw) htl (yK (o:=4) hrow (by decide) (u:=q.xv) rfl) ?_;obtain ⟨xa,xc,hxv⟩:=aB.shape hQ.ex
 have hlenx:∀ {S:Ω->Prop} {L:O->Prop},L (i64 ((aP l t).exports.length:Nat))->aD prog S (Builtin.len_ #[42] 3 #[q.xv]) L:=λh=>by
  rw [hxv];exact aD.ok (λw' _=>jR underlying42) h
 refine hlenx (aD.ok (λw' _=>BV) ?_);have fail:∀ w',aG w w'->(¬ (X.exp < (aP l t).exports.length/\((aP l t).meth ((aP l t).exports.getD X.exp.toNat 0)).params=X.params/\((aP l t).meth ((aP l t).exports.getD X.exp.toNat 0)).result=X.result))->R (.tuple #[i64 0,i64 0,.bool false]) w':=λw' hx hn=>hR _ _ (by rw [hres,hf];simp only [Option.bind_some];rw [if_neg hn]) hx;by_cases hge:X.exp>=(((aP l t).exports.length:Nat):Int)
 ·simp only [hge,aE,decide_true];exact fail _ (x02.trans D2) λh=>by omega
 simp only [hge,aA,decide_false];have D3:aG w2.drew w2.drew.drew:=(aG.refl _).drew;have D23:=D2.trans D3;refine aH.mk' (λw'=>aG w2 w') D23 ?_;refine XJ iD iI aZ hcs (λw' hw=>hw) htl (yK (o:=4) hrow (by decide) (u:=q.xv) rfl) ?_;refine dT (λw' hw=>(hb2.ext hw).boxed) cN aL rfl ?_;have hxl:X.exp.toNat < (aP l t).exports.length:=by omega
 generalize hm:(aP l t).exports.getD X.exp.toNat 0=m at *
 have hmm:(aP l t).exports[X.exp.toNat]?=some m:=by
  rw [<- hm,List.getD_eq_getElem?_getD,List.getElem?_eq_getElem hxl];rfl
 have hmr:=hTt.1.2.2.2.2 m (List.mem_of_getElem? hmm);refine gF aM aL hQ.ex (λw' hw=>hw) (by omega) (by omega) (fQ hmm) ?_;refine aV.2 ?_;simp only [show ¬ (m < 0) by omega,dJ,aJ,reduceIte,Bool.false_eq_true,decide_false];have hi3:hU w2.drew.drew iv l:=(hi.ext x02).ext D23;have x03:=x02.trans D23;refine oG (i:=t) iD bN gR hi3 (cC htl) λrow ⟨p3,hp3,hA3⟩=>⟨p3.mv,by rw [hp3];rfl,by decide,?_⟩;refine wQ iJ hA3.mt (kU.2 ?_);simp only [show ¬ (m>=(((aP l t).methods.length:Nat):Int)) by omega,aA,decide_false];refine oG (i:=t) iD bN gR hi3 (cC htl) λrow ⟨p4,hp4,hA4⟩=>⟨p4.mv,by rw [hp4];rfl,by decide,?_⟩;obtain ⟨mn,rfl⟩:∃ n:Nat,m=n:=⟨m.toNat,by omega⟩
 have hmth:(aP l t).methods[mn]?=some ((aP l t).meth (mn:Int)):=by
  unfold bF.meth;rw [Int.toNat_natCast,List.getD_eq_getElem?_getD,List.getElem?_eq_getElem (by omega)];rfl
 have hMr:=hTt.1.2.2.1.2.1 _ (meth_mem (i:=aP l t) (k:=mn) (by omega));generalize hM:(aP l t).meth (mn:Int)=M at *;refine XB (i:=mn) iJ oK hA4.mt hmth tD λrow ⟨mpv,mlv,mcv,hmrow,hmp,hml,hmc⟩=>?_;subst hmrow;refine xL BK rfl (jO.one (w:=w2.drew.drew) (m:=M) ⟨mpv,mlv,mcv,rfl,hmp,hml,hmc⟩) λw5 hb5 x5=>?_;have hb5:bD w5 w2.drew.drew.heap.size [mpv,i64 M.result,mlv,mcv] 74:=hb5;refine bA hb5.boxed fB aZ rfl ?_;refine bA ((hb2.ext D23).ext x5).boxed cM aZ rfl ?_;have x05:=x03.trans x5;refine aNm (hmp.ext x5) (hpv.ext x05) (by have:=hMr.1.2;omega) λw6 x6=>?_;have x06:=x05.trans x6;refine fN.2 ?_;by_cases he:M.params=X.params
 ·simp only [he,dJ,aJ,reduceIte,Bool.false_eq_true,Bool.not_true,decide_true];refine bA (hb5.ext x6).boxed jE aL rfl ?_;refine bA (((hb2.ext D23).ext x5).ext x6).boxed cX aL rfl ?_;refine aS.2 ?_;by_cases hr:M.result=X.result
  ·simp only [hr,ne_eq,not_true_eq_false,aA,decide_false];refine hR _ _ ?_ x06;rw [hres,hf];simp only [Option.bind_some];rw [hm,hM,if_pos ⟨by omega,he,hr⟩];simp
  ·simp only [hr,ne_eq,not_false_eq_true,aE,decide_true];exact fail _ x06 λh=>hr h.2.2
 ·simp only [he,kB,aJ,aE,reduceIte,Bool.not_false,decide_false];exact fail _ x06 λh=>he h.2.1
end
end Go.Proofs.YtgkkecladbmjkaaGreatDoor
namespace Go.Proofs.YtgkkecladbmjkaaGreatDoor
open Tryz
open Go.Vc Go.Tc
def aTw (ar:List PA) (k v:Int):Prop:=v=0\/∃ (j:Nat) (x:PA),v=(j:Int)+1/\ar[j]?=some x/\x.label=k
structure LoV (ar:List PA) (k a b:Int):Prop where
 eq:k≠2->a=b
 ref:k=3\/k=4->aTw ar k a
def LoL (ar:List PA):List Int->List Int->List Int->Prop
 | [],[],[]=>True
 | k::K,a::s,b::t=>LoV ar k a b/\LoL ar K s t
 | _,_,_=>False
structure LoA (x y:PA):Prop where
 owner:y.owner=x.owner
 label:y.label=x.label
 life:y.life=x.life
 share:y.share=x.share
 len:y.data.length=x.data.length
 pub:x.label=3->y.data=x.data
structure aWc (ar ar':List PA):Prop where
 len:ar'.length=ar.length
 row:∀ (j:Nat) x y,ar[j]?=some x->ar'[j]?=some y->LoA x y
def aWd (ar ar':List PA):Prop:=∀ (j:Nat) x,ar[j]?=some x->∃ y,ar'[j]?=some y/\y.label=x.label
structure LoP (s s':PS):Prop where
 size:s'.size=s.size
 ar:aWc s.ar s'.ar
 tp:s'.tp=s.tp
 ts:s'.ts.length=s.ts.length
 tr:s'.tr=s.tr
structure aWp (x:gP) (s:PS) (K:List Int) (q q':DL):Prop where
 st:q'.2.1=q.2.1
 lo:LoP q.2.2 q'.2.2
 grow:aWd s.ar q.2.2.ar
 size:q.2.2.size=s.size
 val:q.2.1=36864->¬ iR x.op->∀ i m,LoV q.2.2.ar (bI (jZ i m x K) 0) q.1 q'.1
structure LoF (l:List bF) (ar:List PA) (f g:gV) (K:List Int):Prop where
 who:g.who=f.who
 mth:g.mth=f.mth
 pc:g.pc=f.pc
 st:LoL ar K f.st g.st
 loc:LoL ar (f.me l).locs f.loc g.loc
def aTx (l:List bF) (ar:List PA) (f g:gV):Prop:=∃ K,vP (f.img l) (f.me l) f.pc K/\LoF l ar f g K
def aTz (l:List bF) (ar:List PA) (c f g:gV):Prop:=∃ K K1,vP (f.img l) (f.me l) f.pc K/\nJ K (K1++jP (c.me l).result)/\nI K1/\LoF l ar f g K1
def aTy (l:List bF) (ar:List PA):gV->List gV->List gV->Prop
 | _,[],[]=>True
 | c,f::fs,g::gs=>aTz l ar c f g/\aTy l ar f fs gs
 | _,_,_=>False
def aWe (ar:List PA):Prop:=(∃ x,ar[0]?=some x/\x.label=3)/\∃ x,ar[1]?=some x/\x.label=4
structure LoR (l:List bF) (r r':Rm):Prop where
 ps:LoP r.ps r'.ps
 fd:∀ k,k < l.length->LoL r.ps.ar (aP l k).fields (r.fd.getD k []) (r'.fd.getD k [])
 base:aWe r.ps.ar
 sz:r.ps.size<=5000
structure LoM (l:List bF) (m n:PM):Prop where
 top:aTx l m.r.ps.ar m.f n.f
 ch:aTy l m.r.ps.ar m.f m.fs n.fs
 fuel:n.fuel=m.fuel
 r:LoR l m.r n.r
def aWs (l:List bF) (o o':Out):Prop:=(∃ m n,o=.run m/\o'=.run n/\LoM l m n)\/∃ s d q r r',o=.fin s d q r/\o'=.fin s d q r'/\LoP r.ps r'.ps
end Go.Proofs.YtgkkecladbmjkaaGreatDoor
namespace Go.Proofs.YtgkkecladbmjkaaGreatDoor
open Tryz
open Go.Vc
structure lP (p:RP) (w:Ω):Prop where
 room:kV w p.rb 0 [.pointer (some ⟨p.hb,0,none⟩),p.iv,p.fv,p.pub,p.sec]
 h:gT w p.hb p.B p.size p.g p.cap p.ar
 qp:w.ownsRow p.B 5 1 p.pub p.tp.length (p.tp.map u8)
 qs:w.ownsRow p.B 5 1 p.sec p.ts.length (p.ts.map u8)
 lp:p.tp.length<=128
 ls:p.ts.length<=128
 ne:∀ x,p.pub.ownBlock=some x->p.sec.ownBlock≠some x
 np:∀ a∈p.ar,∀ x,a.dv.ownBlock=some x->p.pub.ownBlock≠some x
 ns:∀ a∈p.ar,∀ x,a.dv.ownBlock=some x->p.sec.ownBlock≠some x
 gp:p.pub.ownBlock≠some p.g
 gs:p.sec.ownBlock≠some p.g
 lt:p.rb≠p.hb
 fresh:∀ x,(x=p.rb\/x=p.hb)->x≠p.g/\(∀ a∈p.ar,a.dv.ownBlock≠some x)/\p.pub.ownBlock≠some x/\p.sec.ownBlock≠some x
 two:2<=p.ar.length
 sz:0<=p.size/\p.size<=1000
 bytes:∀ a∈p.ar,qD a.data
section
variable {p:RP} {w w':Ω}
theorem lP.trace (h:lP p w) {tb:Nat} (ht:bD w tb [.slice none 0 0] 125) (hn:¬ kE p tb):bZ { p with tb:=tb,tv:=.slice none 0 0,tr:=[] } w:=by
 refine ⟨h.room,h.h,h.qp,h.qs,h.lp,h.ls,h.ne,h.np,h.ns,h.gp,h.gs,h.lt,h.fresh,ht,World.ownsRow_nil _ _ _ _,λe=>(by cases e),λi hi hm=>?_,h.two,h.sz,h.bytes⟩;rcases hi with hi|hi
 ·have hi:i=tb:=hi;subst hi;exact hn hm
 ·cases hi
theorem lP.hi (h:lP p w):∀ i,kE p i->i < w.heap.size:=by
 intro i hm;rcases hm with rfl|rfl|rfl|⟨a,ha,he⟩|he|he
 ·exact h.room.lt
 ·exact h.h.heap.lt
 ·exact (h.h.row.lt _ rfl).2
 ·exact ((h.h.data a ha).lt _ he).2
 ·exact (h.qp.lt _ he).2
 ·exact (h.qs.lt _ he).2
theorem lP.fr {S:Nat->Prop} (h:lP p w) (f:Fr S w w') (hn:∀ i,kE p i->¬ S i):lP p w':=
 ⟨f.seg h.room (hn _ (.inl rfl)),h.h.frT f λi hs=>⟨λe=>hn i (.inr (.inl e)) hs,λe=>hn i (.inr (.inr (.inl e))) hs,λa ha e=>hn i (.inr (.inr (.inr (.inl ⟨a,ha,e⟩)))) hs⟩,
  f.own h.qp λi hi=>hn i (.inr (.inr (.inr (.inr (.inl hi))))),f.own h.qs λi hi=>hn i (.inr (.inr (.inr (.inr (.inr hi))))),h.lp,h.ls,h.ne,h.np,h.ns,h.gp,h.gs,h.lt,h.fresh,h.two,h.sz,h.bytes⟩
theorem lP.ext (h:lP p w) (hx:aG w w'):lP p w':=h.fr (Fr.of_ext (S:=λ_=>False) hx) λ_ _ h=>h
structure AZ (p p':RP) (w w':Ω):Prop where
 rb:p'.rb=p.rb
 hb:p'.hb=p.hb
 B:p'.B=p.B
 tb:p'.tb=p.tb
 size:p'.size=p.size
 iv:p'.iv=p.iv
 fv:p'.fv=p.fv
 mu:∀ i,kE p' i->kE p i\/w.heap.size<=i
 fr:Fr (kE p) w w'
theorem AZ.of_ext (hx:aG w w'):AZ p p w w':=⟨rfl,rfl,rfl,rfl,rfl,rfl,rfl,λ_ hi=>.inl hi,Fr.of_ext hx⟩
theorem AZ.trans {p1 p2:RP} {w1 w2:Ω} (h:AZ p p1 w w1) (k:AZ p1 p2 w1 w2):AZ p p2 w w2:=
 ⟨k.rb.trans h.rb,k.hb.trans h.hb,k.B.trans h.B,k.tb.trans h.tb,k.size.trans h.size,k.iv.trans h.iv,k.fv.trans h.fv,λi hi=>by
  rcases k.mu i hi with h1|h1
  ·exact h.mu i h1
  ·exact .inr (Nat.le_trans h.fr.size h1),h.fr.trans k.fr λi hi hs=>by
  rcases h.mu i hs with h1|h1
  ·exact h1
  ·omega⟩
theorem lP.setDv (h:lP p w) {k:Nat} {x:dB} (hk:p.ar[k]?=some x) {v':O} {d':List Int} (hd:d'.length<=64) (hok:qD d') (ho:w.ownsRow p.B 5 1 v' d'.length (d'.map u8)) (hn:∀ i,v'.ownBlock=some i->¬ kE p i) :
  lP { p with ar:=p.ar.set k { x with dv:=v',data:=d' } } (w.setCell ⟨p.g,k*5+4,none⟩ v')/\(∀ i,kE { p with ar:=p.ar.set k { x with dv:=v',data:=d' } } i->kE p i\/v'.ownBlock=some i)/\Fr (λi=>i=p.g) w (w.setCell ⟨p.g,k*5+4,none⟩ v'):=by
 have hkl:k < p.ar.length:=(List.getElem?_eq_some_iff.1 hk).1;have hxm:=List.mem_of_getElem? hk;have f:Fr (λi=>i=p.g) w (w.setCell ⟨p.g,k*5+4,none⟩ v'):=Fr.of_set rfl
 have find:∀ {i:Nat} {a:dB},(p.ar.set k { x with dv:=v',data:=d' })[i]?=some a->(i=k/\a={ x with dv:=v',data:=d' })\/(i≠k/\p.ar[i]?=some a):=by
  intro i a hi;by_cases hik:k=i
  ·subst hik;rw [List.getElem?_set_self hkl] at hi;cases hi;exact .inl ⟨rfl,rfl⟩
  ·rw [List.getElem?_set_ne hik] at hi;exact .inr ⟨λe=>hik e.symm,hi⟩
 have each:∀ a∈p.ar.set k { x with dv:=v',data:=d' },a={ x with dv:=v',data:=d' }\/a∈p.ar:=by
  intro a ha;obtain ⟨i,hi⟩:=List.getElem?_of_mem ha;rcases find hi with ⟨_,e⟩|⟨_,e⟩
  ·exact .inl e
  ·exact .inr (List.mem_of_getElem? e)
 have inM:∀ a∈p.ar,∀ i,a.dv.ownBlock=some i->kE p i:=λa ha i hi=>.inr (.inr (.inr (.inl ⟨a,ha,hi⟩)))
 have mu:∀ i,kE { p with ar:=p.ar.set k { x with dv:=v',data:=d' } } i->kE p i\/v'.ownBlock=some i:=λi hi=>by
  rcases hi with hi|hi|hi|⟨a,ha,he⟩|hi
  ·exact .inl (.inl hi)
  ·exact .inl (.inr (.inl hi))
  ·exact .inl (.inr (.inr (.inl hi)))
  ·rcases each a ha with rfl|ha
   ·exact .inr he
   ·exact .inl (inM a ha i he)
  ·exact .inl (.inr (.inr (.inr (.inr hi))))
 have hgM:kE p p.g:=.inr (.inr (.inl rfl))
 have hrow:(w.setCell ⟨p.g,k*5+4,none⟩ v').ownsRow p.B 127 5 (.slice (some ⟨p.g,0,none⟩) p.ar.length p.cap) p.ar.length (jW (p.ar.set k { x with dv:=v',data:=d' })):=by
  rw [yL hk];exact (h.h.row.stored (k*5+4) v').1
 refine ⟨⟨f.seg h.room (λe=>(h.fresh p.rb (.inl rfl)).1 e),⟨?_,?_,λa ha=>?_,λa ha=>?_,λi j a b y hi hj ha hb'=>?_,λa ha=>?_,by have:=f.size;have:=h.h.lt;show p.B<=_;omega,by simpa using h.h.cnt,⟨h.h.fresh.1,λa ha=>?_⟩⟩,f.own h.qp λi hi e=>h.gp (e▸hi),f.own h.qs λi hi e=>h.gs (e▸hi),h.lp,h.ls,h.ne,λa ha y hy=>?_,λa ha y hy=>?_,h.gp,h.gs,h.lt,λy hy=>⟨(h.fresh y hy).1,λa ha=>?_,(h.fresh y hy).2.2⟩,
  by simpa using h.two,h.sz,λa ha=>?_⟩,mu,f⟩
 ·have:=f.blk h.h.heap λe=>h.h.fresh.1 e;simpa using this
 ·simpa using hrow
 ·rcases each a ha with rfl|ha
  ·exact f.own ho λi hi e=>(hn i hi) (e▸hgM)
  ·exact f.own (h.h.data a ha) λi hi e=>h.h.drow a ha (e▸hi)
 ·rcases each a ha with rfl|ha
  ·exact hd
  ·exact h.h.len a ha
 ·rcases find hi with ⟨rfl,rfl⟩|⟨_,hi'⟩<;>rcases find hj with ⟨rfl,rfl⟩|⟨_,hj'⟩
  ·rfl
  ·exact absurd (inM b (List.mem_of_getElem? hj') y hb') (hn y ha)
  ·exact absurd (inM a (List.mem_of_getElem? hi') y ha) (hn y hb')
  ·exact h.h.dist i j a b y hi' hj' ha hb'
 ·rcases each a ha with rfl|ha
  ·exact λe=>(hn _ e) hgM
  ·exact h.h.drow a ha
 ·rcases each a ha with rfl|ha
  ·exact λe=>(hn _ e) (.inr (.inl rfl))
  ·exact h.h.fresh.2 a ha
 ·rcases each a ha with rfl|ha
  ·exact λe=>(hn y hy) (.inr (.inr (.inr (.inr (.inl e)))))
  ·exact h.np a ha y hy
 ·rcases each a ha with rfl|ha
  ·exact λe=>(hn y hy) (.inr (.inr (.inr (.inr (.inr e)))))
  ·exact h.ns a ha y hy
 ·rcases each a ha with rfl|ha
  ·exact λe=>(hn y e) (hy.elim (λe=>.inl e) λe=>.inr (.inl e))
  ·exact (h.fresh y hy).2.1 a ha
 ·rcases each a ha with rfl|ha
  ·exact hok
  ·exact h.bytes a ha
theorem yF (h:lP p w) {k:Nat} (hk:k < 2) {x:dB} (hx:p.ar[k]?=some x) {v:O} {l:List Int} (hv:iZ w v l) (hl:l.length<=64) (hok:qD l) :
  aC prog 86 #[.pointer (some ⟨p.hb,0,none⟩),i64 ((k:Int)+1),v] w λ_ w'=>∃ v',lP { p with ar:=p.ar.set k { x with dv:=v',data:=l } } w'/\AZ p { p with ar:=p.ar.set k { x with dv:=v',data:=l } } w w'/\Fr (λi=>i=p.g) w w':=by
 apply aPl
 have key:∀ {R:O->Ω->Prop},(aC prog 97 #[.pointer (some ⟨p.hb,0,none⟩),i64 ((k:Int)+1)] w λt20 w9=>aC prog 58 #[v] w9 λt22 w10=>Go.Vc.aI (t20) /\
   V prog (Instr.fieldAt 127 t20 4) w10 λt24 w12=>U prog (Instr.storeAt 23 t24 t22) w12 λ_ w13=>R (Value.bool true) w13)->EY (.pointer (some ⟨p.hb,0,none⟩)) (i64 ((k:Int)+1)) v w R:=by
  intro R hgo;unfold EY;obtain ⟨a,c,rfl⟩:=hv.shape;refine aS.2 ?_;have h2:k=0\/k=1:=by omega
  rcases h2 with rfl|rfl
  ·simp only [show decide ((((0:Nat):Int)+1)≠1)=false by decide,dJ,CV,aJ,reduceIte,Bool.false_eq_true];refine pS.2 ?_;refine dR.2 ?_;simp only [show ¬ (((l.length:Nat):Int) > 64) by omega,aA,decide_false];exact hgo
  ·simp only [show decide ((((1:Nat):Int)+1)≠1)=true by decide,show decide ((((1:Nat):Int)+1)≠2)=false by decide,aS,EL,dJ,aJ,reduceIte,Bool.false_eq_true];refine pS.2 ?_;refine dR.2 ?_;simp only [show ¬ (((l.length:Nat):Int) > 64) by omega,aA,decide_false];exact hgo
 refine key ?_;have hkl:k < p.ar.length:=(List.getElem?_eq_some_iff.1 hx).1;refine (zR h.h).mono λr w1 ⟨hr,hw⟩=>?_;rw [ER rfl hkl] at hr;subst hr;have hw:=hw.symm;subst hw;refine (WH hv (by omega)).mono λv' w1 ⟨ho,x1⟩=>?_;have h1:=h.ext x1;have hBw:=h.h.lt;refine ⟨.inl ⟨_,rfl⟩,?_⟩;refine V.ok jY ?_;refine U.ok (lV lO (bM ho) (h1.h.get hx (by omega:4 < 5)) (h1.h.row.frozenAt _)) ?_
 obtain ⟨h2,mu2,f2⟩:=h1.setDv hx hl hok (aR ho hBw) λi hi=>by
  have hi':=(ho.lt i hi).1;exact λhm=>by have:=h.hi i hm;omega
 refine ⟨v',h2,⟨rfl,rfl,rfl,rfl,rfl,rfl,rfl,λi hi=>?_,((Fr.of_ext (S:=λi=>i=p.g) x1).trans f2 λ_ _ h=>h).mono λi hi=>.inr (.inr (.inl hi))⟩,(Fr.of_ext (S:=λi=>i=p.g) x1).trans f2 λ_ _ h=>h⟩;rcases mu2 i hi with hm|hm
 ·exact .inl hm
 ·exact .inr (ho.lt i hm).1
theorem lP.clear (h:lP p w):lP { p with pub:=.slice none 0 0,sec:=.slice none 0 0,tp:=[],ts:=[] } ((w.setCell ⟨p.rb,0+3,none⟩ (.slice none 0 0)).setCell ⟨p.rb,0+4,none⟩ (.slice none 0 0))/\Fr (λi=>i=p.rb) w ((w.setCell ⟨p.rb,0+3,none⟩ (.slice none 0 0)).setCell ⟨p.rb,0+4,none⟩ (.slice none 0 0)):=by
 have r1:=h.room.set (j:=3) (by simp) (.slice none 0 0);have r2:=r1.set (j:=4) (by simp) (.slice none 0 0);have f1:Fr (λi=>i=p.rb) w (w.setCell ⟨p.rb,0+3,none⟩ (.slice none 0 0)):=Fr.of_set rfl;have f:Fr (λi=>i=p.rb) w ((w.setCell ⟨p.rb,0+3,none⟩ (.slice none 0 0)).setCell ⟨p.rb,0+4,none⟩ (.slice none 0 0)):=f1.set rfl;have hf:=λa ha=>(h.fresh p.rb (.inl rfl)).2.1 a ha
 refine ⟨⟨r2,h.h.frT f λi hi=>⟨λe=>h.lt (hi▸e),λe=>(h.fresh p.rb (.inl rfl)).1 (hi▸e),λa ha e=>hf a ha (hi▸e)⟩,⟨rfl,.inl ⟨rfl,rfl⟩⟩,⟨rfl,.inl ⟨rfl,rfl⟩⟩,by simp,by simp,λx hx=>(by cases hx),λa ha x hx=>(by simp [Value.ownBlock]),λa ha x hx=>(by simp [Value.ownBlock]),λhx=>(by cases hx),λhx=>(by cases hx),h.lt,λy hy=>⟨(h.fresh y hy).1,(h.fresh y hy).2.1,λhx=>(by cases hx),λhx=>(by cases hx)⟩,
  h.two,h.sz,h.bytes⟩,f⟩
theorem WO (h:lP p w) {pv qv:O} {a b:List Int} (ha:iZ w pv a) (hb:∀ w',Fr (kE p) w w'->iZ w' qv b) (oka:qD a) (okb:qD b) :
  aC prog 42 #[kZ p,pv,qv] w λr w'=>∃ p',r=.bool (kY p.ps a b).1/\p'.ps=(kY p.ps a b).2/\lP p' w'/\AZ p p' w w':=by
 apply aQm;unfold TL;obtain ⟨a1,c1,rfl⟩:=ha.shape;obtain ⟨b1,d1,rfl⟩:=(hb w (Fr.refl _ _)).shape;refine pS.2 (dR.2 ?_);by_cases h1:((a.length:Nat):Int) > 64
 ·simp only [h1,kB,aJ,aE,reduceIte,decide_true];refine ⟨p,?_,?_,h,AZ.of_ext (aG.refl _)⟩<;>unfold kY<;>rw [if_pos (.inl (by omega))]
 simp only [h1,dJ,aJ,reduceIte,Bool.false_eq_true,decide_false];refine pS.2 (dR.2 ?_);by_cases h2:((b.length:Nat):Int) > 64
 ·simp only [h2,aE,decide_true];refine ⟨p,?_,?_,h,AZ.of_ext (aG.refl _)⟩<;>unfold kY<;>rw [if_pos (.inr (by omega))]
 simp only [h2,aA,decide_false];have hno:¬ (a.length > 64\/b.length > 64):=by omega
 have htwo:=h.two;obtain ⟨x,hx⟩:=bH (l:=p.ar) (j:=0) (by omega);obtain ⟨y,hy⟩:=bH (l:=p.ar) (j:=1) (by omega);refine ⟨.inl ⟨_,rfl⟩,?_⟩;refine bA h.room.boxed bY fA rfl ?_;refine (yF h (k:=0) (by omega) hx ha (by omega) oka).mono λ_ w1 ⟨v1,g1,s1,f1⟩=>?_;refine ⟨.inl ⟨_,rfl⟩,?_⟩;refine bA g1.room.boxed bY fA rfl ?_;have hy1:(p.ar.set 0 { x with dv:=v1,data:=a })[1]?=some y:=by rw [List.getElem?_set_ne (by decide)];exact hy
 refine (yF g1 (k:=1) (by omega) hy1 (hb w1 s1.fr) (by omega) okb).mono λ_ w2 ⟨v2,g2,s2,f2⟩=>?_;have S2:=s1.trans s2;refine ⟨.inl ⟨_,rfl⟩,?_⟩;refine V.ok uF ?_;refine GM lO g2.room rfl (by simp) rfl ?_;have r3:=g2.room.set (j:=3) (by simp) (.slice none 0 0);refine ⟨.inl ⟨_,rfl⟩,?_⟩;refine V.ok yO ?_;refine GM lO r3 rfl (by simp) rfl ?_;obtain ⟨g4,f4⟩:=g2.clear;refine ⟨_,?_,?_,g4,S2.trans ⟨rfl,rfl,rfl,rfl,rfl,rfl,rfl,λi hi=>?_,f4.mono λi hi=>.inl hi⟩⟩
 ·unfold kY;rw [if_neg hno]
 ·unfold kY;rw [if_neg hno];show (⟨p.size,((p.ar.set 0 { x with dv:=v1,data:=a }).set 1 { y with dv:=v2,data:=b }).map pa,[],[],p.tr⟩:PS)=_;rw [vU (r:=2) hy1 (by omega),vU (r:=1) hx (by omega)];rfl
 ·rcases hi with hm|hm|hm|hm|hm|hm
  ·exact .inl (.inl hm)
  ·exact .inl (.inr (.inl hm))
  ·exact .inl (.inr (.inr (.inl hm)))
  ·exact .inl (.inr (.inr (.inr (.inl hm))))
  iterate 2
   ·cases hm
end
end Go.Proofs.YtgkkecladbmjkaaGreatDoor
namespace Go.Proofs.YtgkkecladbmjkaaGreatDoor
open Tryz
open Go.Vc Go.Tc
inductive Lb
 | rm|im|fo|fd|mb|fr|ex
structure iY where
 rp:RP
 fo:Nat
 vs:List O
 IB:Nat->Prop
 mb:Nat
def rI (q:FP) (i:Nat):Prop:=FM q i\/q.cv.ownBlock=some i
def WR (p:iY) (q:FP) (X:Nat->Prop):Lb->Nat->Prop
 | .rm,i=>kE p.rp i\/mN p.rp i
 | .im,i=>p.IB i
 | .fo,i=>i=p.fo
 | .fd,i=>FdM p.vs i
 | .mb,i=>i=p.mb
 | .fr,i=>rI q i
 | .ex,i=>X i
structure Sep (R:Lb->Nat->Prop) (n:Nat):Prop where
 dj:∀ a b i,R a i->R b i->a=b
 lt:∀ a i,R a i->i < n
theorem Sep.step {R R':Lb->Nat->Prop} {n n':Nat} (h:Sep R n) (hn:n<=n') (k:Lb) (h1:∀ a i,R' a i->R a i\/(a=k/\n<=i/\i < n')):Sep R' n':=by
 refine ⟨λa b i ha hb=>?_,λa i ha=>?_⟩
 ·rcases h1 a i ha with ha|⟨e1,h2,_⟩<;>rcases h1 b i hb with hb|⟨e2,h3,_⟩
  ·exact h.dj a b i ha hb
  ·have:=h.lt a i ha;omega
  ·have:=h.lt b i hb;omega
  ·rw [e1,e2]
 ·rcases h1 a i ha with ha|⟨_,_,h2⟩
  ·have:=h.lt a i ha;omega
  ·exact h2
structure Wh (l:List bF) (p:iY) (q:FP) (f:gV) (r:Rm) (X:Nat->Prop) (sl:O) (fu st:Int) (w:Ω):Prop where
 room:bZ p.rp w
 rps:p.rp.ps=r.ps
 fld:tK w p.rp.fv p.fo p.vs r.fd
 img:tM p.IB w λw'=>hU w' p.rp.iv l
 box:kV w p.mb 0 [kZ p.rp,rR p.rp,sl,i64 fu,i64 st]
 frm:qN w q (f.me l) f
 sep:Sep (WR p q X) w.heap.size
def WM (p:iY) (q:FP) (i:Nat):Prop:=(kE p.rp i\/mN p.rp i)\/FdM p.vs i\/i=p.mb\/FM q i
structure kK (p:iY) (q:FP) (p':iY) (q':FP) (w w':Ω):Prop where
 pe:p'={ p with rp:=p'.rp }
 rb:p'.rp.rb=p.rp.rb
 tb:p'.rp.tb=p.rp.tb
 iv:p'.rp.iv=p.rp.iv
 fv:p'.rp.fv=p.rp.fv
 mu:∀ i,kE p'.rp i\/mN p'.rp i->(kE p.rp i\/mN p.rp i)\/w.heap.size<=i
 qe:q'={ q with sv:=q'.sv }
 sv:∀ i,q'.sv.ownBlock=some i->q.sv.ownBlock=some i\/w.heap.size<=i
 fr:Fr (WM p q) w w'
section
variable {l:List bF} {p p1 p2:iY} {q q1 q2:FP} {f f':gV} {r r':Rm} {X:Nat->Prop} {sl:O} {fu st:Int} {w w1 w':Ω}
theorem kK.of_ext (hx:aG w w'):kK p q p q w w':=⟨rfl,rfl,rfl,rfl,rfl,λ_ h=>.inl h,rfl,λ_ h=>.inl h,Fr.of_ext hx⟩
theorem kK.wm (s:kK p q p1 q1 w w1) {i:Nat} (h:WM p1 q1 i):WM p q i\/w.heap.size<=i:=by
 have e:=s.pe;have e2:=s.qe;rcases h with h|h|h|h
 ·rcases s.mu i h with h|h
  ·exact .inl (.inl h)
  ·exact .inr h
 ·rw [e] at h;exact .inl (.inr (.inl h))
 ·rw [e] at h;exact .inl (.inr (.inr (.inl h)))
 ·rcases h with h|h|h
  ·rw [e2] at h;exact .inl (.inr (.inr (.inr (.inl h))))
  ·rw [e2] at h;exact .inl (.inr (.inr (.inr (.inr (.inl h)))))
  ·rcases s.sv i h with h|h
   ·exact .inl (.inr (.inr (.inr (.inr (.inr h)))))
   ·exact .inr h
theorem kK.trans (s:kK p q p1 q1 w w1) (k:kK p1 q1 p2 q2 w1 w'):kK p q p2 q2 w w':=by
 refine ⟨?_,k.rb.trans s.rb,k.tb.trans s.tb,k.iv.trans s.iv,k.fv.trans s.fv,λi hi=>?_,?_,λi hi=>?_,s.fr.trans k.fr λi hi hm=>?_⟩
 ·rw [k.pe,s.pe]
 ·rcases k.mu i hi with h|h
  ·exact s.mu i h
  ·exact .inr (Nat.le_trans s.fr.size h)
 ·rw [k.qe,s.qe]
 ·rcases k.sv i hi with h|h
  ·exact s.sv i h
  ·exact .inr (Nat.le_trans s.fr.size h)
 ·rcases s.wm hm with h|h
  ·exact h
  ·omega
theorem kK.mb (s:kK p q p1 q1 w w1):p1.mb=p.mb:=by rw [s.pe]
theorem kK.fb (s:kK p q p1 q1 w w1):q1.fb=q.fb:=by rw [s.qe]
theorem kK.pf (s:kK p q p1 q1 w w1):Proofs.YtgkkecladbmjkaaGreatDoor.pf q1=Proofs.YtgkkecladbmjkaaGreatDoor.pf q:=by unfold Proofs.YtgkkecladbmjkaaGreatDoor.pf;rw [s.fb]
def pm (p:iY):O:=.pointer (some ⟨p.mb,0,none⟩)
theorem kK.pm (s:kK p q p1 q1 w w1):Proofs.YtgkkecladbmjkaaGreatDoor.pm p1=Proofs.YtgkkecladbmjkaaGreatDoor.pm p:=by unfold Proofs.YtgkkecladbmjkaaGreatDoor.pm;rw [s.mb]
def iC (l:List bF) (p:iY) (q:FP) (f:gV) (r:Rm) (X:Nat->Prop) (sl:O) (fu st:Int) (w w':Ω):Prop:=∃ p' q',Wh l p' q' f r X sl fu st w'/\kK p q p' q' w w'
theorem Wh.go (h:Wh l p q f r X sl fu st w):iC l p q f r X sl fu st w w:=⟨p,q,h,kK.of_ext (aG.refl _)⟩
theorem iC.after (s:kK p q p1 q1 w w1) (g:iC l p1 q1 f r X sl fu st w1 w'):iC l p q f r X sl fu st w w':=by
 obtain ⟨p',q',h1,h2⟩:=g;exact ⟨p',q',h1,s.trans h2⟩
theorem iC.of_ext (hx:aG w w1) (g:iC l p q f r X sl fu st w1 w'):iC l p q f r X sl fu st w w':=iC.after (kK.of_ext hx) g
theorem Wh.fr {S:Nat->Prop} (h:Wh l p q f r X sl fu st w) (g:Fr S w w') (hn:∀ a i,a≠Lb.ex->WR p q X a i->¬ S i):Wh l p q f r X sl fu st w':=by
 have rm:=λi hi=>hn .rm i (by intro e;cases e) hi;refine ⟨h.room.fr g λi hs=>⟨λhm=>rm i (.inl hm) hs,λhm=>rm i (.inr hm) hs⟩,h.rps,h.fld.fr g (hn .fo _ (by intro e;cases e) rfl) λi hi=>hn .fd i (by intro e;cases e) hi,h.img.fr g λi hi=>hn .im i (by intro e;cases e) hi,g.seg h.box (hn .mb _ (by intro e;cases e) rfl),h.frm.fr g λi hi=>hn .fr i (by intro e;cases e) hi,?_⟩;exact h.sep.step g.size .ex λa i ha=>.inl ha
theorem Wh.ext (h:Wh l p q f r X sl fu st w) (hx:aG w w'):Wh l p q f r X sl fu st w':=h.fr (Fr.of_ext (S:=λ_=>False) hx) λ_ _ _ _ h=>h
theorem Wh.other (h:Wh l p q f r X sl fu st w) {i:Nat} (hi:X i):¬ WM p q i:=by
 intro hm;rcases hm with hm|hm|hm|hm
 ·cases h.sep.dj .rm .ex i hm hi
 ·cases h.sep.dj .fd .ex i hm hi
 ·cases h.sep.dj .mb .ex i hm hi
 ·cases h.sep.dj .fr .ex i (.inl hm) hi
theorem Wh.frame (h:Wh l p q f r X sl fu st w) (g:FGo q (f.me l) f' w w') (hw:f'.who=f.who) (hm:f'.mth=f.mth):iC l p q f' r X sl fu st w w':=by
 obtain ⟨q',h1,s⟩:=g;have eme:f'.me l=f.me l:=by unfold gV.me gV.img;rw [hw,hm]
 have F:=s.fr;have hn:∀ a i,a≠Lb.fr->WR p q X a i->¬ FM q i:=λa i ha hi hm=>ha (h.sep.dj a .fr i hi (.inl hm));have rm:=λi hi=>hn .rm i (by intro e;cases e) hi;refine ⟨p,q',⟨h.room.fr F λi hs=>⟨λhm=>rm i (.inl hm) hs,λhm=>rm i (.inr hm) hs⟩,h.rps,h.fld.fr F (hn .fo _ (by intro e;cases e) rfl) λi hi=>hn .fd i (by intro e;cases e) hi,h.img.fr F λi hi=>hn .im i (by intro e;cases e) hi,F.seg h.box (hn .mb _ (by intro e;cases e) rfl),eme▸h1,?_⟩,⟨rfl,rfl,rfl,rfl,rfl,λ_ h=>.inl h,s.same,s.sv,F.mono λi hi=>.inr (.inr (.inr hi))⟩⟩;refine h.sep.step F.size .fr λa i ha=>?_;cases a with
 | fr=>
  have hlt:=h1.hi i ha;rcases ha with ha|ha
  ·rcases s.fm ha with h2|h2
   ·exact .inl (.inl h2)
   ·exact .inr ⟨rfl,h2,hlt⟩
  ·rw [s.same] at ha;exact .inl (.inr ha)
 | _=>exact .inl ha
theorem Wh.roomS (h:Wh l p q f r X sl fu st w) {rp':RP} (ht:bZ rp' w') (s:pO p.rp rp' w w') (hps:rp'.ps=r'.ps) (hfd:r'.fd=r.fd):iC l p q f r' X sl fu st w w':=by
 have F:=s.fr;have hn:∀ a i,a≠Lb.rm->WR p q X a i->¬ (kE p.rp i\/mN p.rp i):=λa i ha hi hm=>ha (h.sep.dj a .rm i hi hm);have eR:kZ rp'=kZ p.rp:=by unfold kZ;rw [s.rb]
 have eT:rR rp'=rR p.rp:=by unfold rR;rw [s.tb]
 refine ⟨{ p with rp:=rp' },q,⟨ht,hps,?_,?_,?_,h.frm.fr F λi hi=>hn .fr i (by intro e;cases e) hi,?_⟩,⟨rfl,s.rb,s.tb,s.iv,s.fv,λi hi=>?_,rfl,λ_ h=>.inl h,F.mono λi hi=>.inl hi⟩⟩
 ·show tK w' rp'.fv p.fo p.vs r'.fd;rw [s.fv,hfd];exact h.fld.fr F (hn .fo _ (by intro e;cases e) rfl) λi hi=>hn .fd i (by intro e;cases e) hi
 ·show tM p.IB w' λw''=>hU w'' rp'.iv l;rw [s.iv];exact h.img.fr F λi hi=>hn .im i (by intro e;cases e) hi
 ·show kV w' p.mb 0 [kZ rp',rR rp',sl,i64 fu,i64 st];rw [eR,eT];exact F.seg h.box (hn .mb _ (by intro e;cases e) rfl)
 ·refine h.sep.step F.size .rm λa i ha=>?_;cases a with
  | rm=>
   have hlt:=ht.hi i ha;rcases s.mu i ha with h2|h2|h2
   ·exact .inl (.inl h2)
   ·exact .inl (.inr h2)
   ·exact .inr ⟨rfl,h2,hlt⟩
  | _=>exact .inl ha
 ·rcases s.mu i hi with h2|h2|h2
  ·exact .inl (.inl h2)
  ·exact .inl (.inr h2)
  ·exact .inr h2
theorem Wh.fieldS (h:Wh l p q f r X sl fu st w) {fd:List (List Int)} (hf:tK w' p.rp.fv p.fo p.vs fd) (F:Fr (FdM p.vs) w w'):iC l p q f { r with fd:=fd } X sl fu st w w':=by
 have hn:∀ a i,a≠Lb.fd->WR p q X a i->¬ FdM p.vs i:=λa i ha hi hm=>ha (h.sep.dj a .fd i hi hm);have rm:=λi hi=>hn .rm i (by intro e;cases e) hi;refine ⟨p,q,⟨h.room.fr F λi hs=>⟨λhm=>rm i (.inl hm) hs,λhm=>rm i (.inr hm) hs⟩,h.rps,hf,h.img.fr F λi hi=>hn .im i (by intro e;cases e) hi,F.seg h.box (hn .mb _ (by intro e;cases e) rfl),h.frm.fr F λi hi=>hn .fr i (by intro e;cases e) hi,h.sep.step F.size .ex λa i ha=>.inl ha⟩,⟨rfl,rfl,rfl,rfl,rfl,λ_ h=>.inl h,rfl,λ_ h=>.inl h,F.mono λi hi=>.inr (.inl hi)⟩⟩
theorem Wh.cell (h:Wh l p q f r X sl fu st w) {sl':O} {fu' st':Int} {j:Nat} {u:O} (hj:j < 5) (he:[kZ p.rp,rR p.rp,sl,i64 fu,i64 st].set j u=[kZ p.rp,rR p.rp,sl',i64 fu',i64 st']):iC l p q f r X sl' fu' st' w (w.setCell ⟨p.mb,0+j,none⟩ u):=by
 have F:Fr (λi=>i=p.mb) w (w.setCell ⟨p.mb,0+j,none⟩ u):=Fr.of_set rfl;have hn:∀ a i,a≠Lb.mb->WR p q X a i->¬ i=p.mb:=λa i ha hi hm=>ha (h.sep.dj a .mb i hi hm);have rm:=λi hi=>hn .rm i (by intro e;cases e) hi;have hb:=h.box.set (j:=j) (by simpa using hj) u;rw [he] at hb;refine ⟨p,q,⟨h.room.fr F λi hs=>⟨λhm=>rm i (.inl hm) hs,λhm=>rm i (.inr hm) hs⟩,h.rps,h.fld.fr F (hn .fo _ (by intro e;cases e) rfl) λi hi=>hn .fd i (by intro e;cases e) hi,h.img.fr F λi hi=>hn .im i (by intro e;cases e) hi,hb,h.frm.fr F λi hi=>hn .fr i (by intro e;cases e) hi,h.sep.step F.size .ex λa i ha=>.inl ha⟩,⟨rfl,rfl,rfl,rfl,rfl,λ_ h=>.inl h,rfl,λ_ h=>.inl h,F.mono λi hi=>.inr (.inr (.inl hi))⟩⟩
theorem Wh.setPc (h:Wh l p q f r X sl fu st w) (pc:Nat):iC l p q { f with pc:=pc } r X sl fu st w (w.setCell ⟨q.fb,0+2,none⟩ (i64 (pc:Int))):=by
 have F:Fr (λi=>i=q.fb) w (w.setCell ⟨q.fb,0+2,none⟩ (i64 (pc:Int))):=Fr.of_set rfl;have hb:=h.frm.box.set (j:=2) (by simp [WK]) (i64 (pc:Int));have hd:=h.frm.db;refine h.frame ⟨q,⟨hb,F.own h.frm.loc λi hi=>hd i (.inl hi),F.own h.frm.st λi hi=>hd i (.inr (.inl hi)),F.own h.frm.code λi hi=>hd i (.inr (.inr hi)),h.frm.db,h.frm.dl,h.frm.dc⟩,rfl,λi hi=>.inl hi,F.mono λi hi=>.inl hi⟩ rfl rfl
theorem Wh.setLoc (h:Wh l p q f r X sl fu st w) {loc:List Int} (_:loc.length=f.loc.length) (ho:w'.ownsRow 0 21 1 q.lv loc.length (loc.map i32)) (F:Fr (λi=>q.lv.ownBlock=some i) w w'):iC l p q { f with loc:=loc } r X sl fu st w w':=by
 have hd:=h.frm.db;refine h.frame ⟨q,⟨F.seg h.frm.box λhs=>hd _ (.inl hs) rfl,ho,F.own h.frm.st λi hi hs=>h.frm.dl i hs hi,F.own h.frm.code λi hi=>(h.frm.dc i hi).1,h.frm.db,h.frm.dl,h.frm.dc⟩,rfl,λi hi=>.inl hi,F.mono λi hi=>.inr (.inl hi)⟩ rfl rfl
end
section
variable {l:List bF} {p p1:iY} {q q1:FP} {f f1:gV} {r:Rm} {X:Nat->Prop} {sl:O} {fu st:Int} {w w1 w':Ω}
theorem pP (h:Wh l p q f r X sl fu st w) (hl:f.st.length<=1000) {n:Int}:aC prog 134 #[pf q,i32 n] w λ_ w'=>iC l p q { f with st:=f.st++[n] } r X sl fu st w w':=
 (aDo h.frm hl).mono λ_ _ g=>h.frame g rfl rfl
theorem aMc (h:Wh l p q f r X sl fu st w) (hl:f.st.length<=1000) {k:Nat} (hk:k<=f.st.length):aC prog 91 #[pf q,i64 (k:Int)] w λrv w'=>w'.ownsRow w.heap.size 21 1 rv k ((hY k f.st).map i32)/\iC l p q { f with st:=jC k f.st } r X sl fu st w w':=
 (DY h.frm hl hk).mono λ_ _ g=>⟨g.1,h.frame g.2 rfl rfl⟩
theorem ZN (h:Wh l p q f r X sl fu st w) (hl:f.st.length<=1000) (hk:1<=f.st.length):aC prog 135 #[pf q] w λrv w'=>rv=i32 (bI (hY 1 f.st) 0)/\iC l p q { f with st:=jC 1 f.st } r X sl fu st w w':=
 (yT h.frm hl hk).mono λ_ _ g=>⟨g.1,h.frame g.2 rfl rfl⟩
theorem ZO {op:Int} (ho:jB op\/op=15\/op=16\/op=26\/op=22) (h:Wh l p q f r X sl fu st w) (hl:f.st.length<=1000) (hk:vG op<=f.st.length) (h32:iB f.st) :
  aC prog 138 #[pf q,i64 op] w λrv w'=>rv=i32 (HG op (hY (vG op) f.st))/\iC l p q { f with st:=jC (vG op) f.st } r X sl fu st w w':=
 (VP ho h.frm hl hk h32).mono λ_ _ g=>⟨g.1,h.frame g.2 rfl rfl⟩
theorem pcW (h:Wh l p1 q1 f1 r X sl fu st w) (hq:q1.fb=q.fb) (hp:f1.pc<=100000) {R:O->Ω->Prop} (hR:R (i64 ((f1.pc+1:Nat):Int)) w) :
  Go.Vc.aI (pf q)/\V prog (Instr.fieldAt 114 (pf q) 2) w λa w1=>V prog (Instr.loadAt 3 a) w1 λb w2=>V prog (binOp .add 3 b (i64 1)) w2 λc w3=>R c w3:=by
 have e:pf q=.pointer (some ⟨q1.fb,0,none⟩):=by unfold pf;rw [hq]
 rw [e];refine ⟨.inl ⟨_,rfl⟩,gC cI aL h.frm.box rfl (bW.2 ?_)⟩;rw [aX (by omega),dF];exact hR
def SG (l:List bF) (p:iY) (q:FP) (f:gV) (X:Nat->Prop) (sl:O) (fu st:Int) (w w':Ω):Prop:=∃ st' r',iC l p q { f with st:=st' } r' X sl fu st w w'
theorem Wh.sg (h:Wh l p q f r X sl fu st w) (hx:aG w w'):SG l p q f X sl fu st w w':=⟨f.st,r,p,q,h.ext hx,kK.of_ext hx⟩
theorem iC.sg {st':List Int} {r':Rm} (g:iC l p q { f with st:=st' } r' X sl fu st w w'):SG l p q f X sl fu st w w':=⟨_,_,g⟩
theorem aEw {st':List Int} {me:gU} (hq:q1={ q with sv:=q1.sv }) {j:Nat} (hj:j < 8):(WK q1 me { f with st:=st' })[j]?=(WK q me f)[j]?:=by
 rw [hq];have:j=0\/j=1\/j=2\/j=3\/j=4\/j=5\/j=6\/j=7:=by omega
 rcases this with rfl|rfl|rfl|rfl|rfl|rfl|rfl|rfl<;>rfl
theorem yFr {S:Ω->Prop} {L:O->Prop} (hS:∀ w',S w'->SG l p q f X sl fu st w w') {s i j ft:Nat} (hf:FA prog s i j) (hl:L1 prog ft) {u:O} (hj:j < 8) (hu:(WK q (f.me l) f)[j]?=some u) (hk:L u) :
  aD prog S (Instr.fieldAt s (pf q) i) λa=>aD prog S (Instr.loadAt ft a) L:=
 yFE hf hl (λw' hw=>by
  obtain ⟨st',r',p1,q1,h1,s1⟩:=hS w' hw;exact ⟨_,by rw [<- s1.fb];exact h1.frm.box,by have e:=aEw (f:=f) (st':=st') (me:=f.me l) s1.qe hj;rw [hu] at e;exact e⟩) hk
theorem yMa {S:Ω->Prop} {L:O->Prop} (hS:∀ w',S w'->SG l p q f X sl fu st w w') {s i j ft:Nat} (hf:FA prog s i j) (hl:L1 prog ft) {u:O} (hu:[kZ p.rp,rR p.rp,sl,i64 fu,i64 st][j]?=some u) (hk:L u) :
  aD prog S (Instr.fieldAt s (pm p) i) λa=>aD prog S (Instr.loadAt ft a) L:=
 yFE hf hl (λw' hw=>by
  obtain ⟨st',r',p1,q1,h1,s1⟩:=hS w' hw;refine ⟨_,by rw [<- s1.mb];exact h1.box,?_⟩;have e1:kZ p1.rp=kZ p.rp:=by unfold kZ;rw [s1.rb]
  have e2:rR p1.rp=rR p.rp:=by unfold rR;rw [s1.tb]
  rw [e1,e2];exact hu) hk
theorem SG.blk (_:Wh l p q f r X sl fu st w) {g:Nat} {cs:List O} {e:TypeId} (hb:bD w g cs e) (hn:¬ WM p q g) (s:SG l p q f X sl fu st w w'):bD w' g cs e:=by
 obtain ⟨_,_,p1,q1,_,s1⟩:=s;exact s1.fr.blk hb hn
theorem aDb {P:Program} {S:Ω->Prop} {t x:Nat} {z:O} {by_:Nat} (h:XA P t 1) (hx:cV P x z 1 by_) {B e n:Nat} {v:O} {xs:List O} (ho:w.ownsRow B e 1 v n xs) {k:Nat} (hk:k < n) {u:O} (hu:cB u=true) {K':Ω->Prop}
  (hK:∀ w',w'.ownsRow B e 1 v n (xs.set k u)->w.grownBy w' v.ownBlock->K' w'):aD P S (Instr.indexAt t v (i64 (k:Int))) λa=>U P (Instr.storeAt x a u) w λ_ w2=>K' w2:=by
 obtain ⟨e',z',b',ht,hi⟩:=h;have ho':=ho;rcases ho.2 with ⟨_,rfl⟩|⟨g,cap,cur,rfl,hB,_⟩
 ·omega
 refine aD.ok (λw' _=>gE ht hi (by omega) (by omega)) ?_;obtain ⟨s1,s2⟩:=ho'.stored k u;have hc:=ho'.cellAt k (by omega);have hlt:k < xs.length:=by have:=ho'.1;omega
 rw [List.getElem?_eq_getElem hlt] at hc;simp only [Nat.zero_add,Nat.mul_one,Int.toNat_natCast];exact U.ok (lV hx hu hc (ho'.frozenAt _)) (hK _ s1 s2)
theorem UL (s:List Int):jC 0 s=s:=by unfold jC;simp
theorem rX {l:List Int} {a:Int} (h0:0<=a) (h:a < (l.length:Int)):∃ k:Nat,a=k/\k < l.length:=⟨a.toNat,by omega,by omega⟩
theorem aMe (h:Wh l p q f r X sl fu st w) {x:gP} (hx:BA (f.img l) (f.me l) x) (hp:kL x.op) (hnt:(bC (f.img l) (f.me l) x).length<=f.st.length) (h8:f.st.length<=8) (h32:iB f.st) (hloc:f.loc.length=(f.me l).locs.length) (hwho:f.who < l.length) (hfd:EU l r.fd) (hpc:f.pc<=1000) :
  aC prog 96 #[pm p,pf q,.agg #[i64 x.op,i64 x.a,i64 x.b]] w λrv w'=>rv=i64 ((yQ x f.pc (hY (bC (f.img l) (f.me l) x).length f.st):Nat):Int) /\
   iC l p q { f with st:=jC (bC (f.img l) (f.me l) x).length f.st++jS x f r.fd (hY (bC (f.img l) (f.me l) x).length f.st),loc:=uJ x f.loc (hY (bC (f.img l) (f.me l) x).length f.st) } { r with fd:=WC x f.who r.fd (hY (bC (f.img l) (f.me l) x).length f.st) } X sl fu st w w':=by
 have hop:=NG hx.xr;have hnm:=hx.nm;have hxr:=hx.xr;obtain ⟨op,a,b⟩:=x;obtain ⟨p1,p2,p3,p4⟩:=hp;unfold bG at p4;dsimp only at *;apply aPc
 suffices key:∀ R:O->Ω->Prop,(∀ rv w',rv=i64 ((yQ ⟨op,a,b⟩ f.pc (hY (bC (f.img l) (f.me l) ⟨op,a,b⟩).length f.st):Nat):Int) ->
   iC l p q { f with st:=jC (bC (f.img l) (f.me l) ⟨op,a,b⟩).length f.st++jS ⟨op,a,b⟩ f r.fd (hY (bC (f.img l) (f.me l) ⟨op,a,b⟩).length f.st),loc:=uJ ⟨op,a,b⟩ f.loc (hY (bC (f.img l) (f.me l) ⟨op,a,b⟩).length f.st) } { r with fd:=WC ⟨op,a,b⟩ f.who r.fd (hY (bC (f.img l) (f.me l) ⟨op,a,b⟩).length f.st) } X sl fu st w w'->R rv w') ->
   EV (pm p) (pf q) (.agg #[i64 op,i64 a,i64 b]) w R from key _ λrv w' h1 h2=>⟨h1,h2⟩
 intro R hR;unfold EV;refine tH λw1 hb x1=>?_;have hb:bD w1 w.heap.size [i64 op,i64 a,i64 b] 70:=hb;have hh:=h.ext x1;have hbl:=hb.lt
 have hbn:∀ {p1:iY} {q1:FP} {w2:Ω},Wh l p q f r X sl fu st w1->kK p q p1 q1 w1 w2->¬ WM p q w.heap.size:=λhw s hm=>by
  have:∀ i,WM p q i->i < w.heap.size:=λi hi=>by
   rcases hi with hi|hi|hi|hi
   ·exact h.sep.lt .rm i hi
   ·exact h.sep.lt .fd i hi
   ·exact h.sep.lt .mb i hi
   ·exact h.sep.lt .fr i (.inl hi)
  have:=this _ hm;omega
 refine bA hb.boxed bK aL rfl ?_
 have fin:∀ {f1:gV} {r1:Rm} {w2:Ω} {t:O},iC l p q f1 r1 X sl fu st w w2->f1.pc=f.pc->(t=i64 ((f.pc+1:Nat):Int)->iC l p q f1 r1 X sl fu st w w2->R t w2) ->
   (t=i64 ((f.pc+1:Nat):Int))->R t w2:=λg _ k e=>k e g
 have fin2:∀ {f1:gV} {r1:Rm} {w2:Ω} {R':O->Ω->Prop},iC l p q f1 r1 X sl fu st w w2->f1.pc=f.pc->R' (i64 ((f.pc+1:Nat):Int)) w2 ->
   Go.Vc.aI (pf q)/\V prog (Instr.fieldAt 114 (pf q) 2) w2 λa w1=>V prog (Instr.loadAt 3 a) w1 λb w2=>V prog (binOp .add 3 b (i64 1)) w2 λc w3=>R' c w3:=by
  intro f1 r1 w2 R' ⟨p1,q1,h1,s⟩ e hR';refine pcW h1 s.fb (by omega) ?_;rw [e];exact hR'
 clear fin;rcases hop with rfl|rfl|rfl|rfl|rfl|hbin|rfl|rfl|rfl|rfl|rfl|rfl|rfl|rfl|rfl|rfl|rfl|rfl|rfl|rfl|rfl|rfl|rfl|rfl|rfl|rfl|rfl|rfl
 case _=>
  simp only [aF,Int.reduceEq,decide_true,decide_false,aE,aA];refine bA hb.boxed aW aL rfl ?_;refine V.ok (bE underlying3 underlying21) ?_;have ha:-2147483648<=a/\a<=2147483647:=⟨hxr.2.1,hxr.2.2.1⟩;rw [show IntKind.i32.wrap a=a by simp only [IntKind.wrap_i32];omega];refine (pP hh (by omega)).mono λ_ w2 g=>?_;refine fin2 (iC.of_ext x1 g) rfl (hR _ _ rfl ?_);have e:jC 0 f.st=f.st:=UL _;show iC l p q { f with st:=jC 0 f.st++[a] } r X sl fu st w w2;rw [e];exact iC.of_ext x1 g
 case _=>
  have ha0:0<=a:=hxr.2.1;have hal:a < ((f.me l).locs.length:Int):=hnm;obtain ⟨k,rfl,hk⟩:=rX (l:=f.loc) ha0 (by omega);simp only [aF,Int.reduceEq,decide_true,decide_false,aE,aA];have D1:aG w1 w1.drew:=(aG.refl _).drew;refine aH.mk' (SG l p q f X sl fu st w1) (hh.sg D1) ⟨.inl ⟨_,rfl⟩,?_⟩;refine yFr (λ_ h=>h) eP gX (by decide) (u:=q.lv) rfl ?_;refine dT (λw' hw=>(SG.blk hh hb (hbn hh (kK.of_ext (aG.refl _))) hw).boxed) aW aL rfl ?_;refine eY bX cE (aB.of_own hh.frm.loc) (λw' hw=>?_) (by omega) (by omega) (u:=i32 (f.loc.getD k 0)) (by rw [Int.toNat_natCast];exact wT hk) ?_
  ·obtain ⟨st',r',p1,q1,h1,s1⟩:=hw;have:=aB.of_own h1.frm.loc;rw [s1.qe] at this;exact this
  refine (pP (hh.ext D1) (by omega)).mono λ_ w2 g=>?_;have g:=iC.of_ext D1 g;refine ⟨g.sg,fin2 (iC.of_ext x1 g) rfl (hR _ _ rfl ?_)⟩;have e:jC 0 f.st=f.st:=UL _;show iC l p q { f with st:=jC 0 f.st++[f.loc.getD k 0] } r X sl fu st w w2;rw [e];exact iC.of_ext x1 g
 case _=>
  have ha0:0<=a:=hxr.2.1;have hal:a < ((f.me l).locs.length:Int):=hnm;obtain ⟨k,rfl,hk⟩:=rX (l:=f.loc) ha0 (by omega);have hnt:1<=f.st.length:=hnt;simp only [aF,Int.reduceEq,decide_true,decide_false,aE,aA];have D1:aG w1 w1.drew:=(aG.refl _).drew;refine aH.mk' (SG l p q f X sl fu st w1) (hh.sg D1) ⟨.inl ⟨_,rfl⟩,?_⟩;refine yFr (λ_ h=>h) eP gX (by decide) (u:=q.lv) rfl ?_;refine dT (λw' hw=>(SG.blk hh hb (hbn hh (kK.of_ext (aG.refl _))) hw).boxed) aW aL rfl ?_;refine (ZN (hh.ext D1) (by omega) hnt).mono λrv w2 ⟨hrv,g⟩=>?_;subst hrv;have g:=iC.of_ext D1 g;refine ⟨g.sg,?_⟩;obtain ⟨p2,q2,h2,s2⟩:=g;have hlo:=h2.frm.loc;have elv:q2.lv=q.lv:=by rw [s2.qe]
  rw [elv] at hlo;refine aDb bX mC hlo hk rfl λw3 ho3 hg3=>?_;have F3:Fr (λi=>q2.lv.ownBlock=some i) w2 w3:=by rw [elv];exact Fr.of_grown hg3 λk hk=>hk
  have g3:=h2.setLoc (loc:=f.loc.set k (bI (hY 1 f.st) 0)) (by simp) (by rw [elv,List.length_set,List.map_set];exact ho3) F3;have g3:=iC.of_ext x1 (iC.after s2 g3)
  exact fin2 g3 rfl (hR _ _ rfl (by
   show iC l p q { f with st:=jC 1 f.st++[],loc:=f.loc.set k (bI (hY 1 f.st) 0) } r X sl fu st w w3;rw [List.append_nil];exact g3))
 case _=>
  have hnt:1<=f.st.length:=hnt;simp only [aF,Int.reduceEq,decide_true,decide_false,aE,aA];refine (ZN hh (by omega) hnt).mono λrv w2 ⟨hrv,g⟩=>?_;have g:=iC.of_ext x1 g
  exact fin2 g rfl (hR _ _ rfl (by
   show iC l p q { f with st:=jC 1 f.st++[] } r X sl fu st w w2;rw [List.append_nil];exact g))
 case _=>
  have hnt:1<=f.st.length:=hnt;simp only [aF,Int.reduceEq,decide_true,decide_false,aE,aA];refine (ZN hh (by omega) hnt).mono λrv w2 ⟨hrv,p2,q2,h2,s2⟩=>?_;subst hrv;have hl2:(jC 1 f.st).length<=8:=by rw [lU];omega
  rw [<- s2.pf];refine (pP h2 (by show (jC 1 f.st).length<=_;omega)).mono λ_ w3 g3=>?_;obtain ⟨p3,q3,h3,s3⟩:=iC.after s2 g3;rw [s2.pf,<- s3.pf];refine (pP h3 (by show (jC 1 f.st++[_]).length<=_;rw [List.length_append];simp;omega)).mono λ_ w4 g4=>?_;have g4:=iC.of_ext x1 (iC.after s3 g4);rw [s3.pf]
  exact fin2 g4 rfl (hR _ _ rfl (by
   show iC l p q { f with st:=jC 1 f.st++[bI (hY 1 f.st) 0,bI (hY 1 f.st) 0] } r X sl fu st w w4;simpa [List.append_assoc] using g4))
 case _=>
  have hb':=hbin;unfold jB at hbin;simp only [aF,show ¬ op=23 by omega,show ¬ op=24 by omega,show ¬ op=1 by omega,show ¬ op=2 by omega,show ¬ op=3 by omega,show ¬ op=4 by omega,show ¬ op=5 by omega,show ¬ op=25 by omega,show ¬ op=35 by omega,show ¬ op=33 by omega,show ¬ op=34 by omega,decide_false,aA]
  have ea:bC (f.img l) (f.me l) ⟨op,a,b⟩=[-2,-2]:=by
   simp only [bC];rw [if_neg (by omega),if_neg (by omega),if_neg (by omega),if_neg (by omega),if_pos hb']
  have eN:vG op=2:=by unfold vG;rw [if_neg (by omega),if_neg (by omega)]
  rw [ea] at hnt hR;have hnt:2<=f.st.length:=hnt;refine bA hb.boxed bK aL rfl ?_;refine (ZO (.inl hb') hh (by omega) (by rw [eN];exact hnt) h32).mono λrv w2 ⟨hrv,p2,q2,h2,s2⟩=>?_;subst hrv;rw [eN] at h2;have hl2:(jC 2 f.st).length<=8:=by rw [lU];omega
  rw [<- s2.pf,eN];refine (pP h2 (by show (jC 2 f.st).length<=_;omega)).mono λ_ w3 g3=>?_;have g3:=iC.of_ext x1 (iC.after s2 g3);rw [s2.pf]
  have e1:jS ⟨op,a,b⟩ f r.fd (hY 2 f.st)=[HG op (hY 2 f.st)]:=by
   have:HG op (hY 2 f.st)=oI op (bI (hY 2 f.st) 0) (bI (hY 2 f.st) 1):=by unfold HG;rw [if_neg (by omega),if_neg (by omega)]
   rw [this];simp only [jS]
   repeat rw [if_neg (by omega)]
  have e2:yQ ⟨op,a,b⟩ f.pc (hY 2 f.st)=f.pc+1:=by simp only [yQ];rw [if_neg (by omega),if_neg (by omega)]
  have e3:uJ ⟨op,a,b⟩ f.loc (hY 2 f.st)=f.loc:=by simp only [uJ];rw [if_neg (by omega)]
  have e4:WC ⟨op,a,b⟩ f.who r.fd (hY 2 f.st)=r.fd:=by simp only [WC];rw [if_neg (by omega)]
  refine fin2 g3 rfl (hR _ _ ?_ ?_)
  ·rw [show ([-2,-2]:List Int).length=2 from rfl,e2]
  ·rw [show ([-2,-2]:List Int).length=2 from rfl,e1,e3,e4];exact g3
 case _=>
  have hnt:1<=f.st.length:=hnt;simp only [aF,Int.reduceEq,decide_false,aA];refine bA hb.boxed bK aL rfl ?_;refine (ZO (op:=15) (.inr (.inl rfl)) hh (by omega) hnt h32).mono λrv w2 ⟨hrv,p2,q2,h2,s2⟩=>?_;subst hrv;have hl2:(jC 1 f.st).length<=8:=by rw [lU];omega
  rw [<- s2.pf];refine (pP h2 (by show (jC 1 f.st).length<=_;omega)).mono λ_ w3 g3=>?_;have g3:=iC.of_ext x1 (iC.after s2 g3);rw [s2.pf];exact fin2 g3 rfl (hR _ _ rfl g3)
 case _=>
  have hnt:1<=f.st.length:=hnt;simp only [aF,Int.reduceEq,decide_false,aA];refine bA hb.boxed bK aL rfl ?_;refine (ZO (op:=16) (.inr (.inr (.inl rfl))) hh (by omega) hnt h32).mono λrv w2 ⟨hrv,p2,q2,h2,s2⟩=>?_;subst hrv;have hl2:(jC 1 f.st).length<=8:=by rw [lU];omega
  rw [<- s2.pf];refine (pP h2 (by show (jC 1 f.st).length<=_;omega)).mono λ_ w3 g3=>?_;have g3:=iC.of_ext x1 (iC.after s2 g3);rw [s2.pf];exact fin2 g3 rfl (hR _ _ rfl g3)
 case _=>omega
 case _=>omega
 case _=>
  have hnt:3<=f.st.length:=hnt;simp only [aF,Int.reduceEq,decide_false,aA];refine bA hb.boxed bK aL rfl ?_;refine (ZO (op:=22) (.inr (.inr (.inr (.inr rfl)))) hh (by omega) hnt h32).mono λrv w2 ⟨hrv,p2,q2,h2,s2⟩=>?_;subst hrv;have hl2:(jC 3 f.st).length<=8:=by rw [lU];omega
  rw [<- s2.pf];refine (pP h2 (by show (jC 3 f.st).length<=_;omega)).mono λ_ w3 g3=>?_;have g3:=iC.of_ext x1 (iC.after s2 g3);rw [s2.pf];exact fin2 g3 rfl (hR _ _ rfl g3)
 case _=>
  have ha0:0<=a:=hxr.2.1;simp only [aF,Int.reduceEq,decide_true,decide_false,aE,aA];refine bA hb.boxed aW aL rfl (hR _ _ ?_ ?_)
  ·have e:yQ ⟨23,a,b⟩ f.pc (hY 0 f.st)=a.toNat:=rfl;have:i64 a=i64 ((a.toNat:Nat):Int):=by congr 1;omega
   rw [this];rfl
  ·show iC l p q { f with st:=jC 0 f.st++[] } r X sl fu st w w1;rw [UL,List.append_nil];exact iC.of_ext x1 hh.go
 case _=>
  have ha0:0<=a:=hxr.2.1;have hnt:1<=f.st.length:=hnt;simp only [aF,Int.reduceEq,decide_true,decide_false,aE,aA];refine (ZN hh (by omega) hnt).mono λrv w2 ⟨hrv,p2,q2,h2,s2⟩=>?_;subst hrv;have g:=iC.of_ext x1 (⟨p2,q2,h2,s2⟩:iC l p q { f with st:=jC 1 f.st } r X sl fu st w1 w2);have hg:iC l p q { f with st:=jC 1 f.st++[] } r X sl fu st w w2:=by rw [List.append_nil];exact g
  have hb2:=s2.fr.blk hb (hbn hh s2);refine aS.2 (aK (λhne=>?_) λheq=>?_)
  ·refine bA hb2.boxed aW aL rfl (hR _ _ ?_ hg)
   have e:yQ ⟨24,a,b⟩ f.pc (hY 1 f.st)=a.toNat:=by
    simp only [yQ];rw [if_neg (by decide),if_pos trivial,if_neg hne]
   show i64 a=i64 ((yQ ⟨24,a,b⟩ f.pc (hY 1 f.st):Nat):Int);rw [e];congr 1;omega
  ·refine fin2 g rfl (hR _ _ ?_ hg)
   have e:yQ ⟨24,a,b⟩ f.pc (hY 1 f.st)=f.pc+1:=by
    simp only [yQ];rw [if_neg (by decide),if_pos trivial,if_pos (Classical.not_not.1 heq)]
   show i64 ((f.pc+1:Nat):Int)=i64 ((yQ ⟨24,a,b⟩ f.pc (hY 1 f.st):Nat):Int);rw [e]
 case _=>
  simp only [aF,Int.reduceEq,decide_true,decide_false,aE,aA];refine (pP hh (by omega)).mono λ_ w2 g=>?_;refine fin2 (iC.of_ext x1 g) rfl (hR _ _ rfl ?_);have e:jC 0 f.st=f.st:=UL _;show iC l p q { f with st:=jC 0 f.st++[0] } r X sl fu st w w2;rw [e];exact iC.of_ext x1 g
 case _=>
  have hnt:1<=f.st.length:=hnt;simp only [aF,Int.reduceEq,decide_false,aA];refine bA hb.boxed bK aL rfl ?_;refine (ZO (op:=26) (.inr (.inr (.inr (.inl rfl)))) hh (by omega) hnt h32).mono λrv w2 ⟨hrv,p2,q2,h2,s2⟩=>?_;subst hrv;have hl2:(jC 1 f.st).length<=8:=by rw [lU];omega
  rw [<- s2.pf];refine (pP h2 (by show (jC 1 f.st).length<=_;omega)).mono λ_ w3 g3=>?_;have g3:=iC.of_ext x1 (iC.after s2 g3);rw [s2.pf];exact fin2 g3 rfl (hR _ _ rfl g3)
 case _=>omega
 case _=>omega
 case _=>omega
 case _=>omega
 case _=>omega
 case _=>omega
 case _=>
  have ha0:0<=a:=hxr.2.1;have hal:a < ((f.img l).fields.length:Int):=hnm;have hrow:=hfd.row _ hwho;have hrl:(r.fd.getD f.who []).length=(f.img l).fields.length:=hrow.1;obtain ⟨k,rfl,hk⟩:=rX (l:=r.fd.getD f.who []) ha0 (by omega);simp only [aF,Int.reduceEq,decide_true,decide_false,aE,aA];have D1:aG w1 w1.drew:=(aG.refl _).drew;refine aH.mk' (SG l p q f X sl fu st w1) (hh.sg D1) ⟨.inl ⟨_,rfl⟩,?_⟩;refine yMa (λ_ h=>h) cZ gI (u:=kZ p.rp) rfl ⟨.inl ⟨_,rfl⟩,?_⟩;refine yFr (λ_ h=>h) cS aL (by decide) (u:=i64 (f.who:Int)) rfl ?_;refine dT (λw' hw=>(SG.blk hh hb (hbn hh (kK.of_ext (aG.refl _))) hw).boxed) aW aL rfl ?_;have hD:=hh.ext D1;refine (zL hD.room.room hD.fld (by have:=hfd.len;omega) hk).mono λrv w2 ⟨hrv,hw⟩=>?_;subst hrv;have hw:=hw.symm;subst hw;refine ⟨hh.sg D1,aD.ok (λw' _=>iQ) (aD.ok (λw' _=>iP) ?_)⟩;refine (pP hD (by omega)).mono λ_ w2 g=>?_;have g:=iC.of_ext D1 g;refine fin2 (iC.of_ext x1 g) rfl (hR _ _ rfl ?_);have e:jC 0 f.st=f.st:=UL _;show iC l p q { f with st:=jC 0 f.st++[(r.fd.getD f.who []).getD k 0] } r X sl fu st w w2;rw [e];exact iC.of_ext x1 g
 case _=>
  have ha0:0<=a:=hxr.2.1;have hal:a < ((f.img l).fields.length:Int):=hnm;have hrow:=hfd.row _ hwho;have hrl:(r.fd.getD f.who []).length=(f.img l).fields.length:=hrow.1;obtain ⟨k,rfl,hk⟩:=rX (l:=r.fd.getD f.who []) ha0 (by omega);have hnt:1<=f.st.length:=hnt;simp only [aF,Int.reduceEq,decide_true,decide_false,aE,aA];have D1:aG w1 w1.drew:=(aG.refl _).drew;refine aH.mk' (SG l p q f X sl fu st w1) (hh.sg D1) ⟨.inl ⟨_,rfl⟩,?_⟩;refine yMa (λ_ h=>h) cZ gI (u:=kZ p.rp) rfl ⟨.inl ⟨_,rfl⟩,?_⟩;refine yFr (λ_ h=>h) cS aL (by decide) (u:=i64 (f.who:Int)) rfl ?_;refine dT (λw' hw=>(SG.blk hh hb (hbn hh (kK.of_ext (aG.refl _))) hw).boxed) aW aL rfl ?_;refine (ZN (hh.ext D1) (by omega) hnt).mono λrv w2 ⟨hrv,g⟩=>?_;subst hrv;have g:=iC.of_ext D1 g;refine ⟨g.sg,?_⟩;obtain ⟨p2,q2,h2,s2⟩:=g;have erm:kZ p.rp=.pointer (some ⟨p2.rp.rb,0,none⟩):=by unfold kZ;rw [s2.rb]
  rw [erm];refine (GQ h2.room.room h2.fld (by have:=hfd.len;show f.who < r.fd.length;omega) hk).mono λrv w3 ⟨hrv,hf3,F3⟩=>?_;have g3:=iC.after s2 (h2.fieldS hf3 F3);refine ⟨g3.sg,fin2 (iC.of_ext x1 g3) rfl (hR _ _ rfl ?_)⟩;show iC l p q { f with st:=jC 1 f.st++[] } { r with fd:=r.fd.set f.who ((r.fd.getD f.who []).set k (bI (hY 1 f.st) 0)) } X sl fu st w w3;rw [List.append_nil];exact iC.of_ext x1 g3
 case _=>
  simp only [aF,Int.reduceEq,decide_true,decide_false,aE,aA];refine bA hb.boxed aW aL rfl ?_;refine V.ok (bE underlying3 underlying21) ?_;have ha:1<=a/\a<=2:=⟨hxr.2.1,hxr.2.2.1⟩;rw [show IntKind.i32.wrap a=a by simp only [IntKind.wrap_i32];omega];refine (pP hh (by omega)).mono λ_ w2 g=>?_;refine fin2 (iC.of_ext x1 g) rfl (hR _ _ rfl ?_);have e:jC 0 f.st=f.st:=UL _;show iC l p q { f with st:=jC 0 f.st++[a] } r X sl fu st w w2;rw [e];exact iC.of_ext x1 g
 case _=>omega
 case _=>omega
 case _=>omega
 case _=>omega
end
def oM (op:Int):Nat:=if op=27\/op=28 then 1 else if op=17\/op=18\/op=29 then 2 else if op=30\/op=36 then 3 else 5
theorem qT {op:Int} (h:bG op):op=17\/op=18\/op=27\/op=28\/op=29\/op=30\/op=31\/op=32\/op=36:=by unfold bG at h;omega
theorem uW {i:bF} {m:gU} {x:gP} (h:bG x.op):(bC i m x).length=oM x.op:=by
 obtain ⟨op,a,b⟩:=x;have h:=qT h;dsimp only at h;rcases h with rfl|rfl|rfl|rfl|rfl|rfl|rfl|rfl|rfl<;>rfl
theorem wN {x:gP} (hr:x.right) (h:bG x.op) (who:Int) {t:List Int} (ht:t.length=oM x.op) (h32:iB t):tV x.op who x.a x.b (oM x.op) t λs=>dK s who x t:=by
 obtain ⟨op,a,b⟩:=x;have h:=qT h;dsimp only at *;rcases h with rfl|rfl|rfl|rfl|rfl|rfl|rfl|rfl|rfl
 ·match t,ht with
  | [x0,x1],_=>exact aFp h32
 ·match t,ht with
  | [x0,x1],_=>exact aFo h32
 ·match t,ht with
  | [x0],_=>
   have h1:3<=a:=hr.2.1;have h2:a<=4:=hr.2.2.1;have h3:(0<=b/\b<=2)\/(4<=b/\b<=6):=hr.2.2.2;exact aFn h32 (by omega) (by omega)
 ·match t,ht with
  | [x0],_=>exact aFm h32
 ·match t,ht with
  | [x0,x1],_=>exact aFl h32
 ·match t,ht with
  | [x0,x1,x2],_=>exact aFk h32
 ·match t,ht with
  | [x0,x1,x2,x3,x4],_=>exact aFj h32
 ·match t,ht with
  | [x0,x1,x2,x3,x4],_=>exact aFi h32
 ·match t,ht with
  | [x0,x1,x2],_=>exact aFh h32
theorem UQ {op:Int} (h:bG op) {w:Ω}:aC prog 94 #[i64 op] w λr w'=>r=i64 (oM op:Int)/\w'=w:=by
 rcases qT h with rfl|rfl|rfl|rfl|rfl|rfl|rfl|rfl|rfl
 ·exact PR
 ·exact PQ
 ·exact PP
 ·exact PO
 ·exact PN
 ·exact PL
 ·exact PK
 ·exact PJ
 ·exact PI
theorem MO {op:Int} (h:bG op) {w:Ω}:aC prog 67 #[i64 op] w λr w'=>r=i64 (oM op:Int)/\w'=w:=by
 rcases qT h with rfl|rfl|rfl|rfl|rfl|rfl|rfl|rfl|rfl
 ·exact QG
 ·exact QF
 ·exact QE
 ·exact QD
 ·exact QC
 ·exact QA
 ·exact PZ
 ·exact PY
 ·exact PX
section
variable {l:List bF} {p p1:iY} {q q1:FP} {f f1:gV} {r:Rm} {X:Nat->Prop} {sl:O} {fu st:Int} {w w1 w':Ω}
theorem Wh.wm_lt (h:Wh l p q f r X sl fu st w):∀ i,WM p q i->i < w.heap.size:=λi hi=>by
 rcases hi with hi|hi|hi|hi
 ·exact h.sep.lt .rm i hi
 ·exact h.sep.lt .fd i hi
 ·exact h.sep.lt .mb i hi
 ·exact h.sep.lt .fr i (.inl hi)
theorem aLh (h:Wh l p q f r X sl fu st w) {x:gP} (hx:x.right) (hs:bG x.op) (hnt:oM x.op<=f.st.length) (h8:f.st.length<=8) (h32:iB f.st) (hpc:f.pc<=1000) (htr:r.ps.tr.length<=99000) {S:DL} (hS:S=dK r.ps f.who x (hY (oM x.op) f.st)) :
  aC prog 95 #[pm p,pf q,.agg #[i64 x.op,i64 x.a,i64 x.b],i64 (oM x.op:Int)] w λrv w'=>rv=i64 S.2.1 /\
   (S.2.1=36864->iC l p q { f with st:=jC (oM x.op) f.st++(if iR x.op then [] else [S.1]),pc:=f.pc+1 } { r with ps:=S.2.2 } X sl fu st w w') /\
   (S.2.1≠36864->iC l p q { f with st:=jC (oM x.op) f.st } { r with ps:=S.2.2 } X sl fu st w w'):=by
 apply aPd
 suffices key:∀ R:O->Ω->Prop,(∀ w',S.2.1=36864->iC l p q { f with st:=jC (oM x.op) f.st++(if iR x.op then [] else [S.1]),pc:=f.pc+1 } { r with ps:=S.2.2 } X sl fu st w w'->R (i64 36864) w')->(∀ w',S.2.1≠36864->iC l p q { f with st:=jC (oM x.op) f.st } { r with ps:=S.2.2 } X sl fu st w w'->R (i64 S.2.1) w') ->
   EW (pm p) (pf q) (.agg #[i64 x.op,i64 x.a,i64 x.b]) (i64 (oM x.op:Int)) w R from key _ (λw' h1 h2=>⟨by rw [h1],λ_=>h2,λhn=>absurd h1 hn⟩) λw' h1 h2=>⟨rfl,λhn=>absurd hn h1,λ_=>h2⟩
 intro R hR1 hR2;unfold EW;refine tH λw1 hb x1=>?_;have hb:bD w1 w.heap.size [i64 x.op,i64 x.a,i64 x.b] 70:=hb;have hh:=h.ext x1;have hbn:¬ WM p q w.heap.size:=λhm=>by have:=h.wm_lt _ hm;omega
 have D1:aG w1 w1.drew:=(aG.refl _).drew;have hG:=λ(w':Ω) (hw:SG l p q f X sl fu st w1 w')=>SG.blk hh hb hbn hw;refine aH.mk' (SG l p q f X sl fu st w1) (hh.sg D1) ⟨.inl ⟨_,rfl⟩,?_⟩;refine yMa (λ_ h=>h) cZ gI (u:=kZ p.rp) rfl ⟨.inl ⟨_,rfl⟩,?_⟩;refine yMa (λ_ h=>h) eB sH (u:=rR p.rp) rfl ⟨.inl ⟨_,rfl⟩,?_⟩;refine yFr (λ_ h=>h) cS aL (by decide) (u:=i64 (f.who:Int)) rfl ?_;refine dT (λw' hw=>(hG w' hw).boxed) bK aL rfl ?_;refine dT (λw' hw=>(hG w' hw).boxed) aW aL rfl ?_;refine dT (λw' hw=>(hG w' hw).boxed) oR aL rfl ?_;refine (aMc (hh.ext D1) (by omega) hnt).mono λrv w2 ⟨ho,g⟩=>?_;have g:=iC.of_ext D1 g;refine ⟨g.sg,?_⟩;obtain ⟨p2,q2,h2,s2⟩:=g;have ht:=(xH h32 (oM x.op)).1;have htl:(hY (oM x.op) f.st).length=oM x.op:=oL hnt;have hA:=wN hx hs f.who htl ht;have erm:kZ p.rp=kZ p2.rp:=by unfold kZ;rw [s2.rb]
 have etb:rR p.rp=rR p2.rp:=by unfold rR;rw [s2.tb]
 rw [erm,etb];refine (hA.prg h2.room (by have:=h2.rps;have e:p2.rp.tr=r.ps.tr:=congrArg PS.tr this;rw [e];exact htr) (aB.of_own ho)).mono λrv w3 ⟨rp3,hrv,hps,ht3,st3⟩=>?_;subst hrv;rw [h2.rps,<- hS] at hps ⊢;have g3:=iC.after s2 (h2.roomS (r':={ r with ps:=S.2.2 }) ht3 st3 hps rfl);refine ⟨g3.sg,aD.ok (λw' _=>iQ) (aD.ok (λw' _=>iP) ?_)⟩;refine aS.2 (aK (λhne=>hR2 _ hne (iC.of_ext x1 g3)) λheq=>?_);have heq:S.2.1=36864:=Classical.not_not.1 heq;have hb3:=hG _ g3.sg;obtain ⟨p3,q3,h3,s3⟩:=g3;refine ⟨λw'=>iC l p q { f with st:=jC (oM x.op) f.st++(if iR x.op then [] else [S.1]) } { r with ps:=S.2.2 } X sl fu st w1 w',?_,?_⟩
 ·refine bA hb3.boxed bK aL rfl ?_;refine ⟨λv w'=>v=.bool (decide (iR x.op))/\w'=w3,?_,?_⟩
  ·refine aF.2 (aK (λh30=>⟨by rw [decide_eq_true h30,decide_eq_true (.inl h30)],rfl⟩) λn30=>?_);refine aF.2 (aK (λh31=>⟨by rw [decide_eq_true h31,decide_eq_true (.inr (.inl h31))],rfl⟩) λn31=>?_);refine aF.2 ⟨?_,rfl⟩
   congr 1
   have:iR x.op↔x.op=36:=by unfold iR;omega
   simp [this]
  rintro _ w4 ⟨rfl,hw⟩ _;have hw:=hw.symm;subst hw;refine aK (λh0=>?_) λh0=>?_
  ·rw [if_pos h0,List.append_nil];exact ⟨p3,q3,h3,s3⟩
  ·rw [if_neg h0,<- s3.pf];have hul:(jC (oM x.op) f.st).length<=8:=by rw [lU];omega
   exact (pP h3 (by show (jC (oM x.op) f.st).length<=_;omega)).mono λ_ w4 g4=>iC.after s3 g4
 rintro w4 ⟨p4,q4,h4,s4⟩ _;have e:pf q=.pointer (some ⟨q4.fb,0,none⟩):=by unfold pf;rw [s4.fb]
 rw [e];refine ⟨.inl ⟨_,rfl⟩,gC cI aL h4.frm.box rfl (bW.2 ?_)⟩;rw [show IntKind.i64.wrap (((f.pc:Nat):Int)+1)=((f.pc+1:Nat):Int) from by rw [aX (by omega)];omega];refine ⟨.inl ⟨_,rfl⟩,?_⟩;refine OD cI ?_;refine kM fK h4.frm.box (show 2 < 9 by decide) rfl ?_;have g5:=h4.setPc (f.pc+1);exact hR1 _ heq (iC.of_ext x1 (iC.after s4 g5))
end
section
variable {l:List bF} {p p1:iY} {q q1:FP} {f f1:gV} {r:Rm} {X:Nat->Prop} {sl:O} {fu st:Int} {w w1 w':Ω}
theorem Wh.trl (h:Wh l p q f r X sl fu st w):p.rp.tr=r.ps.tr:=congrArg PS.tr h.rps
theorem aTr (h:Wh l p q f r X sl fu st w) (htr:r.ps.tr.length<=100000) {e:tL}:aC prog 52 #[rR p.rp,i64 e.what,i64 e.a,i64 e.b,i64 e.c] w λ_ w'=>iC l p q f (r.ev e) X sl fu st w w':=by
 refine (SC h.room (by rw [h.trl];exact htr) (e:=e)).mono λ_ w2 ⟨tv',h2,s2,f2,_⟩=>?_;refine h.roomS h2 s2 ?_ rfl;show (⟨p.rp.size,p.rp.ar.map pa,p.rp.tp,p.rp.ts,p.rp.tr++[e]⟩:PS)=r.ps.ev [e];rw [<- h.rps];rfl
theorem aNo (h:Wh l p q f r X sl fu st w) (htr:r.ps.tr.length<=100000) {s:Int}:aC prog 51 #[pm p,i64 s] w λ_ w'=>iC l p q f (r.ends s) X sl fu s w w':=by
 apply aQg;unfold TG;refine ⟨.inl ⟨_,rfl⟩,?_⟩;refine OD eQ ?_;refine kM fK h.box (show 4 < 5 by decide) rfl ?_;obtain ⟨p2,q2,h2,s2⟩:=h.cell (j:=4) (u:=i64 s) (sl':=sl) (fu':=fu) (st':=s) (by decide) rfl;refine ⟨.inl ⟨_,rfl⟩,?_⟩;have e:pm p=.pointer (some ⟨p2.mb,0,none⟩):=by unfold pm;rw [s2.mb]
 rw [e];refine gC eB sH h2.box rfl ?_;exact (aTr h2 htr (e:=⟨5,s,0,0⟩)).mono λ_ w3 g=>iC.after s2 g
end
theorem aTa {P:Program} {w:Ω} {K:O->Ω->Prop} {t x sz B e n:Nat} {v:O} {xs l:List O} {i:Nat} (h:XA P t sz) (ht:∃ d z by_,P.underlying x=some d/\oC d=true/\cV P x z sz by_) (ho:w.ownsRow B e sz v n xs) (hi:i < n) (hl:(xs.drop (i*sz)).take sz=l) (hlen:l.length=sz) (hk:K (.agg l.toArray) w) :
  V P (Instr.indexAt t v (i64 (i:Int))) w λp w1=>V P (Instr.loadAt x p) w1 K:=
 aMn h ht (aB.of_own ho) (by omega) (by omega) (by simpa using hl) hlen hk
theorem aBh {w:Ω} {a b:Int} {r:Int} {p1 p2 p3 p4:Option Addr} {n1 n2 n3 n4 c1 c2 c3 c4:Nat} :
  (Instr.build 114 #[(0,i64 a),(1,i64 b),(3,.agg #[.slice p1 n1 c1,i64 r,.slice p2 n2 c2,.slice p3 n3 c3]),(4,.slice p4 n4 c4)]).run prog w=.ok (.agg #[i64 a,i64 b,i64 0,.slice p1 n1 c1,i64 r,.slice p2 n2 c2,.slice p3 n3 c3,.slice p4 n4 c4,.slice none 0 0]) w:=by kernel_rfl
theorem aAz {l:List bF} (hT:nK l) {rb mb:Nat} {hv iv fv pub sec tbv sl:O} {fu st:Int} {w:Ω} {n:Nat} {ptrs:List O} (hr:kV w rb 0 [hv,iv,fv,pub,sec]) (hi:hU w iv l) (hb:kV w mb 0 [.pointer (some ⟨rb,0,none⟩),tbv,sl,i64 fu,i64 st]) (hsl:w.ownsRow 0 111 1 sl n ptrs) (hn:n<=100) (hsm:sl.ownBlock≠some mb)
  {to mth:Nat} (h1:to < l.length) (h2:mth < (aP l to).methods.length) {pv:O} {t:List Int} (hp:aB w pv 1 t.length (t.map i32)) (ht:t.length=((aP l to).meth mth).params.length) :
  aC prog 47 #[.pointer (some ⟨mb,0,none⟩),i64 (to:Int),i64 (mth:Int),pv] w λ_ w'=>∃ sl' qn,qN w' qn ((aP l to).meth mth) (jI l to mth t)/\(∀ i,rI qn i->w.heap.size<=i) /\
   kV w' mb 0 [.pointer (some ⟨rb,0,none⟩),tbv,sl',i64 fu,i64 st]/\w'.ownsRow 0 111 1 sl' (n+1) (ptrs++[pf qn])/\(∀ i,sl'.ownBlock=some i->sl.ownBlock=some i\/(w.heap.size<=i/\¬ rI qn i))/\Fr (λi=>i=mb\/sl.ownBlock=some i) w w':=by
 have hTt:=hT _ (fJ h1);have hmm:=meth_mem h2;have hMr:=hTt.1.2.2.1.2.1 _ hmm
 have hmth:(aP l to).methods[mth]?=some ((aP l to).meth (mth:Int)):=by
  unfold bF.meth;rw [Int.toNat_natCast,List.getD_eq_getElem?_getD,List.getElem?_eq_getElem h2];rfl
 have enew:jI l to mth t=⟨to,mth,0,t++List.replicate ((aP l to).meth mth).locals.length 0,[]⟩:=rfl;rw [enew];generalize hM:(aP l to).meth (mth:Int)=M at *;obtain ⟨⟨_,hp4⟩,_,⟨_,hl10⟩,⟨_,hc120⟩,_⟩:=hMr;apply aQi;unfold TI;refine ⟨.inl ⟨_,rfl⟩,?_⟩;refine gC cZ gI hb rfl ?_;refine (zF hr hi hT h1).mono λrv w2 ⟨p2,hrv,hO,x2⟩=>?_;subst hrv;refine cL.2 (cK.2 ?_);refine xL PW rfl hO.one λw3 hb3 x3=>?_;have hb3:bD w3 w2.heap.size (p2.cells (aP l to)) 46:=hb3;refine bA hb3.boxed bN gR rfl ?_;obtain ⟨cm,hcm,hrm⟩:=hO.mt;obtain ⟨mpv,mlv,mcv,hrow,op,ol,oc⟩:=hrm mth M hmth;have x23:=x3;refine aTa (B:=w.heap.size) iJ oK (x3.own hcm) h2 hrow rfl ?_;obtain ⟨a1,c1,e1⟩:=(aB.of_own op).shape;obtain ⟨a2,c2,e2⟩:=(aB.of_own ol).shape;obtain ⟨a3,c3,e3⟩:=(aB.of_own oc).shape;refine xL BK rfl (by rw [e1,e2,e3];rfl) λw4 hb4 x4=>?_;have hb4:bD w4 w3.heap.size [mpv,i64 M.result,mlv,mcv] 74:=hb4;have x24:=x3.trans x4;have x04:=x2.trans x24;have D4:aG w4 w4.drew:=(aG.refl _).drew;refine aH.mk' (λw'=>aG w4 w') D4 ?_;refine yA (λw' hw=>(hb4.ext hw).boxed) oK rfl ?_;refine dT (λw' hw=>(hb4.ext hw).boxed) fB aZ rfl ?_;rw [e1];refine aD.ok (λw' _=>jR underlying42) ?_;rw [<- e1];refine dT (λw' hw=>(hb4.ext hw).boxed) oQ aZ rfl ?_;rw [e2];refine aD.ok (λw' _=>jR underlying42) ?_
 refine aD.ok (λw' _=>nW) ?_;have eN:IntKind.i64.wrap (((M.params.length:Nat):Int)+((M.locals.length:Nat):Int))=((M.params.length+M.locals.length:Nat):Int):=by rw [aX (by omega)];omega
 rw [eN];refine HI (n:=M.params.length+M.locals.length) rfl underlying37 mC rfl (by omega) (by omega) λw5 hb5 x5 hs5=>?_;have x45:=D4.trans x5;refine ⟨x45,?_⟩;rw [e1,e3];refine aD.ok (λw' _=>aBh) ?_;have s2:=x2.size;have s3:=x3.size;have s4:=x4.size;have sD:=D4.size;have s5:=x5.size;have l3:=hb3.lt;have l4:=hb4.lt;have l5:=hb5.lt;refine tH λw6 hb6 x6=>?_;have hb6:bD w6 w5.heap.size [i64 (to:Int),i64 (mth:Int),i64 0,.slice a1 M.params.length c1,i64 M.result,.slice a2 M.locals.length c2,.slice a3 M.code.length c3,.slice (some ⟨w4.drew.heap.size,0,none⟩) (M.params.length+M.locals.length) (M.params.length+M.locals.length),.slice none 0 0] 114:=hb6;refine ⟨x45.trans x6,.inl ⟨_,rfl⟩,?_⟩;refine bA hb6.boxed eP gX rfl ?_;have hb56:=hb5.ext x6;have x46:=x45.trans x6;have x06:=x04.trans x46;have l6:=hb6.lt;obtain ⟨pa1,pc1,hpe⟩:=hp.shape;have hp6:=hp.ext x06;rw [hpe] at hp6 ⊢;refine cpB uQ hb56 (by simp) (by simp) (λ_=>hp6) (List.all_eq_true.2 λv hv=>by obtain ⟨x,_,rfl⟩:=List.mem_map.1 hv;rfl) λv7 w7 hb7 f7=>?_
 have eL:(t.map i32).take (min t.length (M.params.length+M.locals.length))++(List.replicate (M.params.length+M.locals.length) (i32 0)).drop (min t.length (M.params.length+M.locals.length))=(t++List.replicate M.locals.length 0).map i32:=by
  have hm:min t.length (M.params.length+M.locals.length)=t.length:=by omega
  rw [hm,List.take_of_length_le (by simp),List.drop_replicate,List.map_append,List.map_replicate,show M.params.length+M.locals.length - t.length=M.locals.length by omega]
 have hb7:bD w7 w4.drew.heap.size ((t++List.replicate M.locals.length 0).map i32) 21:=by rw [<- eL];exact hb7
 have hml:=hb.lt;have hbM:=f7.seg (hb.ext x06) (by show ¬ mb=_;omega);have hb67:=f7.blk hb6 (by show ¬ w5.heap.size=_;omega);have s6:=x6.size;have s7:=f7.size;have hsl7:=f7.own (x06.own hsl) λi hi he=>by have:=(hsl.lt i hi).2;omega
 refine ⟨.inl ⟨_,rfl⟩,?_⟩;refine gC cA gJ hbM rfl ?_;refine mF XL [.pointer (some ⟨w5.heap.size,0,none⟩)] rfl rfl (by simp) rfl λv8 w8 ho8 x8=>?_;refine apL XL (x8.own hsl7) ho8 (by decide) (by rfl) (by omega) (by unfold maxLen;omega) (Nat.zero_le _) λg' cap' w9 ho9 hg9 hlies=>?_;have f9:Fr (λi=>sl.ownBlock=some i) w8 w9:=Fr.of_grown hg9 λk hk=>hk;have s8:=x8.size;have s9:=f9.size;have hbM9:=f9.seg (hbM.ext x8) λhs=>hsm hs;refine ⟨.inl ⟨_,rfl⟩,?_⟩;refine OD cA ?_;refine kM NR hbM9 (show 2 < 5 by decide) rfl ?_;have f10:Fr (λi=>i=mb) w9 (w9.setCell ⟨mb,0+2,none⟩ (.slice (some ⟨g',0,none⟩) (n+1) cap')):=Fr.of_set rfl;have hbM10:=hbM9.set (j:=2) (by simp) (.slice (some ⟨g',0,none⟩) (n+1) cap');have hsll:∀ i,sl.ownBlock=some i->i < w.heap.size:=λi hi=>(hsl.lt i hi).2
 have F79:∀ {g:Nat} {cs:List O} {e:TypeId},bD w7 g cs e->w.heap.size<=g->bD (w9.setCell ⟨mb,0+2,none⟩ (.slice (some ⟨g',0,none⟩) (n+1) cap')) g cs e:=λ{g cs e} hbb hg=>
  f10.blk (f9.blk (hbb.ext x8) λhe=>by have:=hsll _ he;omega) (by omega)
 have O79:∀ {B e sz n':Nat} {v:O} {xs:List O},w7.ownsRow B e sz v n' xs->w.heap.size<=B->(w9.setCell ⟨mb,0+2,none⟩ (.slice (some ⟨g',0,none⟩) (n+1) cap')).ownsRow B e sz v n' xs:=λ{B e sz n' v xs} hbb hg=>
  f10.own (f9.own (x8.own hbb) λi hi he=>by have:=hsll _ he;have:=(hbb.lt i hi).1;omega) λi hi he=>by have:=(hbb.lt i hi).1;omega
 have oc7:=f7.own (x46.own (x4.own (x3.own oc))) λi hi he=>by have:=(oc.lt i hi).2;omega
 have hfr:=F79 hb67 (by omega);have hlo:=F79 hb7 (by omega)
 have hg':sl.ownBlock=some g'\/(w.heap.size<=g'/\g'≠w5.heap.size/\g'≠w4.drew.heap.size/\w7.heap.size<=g'):=by
  rcases hlies with hl|hl
  ·exact .inl hl
  ·exact .inr (by omega)
 rw [e3] at oc7 oc;refine ⟨_,⟨w5.heap.size,.slice (some ⟨w4.drew.heap.size,0,none⟩) (M.params.length+M.locals.length) (M.params.length+M.locals.length),.slice none 0 0,.slice a1 M.params.length c1,.slice a2 M.locals.length c2,.slice a3 M.code.length c3⟩,⟨hfr.seg,?_,World.ownsRow_nil _ _ _ _,aR (O79 oc7 (Nat.le_refl _)) (Nat.zero_le _),?_,?_,?_⟩,?_,hbM10,?_,?_,?_⟩
 ·have hlen:(t++List.replicate M.locals.length 0).length=M.params.length+M.locals.length:=by rw [List.length_append,List.length_replicate,ht]
  show World.ownsRow _ 0 21 1 _ (t++List.replicate M.locals.length 0).length _;rw [hlen];exact eC hlo (by simp [ht]) (Nat.zero_le _) (by unfold maxLen;omega)
 ·rintro i (hi|hi|hi)
  ·have:w4.drew.heap.size=i:=by simpa [Value.ownBlock] using hi
   show i≠w5.heap.size;omega
  ·cases hi
  ·have:=(oc.lt i hi).2;show i≠w5.heap.size;omega
 ·intro i hi;simp [Value.ownBlock]
 ·intro i hi;have:=(oc.lt i hi).2;refine ⟨λhe=>?_,by simp [Value.ownBlock]⟩;have:w4.drew.heap.size=i:=by simpa [Value.ownBlock] using he
  omega
 ·rintro i ((hi|hi|hi)|hi)
  ·have hi:i=w5.heap.size:=hi;omega
  ·have:w4.drew.heap.size=i:=by simpa [Value.ownBlock] using hi
   omega
  ·cases hi
  ·exact (oc.lt i hi).1
 ·have:=f10.own ho9 λi hi he=>by
   have hgi:g'=i:=by simpa [Value.ownBlock] using hi
   subst hgi;rcases hg' with h|h
   ·exact hsm (he▸h)
   ·omega
  exact this
 ·intro i hi;have hgi:g'=i:=by simpa [Value.ownBlock] using hi
  subst hgi;rcases hg' with h|⟨h1',h2',h3',h4'⟩
  ·exact .inl h
  ·refine .inr ⟨h1',?_⟩;rintro ((hi|hi|hi)|hi)
   ·exact h2' hi
   ·have:w4.drew.heap.size=g':=by simpa [Value.ownBlock] using hi
    omega
   ·cases hi
   ·have:=(oc.lt g' hi).2;omega
 ·have F7:aG w w7:=f7.ext x06 λi hi=>by have hi:i=w4.drew.heap.size:=hi;omega
  exact ((Fr.of_ext (S:=λi=>i=mb\/sl.ownBlock=some i) (F7.trans x8)).trans (f9.mono λi hi=>.inr hi) λ_ _ h=>h).trans (f10.mono λi hi=>.inl hi) λ_ _ h=>h
def Below (l:List bF) (w:Ω):List FP->List gV->Prop
 | [],[]=>True
 | q::qs,f::fs=>qN w q (f.me l) f/\Below l w qs fs
 | _,_=>False
theorem Below.len {l:List bF} {w:Ω}:∀ {qs:List FP} {fs:List gV},Below l w qs fs->qs.length=fs.length
 | [],[],_=>rfl
 | q::qs,f::fs,h=>by simp [Below.len h.2]
 | [],_::_,h=>h.elim
 | _::_,[],h=>h.elim
theorem Below.fr {l:List bF} {w w':Ω} {S:Nat->Prop} (g:Fr S w w'):∀ {qs:List FP} {fs:List gV},Below l w qs fs->(∀ a∈qs,∀ i,rI a i->¬ S i)->Below l w' qs fs
 | [],[],_,_=>trivial
 | q::qs,f::fs,h,hn=>⟨h.1.fr g (hn q (by simp)),Below.fr g h.2 λa ha=>hn a (by simp [ha])⟩
 | [],_::_,h,_=>h.elim
 | _::_,[],h,_=>h.elim
def BX (X0:Nat->Prop) (fg:Nat) (qs:List FP) (i:Nat):Prop:=X0 i\/i=fg\/∃ a∈qs,rI a i
structure cW (l:List bF) (X0:Nat->Prop) (p:iY) (fg fcap:Nat) (qs:List FP) (q:FP) (m:PM) (w:Ω):Prop where
 wh:Wh l p q m.f m.r (BX X0 fg qs) (.slice (some ⟨fg,0,none⟩) (qs.length+1) fcap) m.fuel 0 w
 row:w.ownsRow 0 111 1 (.slice (some ⟨fg,0,none⟩) (qs.length+1) fcap) (qs.length+1) ((q::qs).reverse.map pf)
 bel:Below l w qs m.fs
 bd:qs.Pairwise λa b=>∀ i,rI a i->¬ rI b i
 bf:∀ a∈qs,¬ rI a fg
 x0:∀ i,X0 i->i≠fg/\∀ a∈qs,¬ rI a i
def IP (l:List bF) (X0:Nat->Prop) (p:iY) (m':PM) (w w':Ω):Prop:=∃ p' fg' fcap' qs' q',cW l X0 p' fg' fcap' qs' q' m' w'/\p'.mb=p.mb/\p'.rp.rb=p.rp.rb/\Fr (λi=>¬ X0 i) w w'
def WZ (l:List bF) (X0:Nat->Prop) (p:iY) (e:AP) (w:Ω):Prop:=∃ q f X a cap,Wh l p q f e.r X (.slice a e.depth cap) e.fuel e.s w/\∀ i,X0 i->X i
def EGo (l:List bF) (X0:Nat->Prop) (p:iY) (e:AP) (w w':Ω):Prop:=∃ p',WZ l X0 p' e w'/\p'.mb=p.mb/\p'.rp.rb=p.rp.rb/\Fr (λi=>¬ X0 i) w w'
section
variable {l:List bF} {X0:Nat->Prop} {p p1:iY} {fg fcap:Nat} {qs:List FP} {q q1:FP} {m:PM} {w w1 w':Ω}
theorem kK.fx {X:Nat->Prop} {f:gV} {r:Rm} {sl:O} {fu st:Int} (h:Wh l p q f r X sl fu st w) (s:kK p q p1 q1 w w1):Fr (λi=>¬ X i) w w1:=s.fr.mono λ_ hi hx=>h.other hx hi
theorem cW.len (h:cW l X0 p fg fcap qs q m w):qs.length=m.fs.length:=h.bel.len
theorem cW.top (h:cW l X0 p fg fcap qs q m w) {f':gV} {r':Rm} {fu':Nat} (h1:Wh l p1 q1 f' r' (BX X0 fg qs) (.slice (some ⟨fg,0,none⟩) (qs.length+1) fcap) fu' 0 w1) (s:kK p q p1 q1 w w1):cW l X0 p1 fg fcap qs q1 ⟨m.fs,f',fu',r'⟩ w1:=by
 have F:=kK.fx h.wh s;refine ⟨h1,?_,h.bel.fr F λa ha i hi hn=>hn (.inr (.inr ⟨a,ha,hi⟩)),h.bd,h.bf,h.x0⟩;have e:(q1::qs).reverse.map pf=(q::qs).reverse.map pf:=by simp [s.pf]
 rw [e];exact F.own h.row λi hi hn=>hn (.inr (.inl (by simpa [Value.ownBlock] using hi.symm)))
theorem cW.topGo (h:cW l X0 p fg fcap qs q m w) {f':gV} {r':Rm} {fu':Nat} (g:iC l p q f' r' (BX X0 fg qs) (.slice (some ⟨fg,0,none⟩) (qs.length+1) fcap) fu' 0 w w1):∃ p1 q1,cW l X0 p1 fg fcap qs q1 ⟨m.fs,f',fu',r'⟩ w1/\kK p q p1 q1 w w1:=by
 obtain ⟨p1,q1,h1,s⟩:=g;exact ⟨p1,q1,h.top h1 s,s⟩
theorem cW.fx (h:cW l X0 p fg fcap qs q m w) (s:kK p q p1 q1 w w1):Fr (λi=>¬ X0 i) w w1:=(kK.fx h.wh s).mono λ_ hn hx=>hn (.inl hx)
theorem aKx (h:cW l X0 p fg fcap qs q m w) (hd:m.fs.length < 8):aC prog 48 #[pm p] w λrv w'=>rv=pf q/\aG w w':=by
 have hl:=h.len;apply aQh;unfold TH;have D1:aG w w.drew:=(aG.refl _).drew;refine aH.mk' (λw'=>aG w w') D1 ⟨.inl ⟨_,rfl⟩,?_⟩;refine lE cA gJ (λw' hw=>h.wh.box.ext hw) rfl ⟨.inl ⟨_,rfl⟩,?_⟩;refine lE cA gJ (λw' hw=>h.wh.box.ext hw) rfl ?_;refine aD.ok (λw' _=>jR underlying107) ?_;refine aD.ok (λw' _=>mB) ?_;rw [show IntKind.i64.wrap (((qs.length+1:Nat):Int) - 1)=(qs.length:Int) from by rw [aX (by omega)];omega];refine gF aKr kI (aB.of_own h.row) (λw' hw=>hw) (by omega) (by omega) (u:=pf q) ?_ ⟨rfl,D1⟩;rw [Int.toNat_natCast,List.reverse_cons,List.map_append,List.getElem?_append_right (by simp)];simp
theorem aTn (hT:nK l) (h:cW l X0 p fg fcap qs q m w) (hd:m.fs.length < 8) (h8:m.f.st.length<=8) (_:iB m.f.st) (hpc:m.f.pc<=1000) {to mth:Nat} (h1:to < l.length) (h2:mth < (aP l to).methods.length) {n:Nat} (hn:n=((aP l to).meth mth).params.length) (hnt:n<=m.f.st.length) :
  aC prog 89 #[pm p,pf q,i64 (to:Int),i64 (mth:Int)] w λrv w'=>
   (8<=m.fs.length+1/\rv=i64 28422/\iC l p q { m.f with st:=jC n m.f.st } m.r (BX X0 fg qs) (.slice (some ⟨fg,0,none⟩) (qs.length+1) fcap) m.fuel 0 w w') \/
   (¬ 8<=m.fs.length+1/\rv=i64 36864/\IP l X0 p ⟨{ m.f with st:=jC n m.f.st,pc:=m.f.pc+1 }::m.fs,jI l to mth (hY n m.f.st),m.fuel,m.r⟩ w w'/\∃ cs,kV w' q.fb 0 cs/\cs[0]?=some (i64 (m.f.who:Int))):=by
 have hl:=h.len;have hmr:=(hT _ (fJ h1)).1.2.2.1.2.1 _ (meth_mem h2)
 have hmth:(aP l to).methods[mth]?=some ((aP l to).meth (mth:Int)):=by
  unfold bF.meth;rw [Int.toNat_natCast,List.getD_eq_getElem?_getD,List.getElem?_eq_getElem h2];rfl
 apply aPi;unfold SO;refine ⟨.inl ⟨_,rfl⟩,?_⟩;refine gC cZ gI h.wh.box rfl ?_;refine (zF h.wh.room.room h.wh.img.now hT h1).mono λrv w2 ⟨p2,hrv,hO,x2⟩=>?_;subst hrv;refine cL.2 (cK.2 ?_);refine xL PW rfl hO.one λw3 hb3 x3=>?_;have hb3:bD w3 w2.heap.size (p2.cells (aP l to)) 46:=hb3;refine bA hb3.boxed bN gR rfl ?_;refine oG (i:=mth) iJ fB aZ (hO.at_.mt.ext x3) hmth λrow ⟨mpv,mlv,mcv,hrow,hmp,_,_⟩=>⟨mpv,by rw [hrow];rfl,by decide,?_⟩;refine gG aM hmp ?_;rw [<- hn];have x03:=x2.trans x3;refine (aMc (h.wh.ext x03) (by omega) hnt).mono λrv w4 ⟨ho,p4,q4,h4,s4⟩=>?_;have s04:=(kK.of_ext (p:=p) (q:=q) x03).trans s4;have e:pm p=.pointer (some ⟨p4.mb,0,none⟩):=by unfold pm;rw [s4.mb]
 have e2:pf q=.pointer (some ⟨q4.fb,0,none⟩):=by unfold pf;rw [s4.fb]
 rw [e,e2];refine ⟨.inl ⟨_,rfl⟩,?_⟩;refine gC cA gJ h4.box rfl (vM.2 (kU.2 (aK (λhge=>?_) λhlt=>?_)))
 ·exact .inl ⟨by omega,rfl,p4,q4,h4,s04⟩
 refine ⟨.inl ⟨_,rfl⟩,?_⟩;refine gC cI aL h4.frm.box rfl (bW.2 ?_);rw [show IntKind.i64.wrap (((m.f.pc:Nat):Int)+1)=((m.f.pc+1:Nat):Int) from by rw [aX (by omega)];omega];refine ⟨.inl ⟨_,rfl⟩,?_⟩;refine OD cI ?_;refine kM fK h4.frm.box (show 2 < 9 by decide) rfl ?_;have g5:=h4.setPc (m.f.pc+1)
 have ho5:=(Fr.of_set (w:=w4) (b:=q4.fb) (o:=0+2) (v:=i64 ((m.f.pc+1:Nat):Int)) (S:=λi=>i=q4.fb) rfl).own ho λi hi he=>by
  have h0:=(ho.lt i hi).1;have:=(h.wh.ext x03).frm.hi q.fb (.inl (.inl rfl));rw [he,s4.fb] at h0;omega
 generalize w4.setCell ⟨q4.fb,0+2,none⟩ (i64 ((m.f.pc+1:Nat):Int))=w5 at g5 ho5 ⊢;obtain ⟨p5,q5,h5,s5⟩:=g5;have s05:=s04.trans s5;have F5:=h.fx s05;have hX5:=kK.fx h.wh s05
 have row5:w5.ownsRow 0 111 1 (.slice (some ⟨fg,0,none⟩) (qs.length+1) fcap) (qs.length+1) ((q5::qs).reverse.map pf):=by
  have e:(q5::qs).reverse.map pf=(q::qs).reverse.map pf:=by simp [s05.pf]
  rw [e];exact hX5.own h.row λi hi hn=>hn (.inr (.inl (by simpa [Value.ownBlock] using hi.symm)))
 have bel5:=h.bel.fr hX5 λa ha i hi hn=>hn (.inr (.inr ⟨a,ha,hi⟩));have emb:p4.mb=p5.mb:=s5.mb.symm;rw [emb];have hfgm:fg≠p5.mb:=λhe=>by cases h5.sep.dj .ex .mb fg (.inr (.inl rfl)) he
 have htl:(hY n m.f.st).length=n:=oL hnt;refine (aAz hT h5.room.room h5.img.now (show kV w5 p5.mb 0 [.pointer (some ⟨p5.rp.rb,0,none⟩),rR p5.rp,.slice (some ⟨fg,0,none⟩) (qs.length+1) fcap,i64 (m.fuel:Int),i64 0] from h5.box) row5 (by omega) (λhe=>hfgm (by simpa [Value.ownBlock] using he)) h1 h2 (pv:=rv) (t:=hY n m.f.st) (by rw [htl];exact aB.of_own ho5) (htl.trans hn)).mono λ_ w6 ⟨sl',qn,hq6,hnew,hb6,hr6,hsl6,F6⟩=>?_;refine .inr ⟨by omega,rfl,?_⟩
 suffices hM:IP l X0 p ⟨{ m.f with st:=jC n m.f.st,pc:=m.f.pc+1 }::m.fs,jI l to mth (hY n m.f.st),m.fuel,m.r⟩ w w6 by
  refine ⟨hM,_,F6.seg (by rw [<- s05.fb];exact h5.frm.box) λhs=>?_,rfl⟩;rw [<- s05.fb] at hs;rcases hs with hs|hs
  ·cases h5.sep.dj .fr .mb _ (.inl (.inl rfl)) hs
  ·cases h5.sep.dj .fr .ex _ (.inl (.inl rfl)) (.inr (.inl (by simpa [Value.ownBlock] using hs.symm)))
 obtain ⟨g',cap',rfl⟩:=nA hr6 (by omega);have F6':Fr (λi=>i=p5.mb\/i=fg) w5 w6:=F6.mono λi hi=>hi.imp id λh=>by simpa [Value.ownBlock] using h.symm
 have s6:=F6.size;have nX:∀ {a:Lb} {i:Nat},WR p5 q5 (BX X0 fg qs) a i->a≠.mb->i≠p5.mb:=λ{a i} hi ha he=>ha (h5.sep.dj a .mb i hi he);have nF:∀ {a:Lb} {i:Nat},WR p5 q5 (BX X0 fg qs) a i->a≠.ex->i≠fg:=λ{a i} hi ha he=>ha (h5.sep.dj a .ex i hi (.inr (.inl he)));have n2:∀ {a:Lb} {i:Nat},WR p5 q5 (BX X0 fg qs) a i->a≠.mb->a≠.ex->¬ (i=p5.mb\/i=fg):=λhi h1 h2 h=>h.elim (nX hi h1) (nF hi h2);have rm6:=h5.room.fr F6' λi hs=>⟨λhm=>n2 (a:=.rm) (.inl hm) (by intro e;cases e) (by intro e;cases e) hs,λhm=>n2 (a:=.rm) (.inr hm) (by intro e;cases e) (by intro e;cases e) hs⟩;have fl6:=h5.fld.fr F6' (n2 (a:=.fo) rfl (by intro e;cases e) (by intro e;cases e)) λi hi=>n2 (a:=.fd) hi (by intro e;cases e) (by intro e;cases e);have im6:=h5.img.fr F6' λi hi=>n2 (a:=.im) hi (by intro e;cases e) (by intro e;cases e);have fr6:=h5.frm.fr F6' λi hi=>n2 (a:=.fr) hi (by intro e;cases e) (by intro e;cases e)
 have hg':g'=fg\/(w5.heap.size<=g'/\¬ rI qn g'):=by
  rcases hsl6 g' rfl with h|h
  ·exact .inl (by simpa [Value.ownBlock] using h.symm)
  ·exact .inr h
 have hgl:=(hr6.lt g' rfl).2;have old:∀ {a:Lb} {i:Nat},WR p5 q5 (BX X0 fg qs) a i->i < w5.heap.size:=λhi=>h5.sep.lt _ _ hi;have lq:∀ i,rI qn i->w5.heap.size<=i/\i < w6.heap.size:=λi hi=>⟨hnew i hi,hq6.hi i hi⟩;have eqs:qs.length+1+1=(q5::qs).length+1:=by simp
 refine ⟨p5,g',cap',q5::qs,qn,⟨⟨rm6,h5.rps,fl6,im6,by rw [<- eqs];exact hb6,hq6,⟨λa b i ha hb=>?_,λa i ha=>?_⟩⟩,?_,⟨fr6,?_⟩,?_,?_,?_⟩,s05.mb,s05.rb,?_⟩
 ·-- all apart
  have cls:∀ {a:Lb} {i:Nat},WR p5 qn (BX X0 g' (q5::qs)) a i->(a≠.fr/\a≠.ex/\WR p5 q5 (BX X0 fg qs) a i)\/(a=.fr/\rI qn i)\/(a=.ex/\(X0 i\/rI q5 i\/∃ c∈qs,rI c i))\/(a=.ex/\i=g'):=by
   intro a i hi;cases a with
   | fr=>exact .inr (.inl ⟨rfl,hi⟩)
   | ex=>
    rcases hi with h|h|⟨c,hc,h⟩
    ·exact .inr (.inr (.inl ⟨rfl,.inl h⟩))
    ·exact .inr (.inr (.inr ⟨rfl,h⟩))
    ·rcases List.mem_cons.1 hc with rfl|hc
     ·exact .inr (.inr (.inl ⟨rfl,.inr (.inl h)⟩))
     ·exact .inr (.inr (.inl ⟨rfl,.inr (.inr ⟨c,hc,h⟩)⟩))
   | _=>exact .inl ⟨(by intro e;cases e),(by intro e;cases e),hi⟩
  have exo:∀ {i:Nat},(X0 i\/rI q5 i\/∃ c∈qs,rI c i)->(rI q5 i\/BX X0 fg qs i):=λh=>by
   rcases h with h|h|h
   ·exact .inr (.inl h)
   ·exact .inl h
   ·exact .inr (.inr (.inr h))
  have exl:∀ {i:Nat},(X0 i\/rI q5 i\/∃ c∈qs,rI c i)->i < w5.heap.size:=λh=>by
   rcases exo h with h|h
   ·exact old (a:=.fr) h
   ·exact old (a:=.ex) h
  have main:∀ {a b:Lb} {i:Nat},WR p5 qn (BX X0 g' (q5::qs)) a i->WR p5 qn (BX X0 g' (q5::qs)) b i->a≠.fr->a≠.ex->a=b:=by
   intro a b i ha0 hb na1 na2;rcases cls ha0 with ⟨_,_,ha⟩|⟨e,_⟩|⟨e,_⟩|⟨e,_⟩
   ·rcases cls hb with ⟨_,_,hb'⟩|⟨_,hb'⟩|⟨_,hb'⟩|⟨_,hb'⟩
    ·exact h5.sep.dj a b i ha hb'
    ·have:=old ha;have:=(lq i hb').1;omega
    ·rcases exo hb' with hb'|hb'
     ·exact absurd (h5.sep.dj a .fr i ha hb') na1
     ·exact absurd (h5.sep.dj a .ex i ha hb') na2
    ·rcases hg' with h|h
     ·exact absurd (hb'.trans h) (nF ha na2)
     ·have:=old ha;omega
   ·exact absurd e na1
   iterate 2
    ·exact absurd e na2
  by_cases na1:a=.fr
  ·by_cases nb1:b=.fr
   ·rw [na1,nb1]
   ·by_cases nb2:b=.ex
    ·subst na1;subst nb2;exfalso;have ha:=lq i ha;rcases cls hb with ⟨_,h2,_⟩|⟨e,_⟩|⟨_,hb⟩|⟨_,hb⟩
     ·exact h2 rfl
     ·cases e
     ·have:=exl hb;omega
     ·subst hb;rcases hg' with h|h
      ·have:=old (a:=.ex) (i:=fg) (.inr (.inl rfl));omega
      ·exact h.2 ‹_›
    ·exact (main hb ha nb1 nb2).symm
  ·by_cases na2:a=.ex
   ·by_cases nb1:b=.fr
    ·subst na2;subst nb1;exfalso;have hb':=lq i hb;rcases cls ha with ⟨_,h2,_⟩|⟨e,_⟩|⟨_,ha⟩|⟨_,ha⟩
     ·exact h2 rfl
     ·cases e
     ·have:=exl ha;omega
     ·subst ha;rcases hg' with h|h
      ·have:=old (a:=.ex) (i:=fg) (.inr (.inl rfl));omega
      ·exact h.2 hb
    ·by_cases nb2:b=.ex
     ·rw [na2,nb2]
     ·exact (main hb ha nb1 nb2).symm
   ·exact main ha hb na1 na2
 ·cases a with
  | fr=>exact (lq i ha).2
  | ex=>
   rcases ha with h|h|⟨c,hc,h⟩
   ·have:=old (a:=.ex) (i:=i) (.inl h);omega
   ·subst h;exact hgl
   ·rcases List.mem_cons.1 hc with rfl|hc
    ·have:=old (a:=.fr) (i:=i) h;omega
    ·have:=old (a:=.ex) (i:=i) (.inr (.inr ⟨c,hc,h⟩));omega
  | rm=>have:=old (a:=.rm) (i:=i) ha;omega
  | im=>have:=old (a:=.im) (i:=i) ha;omega
  | fo=>have:=old (a:=.fo) (i:=i) ha;omega
  | fd=>have:=old (a:=.fd) (i:=i) ha;omega
  | mb=>have:=old (a:=.mb) (i:=i) ha;omega
 ·rw [<- eqs];have e:(qn::q5::qs).reverse.map pf=(q5::qs).reverse.map pf++[pf qn]:=by simp
  rw [e];exact hr6
 ·exact bel5.fr F6' λa ha i hi hs=>by
   rcases hs with hs|hs
   ·exact nX (a:=.ex) (.inr (.inr ⟨a,ha,hi⟩)) (by intro e;cases e) hs
   ·exact h.bf a ha (hs▸hi)
 ·refine List.pairwise_cons.2 ⟨λb hb i hi hb'=>?_,h.bd⟩;cases h5.sep.dj .fr .ex i hi (.inr (.inr ⟨b,hb,hb'⟩))
 ·intro a ha hi;rcases hg' with hge|hge
  ·subst hge;rcases List.mem_cons.1 ha with rfl|ha
   ·exact nF (a:=.fr) hi (by intro e;cases e) rfl
   ·exact h.bf a ha hi
  ·rcases List.mem_cons.1 ha with rfl|ha
   ·have:=old (a:=.fr) hi;omega
   ·have:=old (a:=.ex) (.inr (.inr ⟨a,ha,hi⟩));omega
 ·intro i hi;have hil:=old (a:=.ex) (i:=i) (.inl hi);refine ⟨λhe=>?_,λa ha hfa=>?_⟩
  ·subst he;rcases hg' with h'|h'
   ·exact (h.x0 _ hi).1 h'
   ·omega
  ·rcases List.mem_cons.1 ha with rfl|ha
   ·cases h5.sep.dj .fr .ex i hfa (.inl hi)
   ·exact (h.x0 i hi).2 a ha hfa
 ·refine F5.trans (F6'.mono λi hi hx=>?_) λ_ _ h=>h;rcases hi with hi|hi
  ·exact nX (a:=.ex) (.inl hx) (by intro e;cases e) hi
  ·exact (h.x0 i hx).1 hi
end
theorem QI {P:Program} {w:Ω} {t e:TypeId} {z:O} {by_:Nat} (ht:P.underlying t=some (.slice e)) (hi:Go.Vc.cV P e z 1 by_) {g n cap a:Nat} (ha:a<=n) (hn:n<=cap) :
  (Instr.sliceAt t (.slice (some ⟨g,0,none⟩) n cap) none (some (.int .i64 (a:Int))) none).run P w=.ok (.slice (some ⟨g,0,none⟩) a cap) w:=by
 have hc:a<=cap:=by omega
 simp [Instr.sliceAt,Instr.slice,run_underlying ht,dU hi,Instr.sliceBounds,Instr.sliceBound,asIntOf,hc,gO]
theorem QU {w:Ω} {B e sz n g cap:Nat} {xs:List O} (h:w.ownsRow B e sz (.slice (some ⟨g,0,none⟩) n cap) n xs):n<=cap:=by
 rcases h.2 with ⟨he,_⟩|⟨_,_,_,he,_,_,h2,_⟩
 ·cases he
 ·cases he;exact h2
section
variable {l:List bF} {X0 Y0:Nat->Prop} {p p1:iY} {fg fcap:Nat} {qs:List FP} {q q1:FP} {m:PM} {w w1 w':Ω}
theorem Sep.sub {R R':Lb->Nat->Prop} {n:Nat} (h:Sep R n) (hs:∀ a i,R' a i->R a i):Sep R' n:=⟨λa b i ha hb=>h.dj a b i (hs a i ha) (hs b i hb),λa i ha=>h.lt a i (hs a i ha)⟩
theorem Wh.weak {f:gV} {r:Rm} {X Y:Nat->Prop} {sl:O} {fu st:Int} (h:Wh l p q f r X sl fu st w) (hs:∀ i,Y i->X i):Wh l p q f r Y sl fu st w:=
 ⟨h.room,h.rps,h.fld,h.img,h.box,h.frm,h.sep.sub λa i ha=>by
  cases a with
  | ex=>exact hs i ha
  | _=>exact ha⟩
theorem cW.weak (h:cW l X0 p fg fcap qs q m w) (hs:∀ i,Y0 i->X0 i):cW l Y0 p fg fcap qs q m w:=
 ⟨h.wh.weak λi hi=>hi.imp (hs i) id,h.row,h.bel,h.bd,h.bf,λi hi=>h.x0 i (hs i hi)⟩
theorem cW.go (h:cW l X0 p fg fcap qs q m w):IP l X0 p m w w:=⟨p,fg,fcap,qs,q,h,rfl,rfl,Fr.refl _ _⟩
theorem IP.after {m':PM} (hmb:p1.mb=p.mb) (hrb:p1.rp.rb=p.rp.rb) (F:Fr (λi=>¬ X0 i) w w1) (g:IP l X0 p1 m' w1 w'):IP l X0 p m' w w':=by
 obtain ⟨p',a,b,c,d,h1,h2,h3,h4⟩:=g;exact ⟨p',a,b,c,d,h1,h2.trans hmb,h3.trans hrb,F.trans h4 λ_ _ h=>h⟩
theorem EGo.after {e:AP} (hmb:p1.mb=p.mb) (hrb:p1.rp.rb=p.rp.rb) (F:Fr (λi=>¬ X0 i) w w1) (g:EGo l X0 p1 e w1 w'):EGo l X0 p e w w':=by
 obtain ⟨p',h1,h2,h3,h4⟩:=g;exact ⟨p',h1,h2.trans hmb,h3.trans hrb,F.trans h4 λ_ _ h=>h⟩
theorem cW.drop {q1:FP} {qs:List FP} {g:gV} {gs:List gV} {f:gV} {fuel:Nat} {r:Rm} (h:cW l X0 p fg fcap (q1::qs) q ⟨g::gs,f,fuel,r⟩ w) {w1:Ω} (hw:w1=w.setCell ⟨p.mb,0+2,none⟩ (.slice (some ⟨fg,0,none⟩) (qs.length+1) fcap)) :
  cW l (λi=>X0 i\/rI q i) p fg fcap qs q1 ⟨gs,g,fuel,r⟩ w1/\qN w1 q (f.me l) f/\Fr (λi=>i=p.mb) w w1:=by
 subst hw;have F:Fr (λi=>i=p.mb) w (w.setCell ⟨p.mb,0+2,none⟩ (.slice (some ⟨fg,0,none⟩) (qs.length+1) fcap)):=Fr.of_set rfl;have S:=h.wh.sep;have nm:∀ {a:Lb} {i:Nat},a≠.mb->WR p q (BX X0 fg (q1::qs)) a i->¬ i=p.mb:=λha hi he=>ha (S.dj _ .mb _ hi he);have hb:=h.wh.box.set (j:=2) (by simp) (.slice (some ⟨fg,0,none⟩) (qs.length+1) fcap);obtain ⟨b1,b2⟩:=h.bel;have inq1:∀ {i},rI q1 i->BX X0 fg (q1::qs) i:=λhi=>.inr (.inr ⟨q1,by simp,hi⟩);have inqs:∀ {i a},a∈qs->rI a i->BX X0 fg (q1::qs) i:=λha hi=>.inr (.inr ⟨_,by simp [ha],hi⟩);have pw:=List.pairwise_cons.1 h.bd;refine ⟨⟨⟨?_,h.wh.rps,?_,?_,hb,?_,?_⟩,?_,?_,pw.2,λa ha=>h.bf a (by simp [ha]),λi hi=>?_⟩,?_,F⟩
 ·exact h.wh.room.fr F λi hs=>⟨λhm=>nm (a:=.rm) (by intro e;cases e) (.inl hm) hs,λhm=>nm (a:=.rm) (by intro e;cases e) (.inr hm) hs⟩
 ·exact h.wh.fld.fr F (nm (a:=.fo) (by intro e;cases e) rfl) λi hi=>nm (a:=.fd) (by intro e;cases e) hi
 ·exact h.wh.img.fr F λi hi=>nm (a:=.im) (by intro e;cases e) hi
 ·exact b1.fr F λi hi=>nm (a:=.ex) (by intro e;cases e) (inq1 hi)
 ·refine ⟨λa b i ha hb=>?_,λa i ha=>?_⟩
  ·-- where a block lay before
   have cls:∀ {a:Lb} {i:Nat},WR p q1 (BX (λi=>X0 i\/rI q i) fg qs) a i->(a≠.fr/\a≠.ex/\WR p q (BX X0 fg (q1::qs)) a i)\/(a=.fr/\rI q1 i)\/(a=.ex/\((X0 i\/i=fg\/∃ c∈qs,rI c i)\/rI q i)):=by
    intro a i hi;cases a with
    | fr=>exact .inr (.inl ⟨rfl,hi⟩)
    | ex=>
     rcases hi with (h|h)|h|h
     ·exact .inr (.inr ⟨rfl,.inl (.inl h)⟩)
     ·exact .inr (.inr ⟨rfl,.inr h⟩)
     ·exact .inr (.inr ⟨rfl,.inl (.inr (.inl h))⟩)
     ·exact .inr (.inr ⟨rfl,.inl (.inr (.inr h))⟩)
    | _=>exact .inl ⟨(by intro e;cases e),(by intro e;cases e),hi⟩
   have exo:∀ {i:Nat},((X0 i\/i=fg\/∃ c∈qs,rI c i)\/rI q i)->BX X0 fg (q1::qs) i\/rI q i:=λh=>by
    rcases h with (h|h|⟨c,hc,h⟩)|h
    ·exact .inl (.inl h)
    ·exact .inl (.inr (.inl h))
    ·exact .inl (inqs hc h)
    ·exact .inr h
   have no1:∀ {i:Nat},rI q1 i->((X0 i\/i=fg\/∃ c∈qs,rI c i)\/rI q i)->False:=λ{i} hi h'=>by
    rcases h' with (h'|h'|⟨c,hc,h'⟩)|h'
    ·exact (h.x0 i h').2 q1 (by simp) hi
    ·exact h.bf q1 (by simp) (h'▸hi)
    ·exact pw.1 c hc i hi h'
    ·cases S.dj .fr .ex i h' (inq1 hi)
   rcases cls ha with ⟨n1,n2,ha⟩|⟨e1,ha⟩|⟨e1,ha⟩<;>rcases cls hb with ⟨m1,m2,hb⟩|⟨e2,hb⟩|⟨e2,hb⟩
   ·exact S.dj a b i ha hb
   ·exact absurd (S.dj a .ex i ha (inq1 hb)) n2
   ·rcases exo hb with hb|hb
    ·exact absurd (S.dj a .ex i ha hb) n2
    ·exact absurd (S.dj a .fr i ha hb) n1
   ·exact absurd (S.dj b .ex i hb (inq1 ha)) m2
   ·rw [e1,e2]
   ·exact (no1 ha hb).elim
   ·rcases exo ha with ha|ha
    ·exact absurd (S.dj b .ex i hb ha) m2
    ·exact absurd (S.dj b .fr i hb ha) m1
   ·exact (no1 hb ha).elim
   ·rw [e1,e2]
  ·have:i < w.heap.size:=by
    cases a with
    | fr=>exact S.lt .ex i (inq1 ha)
    | ex=>
     rcases ha with (h'|h')|h'|⟨c,hc,h'⟩
     ·exact S.lt .ex i (.inl h')
     ·exact S.lt .fr i h'
     ·exact S.lt .ex i (.inr (.inl h'))
     ·exact S.lt .ex i (inqs hc h')
    | rm=>exact S.lt .rm i ha
    | im=>exact S.lt .im i ha
    | fo=>exact S.lt .fo i ha
    | fd=>exact S.lt .fd i ha
    | mb=>exact S.lt .mb i ha
   have:=F.size;omega
 ·have h1:=yR (F.own h.row λi hi=>nm (a:=.ex) (by intro e;cases e) (.inr (.inl (by simpa [Value.ownBlock] using hi.symm)))) (a:=qs.length+1) (by simp)
  have e:((q::q1::qs).reverse.map pf).take ((qs.length+1)*1)=(q1::qs).reverse.map pf:=by
   rw [List.reverse_cons,List.map_append,Nat.mul_one,List.take_left' (by simp)]
  rw [e] at h1;exact h1
 ·exact b2.fr F λa ha i hi=>nm (a:=.ex) (by intro e;cases e) (inqs ha hi)
 ·rcases hi with hi|hi
  ·exact ⟨(h.x0 i hi).1,λa ha=>(h.x0 i hi).2 a (by simp [ha])⟩
  ·refine ⟨λhe=>?_,λa ha hf=>?_⟩
   ·cases S.dj .fr .ex i hi (.inr (.inl he))
   ·cases S.dj .fr .ex i hi (inqs ha hf)
 ·exact h.wh.frm.fr F λi hi=>nm (a:=.fr) (by intro e;cases e) hi
theorem aVg (h:cW l X0 p fg fcap qs q m w) (hd:m.fs.length < 8) (h8:m.f.st.length<=8) (hg8:∀ g∈m.fs,g.st.length<=8) (hr0:0<=(m.f.me l).result) (hnt:(jP (m.f.me l).result).length<=m.f.st.length) (htr:m.r.ps.tr.length<=100000) :
  aC prog 93 #[pm p,pf q] w λ_ w'=>(m.fs=[]/\EGo l X0 p ⟨36864,0,m.fuel,m.r.ends 36864⟩ w w') \/
   ∃ g gs,m.fs=g::gs/\IP l X0 p ⟨gs,{ g with st:=g.st++hY (jP (m.f.me l).result).length m.f.st },m.fuel,m.r⟩ w w':=by
 have hl:=h.len;apply aPe
 suffices key:∀ R:O->Ω->Prop,(∀ rv w',((m.fs=[]/\EGo l X0 p ⟨36864,0,m.fuel,m.r.ends 36864⟩ w w') \/
   ∃ g gs,m.fs=g::gs/\IP l X0 p ⟨gs,{ g with st:=g.st++hY (jP (m.f.me l).result).length m.f.st },m.fuel,m.r⟩ w w')->R rv w')->EX (pm p) (pf q) w R from key _ λrv w' h=>h
 intro R hR;unfold EX;have hcap:=QU h.row;have D1:aG w w.drew:=(aG.refl _).drew;refine aH.mk' (λw'=>aG w w') D1 ⟨.inl ⟨_,rfl⟩,?_⟩;refine lE cA gJ (λw' hw=>h.wh.box.ext hw) rfl ⟨.inl ⟨_,rfl⟩,?_⟩;refine lE cA gJ (λw' hw=>h.wh.box.ext hw) rfl ?_;refine aD.ok (λw' _=>jR underlying107) ?_;refine aD.ok (λw' _=>mB) ?_;rw [show IntKind.i64.wrap (((qs.length+1:Nat):Int) - 1)=(qs.length:Int) from by rw [aX (by omega)];omega];refine aD.ok (λw' _=>QI underlying107 NQ (Nat.le_succ _) hcap) ⟨.inl ⟨_,rfl⟩,?_⟩;refine XK cA ?_
 have hD:cW l X0 p fg fcap qs q m w.drew:=by
  have F:=Fr.of_ext (S:=λ_=>False) D1;exact ⟨h.wh.ext D1,D1.own h.row,h.bel.fr F λ_ _ _ _ h=>h,h.bd,h.bf,h.x0⟩
 refine kM NR hD.wh.box (show 2 < 5 by decide) rfl ?_;obtain ⟨fs,f,fuel,r⟩:=m;cases fs with
 | nil=>
  have hq0:qs=[]:=List.eq_nil_of_length_eq_zero hl;subst hq0;obtain ⟨p2,q2,h2,s2⟩:=hD.wh.cell (j:=2) (u:=.slice (some ⟨fg,0,none⟩) 0 fcap) (sl':=.slice (some ⟨fg,0,none⟩) 0 fcap) (fu':=(fuel:Int)) (st':=0) (by decide) rfl;have e:pm p=.pointer (some ⟨p2.mb,0,none⟩):=by unfold pm;rw [s2.mb]
  have e3:pm p=pm p2:=s2.pm.symm;have s02:=(kK.of_ext (p:=p) (q:=q) D1).trans s2;refine ⟨.inl ⟨_,rfl⟩,?_⟩;rw [e];refine gC cA gJ h2.box rfl (vM.2 (aF.2 ?_));simp only [show (((0:Nat):Int)=0) by rfl,decide_true,aE];rw [<- e,e3];refine (aNo h2 htr (s:=36864)).mono λ_ w3 g=>?_;obtain ⟨p3,q3,h3,s3⟩:=iC.after s02 g;refine hR _ _ (.inl ⟨rfl,p3,⟨q3,f,BX X0 fg [],some ⟨fg,0,none⟩,fcap,h3,λi hi=>.inl hi⟩,s3.mb,s3.rb,h.fx s3⟩)
 | cons g gs=>
  cases qs with
  | nil=>simp at hl
  | cons q1 qs=>
  obtain ⟨h2,hq2,F2⟩:=hD.drop rfl;have F02:Fr (λi=>¬ X0 i) w (w.drew.setCell ⟨p.mb,0+2,none⟩ (.slice (some ⟨fg,0,none⟩) (qs.length+1) fcap)):=(Fr.of_ext (S:=λi=>¬ X0 i) D1).trans (F2.mono λi hi hx=>by cases h.wh.sep.dj .ex .mb i (.inl hx) hi) λ_ _ h=>h;have hlen1:(q1::qs).length=qs.length+1:=rfl;rw [hlen1];generalize w.drew.setCell ⟨p.mb,0+2,none⟩ (.slice (some ⟨fg,0,none⟩) (qs.length+1) fcap)=w2 at *;refine ⟨.inl ⟨_,rfl⟩,?_⟩;refine gC cA gJ h2.wh.box rfl (vM.2 (aF.2 ?_));simp only [show ¬ (((qs.length+1:Nat):Int)=0) by omega,decide_false,aA];refine ⟨.inl ⟨_,rfl⟩,?_⟩;refine V.ok ND (V.ok UY (V.ok (YX (hq2.box.cell (j:=4) rfl)) ?_));have hbelow:gs.length < 8:=by simp at hd;omega
  refine aS.2 (aK (λhne=>?_) λheq=>?_)
  ·have hres:(jP (f.me l).result).length=1:=by unfold jP;rw [if_neg hne];rfl
   have hnt:1<=f.st.length:=by rw [<- hres];exact hnt
   refine (aKx h2 hbelow).mono λrv w3 ⟨hrv,x3⟩=>?_;subst hrv;refine (yT (hq2.ext x3) (by show f.st.length<=_;have h8:f.st.length<=8:=h8;omega) hnt).mono λrv w4 ⟨hrv,q4,hq4,s4⟩=>?_;subst hrv
   have hX3:cW l (λi=>X0 i\/rI q i) p fg fcap qs q1 ⟨gs,g,fuel,r⟩ w3:=by
    have F:=Fr.of_ext (S:=λ_=>False) x3;exact ⟨h2.wh.ext x3,x3.own h2.row,h2.bel.fr F λ_ _ _ _ h=>h,h2.bd,h2.bf,h2.x0⟩
   have nq:∀ {a:Lb} {i:Nat},a≠.ex->WR p q1 (BX (λi=>X0 i\/rI q i) fg qs) a i->¬ FM q i:=λha hi hf=>ha (hX3.wh.sep.dj _ .ex _ hi (.inl (.inr (.inl hf))))
   have h4:cW l (λi=>X0 i\/rI q i) p fg fcap qs q1 ⟨gs,g,fuel,r⟩ w4:=by
    refine ⟨hX3.wh.fr s4.fr λa i ha hi=>nq ha hi,s4.fr.own hX3.row λi hi hf=>?_,hX3.bel.fr s4.fr λa ha i hi hf=>?_,hX3.bd,hX3.bf,hX3.x0⟩
    ·exact (hX3.x0 i (.inr (.inl hf))).1 (by simpa [Value.ownBlock] using hi.symm)
    ·exact (hX3.x0 i (.inr (.inl hf))).2 a ha hi
   have F24:Fr (λi=>¬ X0 i) w2 w4:=(Fr.of_ext (S:=λi=>¬ X0 i) x3).trans (s4.fr.mono λi hi hx=>by cases h.wh.sep.dj .ex .fr i (.inl hx) (.inl hi)) λ_ _ h=>h;refine (pP h4.wh (by have:=hg8 g (by simp);show g.st.length<=_;omega)).mono λ_ w5 g5=>?_;obtain ⟨p5,q5,h5,s5⟩:=h4.topGo g5;have hF5:=h4.fx s5;refine hR _ _ (.inr ⟨g,gs,rfl,?_⟩);rw [hres]
   have et:hY 1 f.st=[bI (hY 1 f.st) 0]:=by
    obtain ⟨a,ha⟩:=List.length_eq_one_iff.1 (oL hnt);rw [ha];rfl
   rw [et];exact ⟨p5,fg,fcap,qs,q5,h5.weak λi hi=>.inl hi,s5.mb,s5.rb,(F02.trans F24 λ_ _ h=>h).trans (hF5.mono λi hi hx=>hi (.inl hx)) λ_ _ h=>h⟩
  ·have heq:(f.me l).result=0:=Classical.not_not.1 heq;refine hR _ _ (.inr ⟨g,gs,rfl,?_⟩);have hres:jP (f.me l).result=[]:=by unfold jP;rw [if_pos heq]
   show IP l X0 p ⟨gs,{ g with st:=g.st++hY (jP (f.me l).result).length f.st },fuel,r⟩ w w2;rw [hres];have et:hY ([]:List Int).length f.st=[]:=by unfold hY;simp
   rw [et,List.append_nil];exact ⟨p,fg,fcap,qs,q1,h2.weak λi hi=>.inl hi,rfl,rfl,F02⟩
end
section
variable {l:List bF} {X0:Nat->Prop} {p p1:iY} {fg fcap:Nat} {qs:List FP} {q q1:FP} {m:PM} {w w1 w':Ω}
theorem cW.ext (h:cW l X0 p fg fcap qs q m w) (hx:aG w w'):cW l X0 p fg fcap qs q m w':=by
 have F:=Fr.of_ext (S:=λ_=>False) hx;exact ⟨h.wh.ext hx,hx.own h.row,h.bel.fr F λ_ _ _ _ h=>h,h.bd,h.bf,h.x0⟩
theorem cW.old (h:cW l X0 p fg fcap qs q m w) {i:Nat} (hi:(∃ a,WR p q (BX X0 fg qs) a i)):i < w.heap.size:=by
 obtain ⟨a,ha⟩:=hi;exact h.wh.sep.lt a i ha
theorem cW.add (h:cW l X0 p fg fcap qs q m w) {b:Nat} (hn:∀ i,(∃ a,WR p q (BX X0 fg qs) a i)->i≠b) (hb:b < w.heap.size):cW l (λi=>X0 i\/i=b) p fg fcap qs q m w:=by
 refine ⟨⟨h.wh.room,h.wh.rps,h.wh.fld,h.wh.img,h.wh.box,h.wh.frm,⟨λc d i hc hd=>?_,λc i hc=>?_⟩⟩,h.row,h.bel,h.bd,h.bf,λi hi=>?_⟩
 ·have up:∀ {c:Lb},WR p q (BX (λi=>X0 i\/i=b) fg qs) c i->WR p q (BX X0 fg qs) c i\/(c=.ex/\i=b):=λ{c} hc=>by
   cases c with
   | ex=>
    rcases hc with (hc|hc)|hc
    ·exact .inl (.inl hc)
    ·exact .inr ⟨rfl,hc⟩
    ·exact .inl (.inr hc)
   | _=>exact .inl hc
  rcases up hc with hc|⟨e1,hc⟩<;>rcases up hd with hd|⟨e2,hd⟩
  ·exact h.wh.sep.dj c d i hc hd
  ·exact absurd hd (hn i ⟨c,hc⟩)
  ·exact absurd hc (hn i ⟨d,hd⟩)
  ·rw [e1,e2]
 ·cases c with
  | ex=>
   rcases hc with (hc|hc)|hc
   ·exact h.wh.sep.lt .ex i (.inl hc)
   ·exact hc▸hb
   ·exact h.wh.sep.lt .ex i (.inr hc)
  | rm=>exact h.wh.sep.lt .rm i hc
  | im=>exact h.wh.sep.lt .im i hc
  | fo=>exact h.wh.sep.lt .fo i hc
  | fd=>exact h.wh.sep.lt .fd i hc
  | mb=>exact h.wh.sep.lt .mb i hc
  | fr=>exact h.wh.sep.lt .fr i hc
 ·rcases hi with hi|rfl
  ·exact h.x0 i hi
  ·refine ⟨λhe=>hn i ⟨.ex,.inr (.inl he)⟩ rfl,λa ha hf=>hn i ⟨.ex,.inr (.inr ⟨a,ha,hf⟩)⟩ rfl⟩
theorem CD {P:Program} {w:Ω} {a b c:O}:(Instr.extract (.tuple #[a,b,c]) 0).run P w=.ok a w:=by simp [Instr.extract]
theorem CC {P:Program} {w:Ω} {a b c:O}:(Instr.extract (.tuple #[a,b,c]) 1).run P w=.ok b w:=by simp [Instr.extract]
theorem CB {P:Program} {w:Ω} {a b c:O}:(Instr.extract (.tuple #[a,b,c]) 2).run P w=.ok c w:=by simp [Instr.extract]
theorem YY {w:Ω} {a b c d:O}:(Instr.field 180 (.agg #[a,b,c,d]) 2).run prog w=.ok c w:=by kernel_rfl
theorem YG {op:Int} (h:¬ bG op):aC prog 94 #[i64 op] w λr w'=>r=i64 (-1)/\w'=w:=by
 unfold bG at h;apply qB;suffices key:∀ R:O->Ω->Prop,R (i64 (-1)) w->lW (i64 op) w R from key _ ⟨rfl,rfl⟩;intro R hR;unfold lW;refine ⟨λv w'=>v=.bool false/\w'=w,?_,?_⟩
 ·simp only [aF,show ¬ op=27 by omega,show ¬ op=28 by omega,decide_false,aA];exact ⟨by first|rfl|trivial,by first|rfl|trivial⟩
 rintro _ w' ⟨rfl,hw⟩ _;have hw:=hw.symm;subst hw;refine aA.2 ⟨λv w'=>v=.bool false/\w'=w,?_,?_⟩
 ·simp only [aF,show ¬ op=17 by omega,show ¬ op=18 by omega,show ¬ op=29 by omega,decide_false,aA];exact ⟨by first|rfl|trivial,by first|rfl|trivial⟩
 rintro _ w' ⟨rfl,hw⟩ _;have hw:=hw.symm;subst hw;refine aA.2 ⟨λv w'=>v=.bool false/\w'=w,?_,?_⟩
 ·simp only [aF,show ¬ op=30 by omega,show ¬ op=36 by omega,decide_false,aA];exact ⟨by first|rfl|trivial,by first|rfl|trivial⟩
 rintro _ w' ⟨rfl,hw⟩ _;have hw:=hw.symm;subst hw;refine aA.2 ?_;simp only [aF,show ¬ op=31 by omega,show ¬ op=32 by omega,decide_false,aA];exact hR
theorem VY (hT:nK l) (h:cW l X0 p fg fcap qs q m w) (hw:m.f.who < l.length) {k:Nat} (hk:k < (aP l m.f.who).imports.length) :
  aC prog 92 #[pm p,pf q,i64 (k:Int)] w λrv w'=>∃ pv,rv=.agg #[.string ((aP l m.f.who).imp k).name,i64 ((aP l m.f.who).imp k).exp,pv,i64 ((aP l m.f.who).imp k).result]/\aU w' pv ((aP l m.f.who).imp k).params/\aG w w':=by
 have himp:(aP l m.f.who).imports[k]?=some ((aP l m.f.who).imp (k:Int)):=by
  unfold bF.imp;rw [Int.toNat_natCast,List.getD_eq_getElem?_getD,List.getElem?_eq_getElem hk];rfl
 apply aPf;unfold SL;refine MA pK λw1 hz x1=>?_;have D1:aG w1 w1.drew:=(aG.refl _).drew;have hzl:=hz.lt;have s1:=x1.size;have hbox:∀ w',aG w1 w'->kV w' p.mb 0 _:=λw' hw=>(h.wh.box.ext x1).ext hw;have hfr:∀ w',aG w1 w'->kV w' q.fb 0 _:=λw' hw=>(h.wh.frm.box.ext x1).ext hw;refine aH.mk' (λw'=>aG w1 w') D1 ⟨.inl ⟨_,rfl⟩,?_⟩;refine lE cZ gI hbox rfl ⟨.inl ⟨_,rfl⟩,?_⟩;refine lE cS aL hfr rfl ?_
 have fin:∀ {w3:Ω} {b:Nat} {p2:bP},aG w1 w3->bD w3 b (p2.cells (aP l m.f.who)) 46->qL w1.heap.size w3 p2 (aP l m.f.who) ->
   V prog (Instr.fieldAt 46 (.pointer (some ⟨b,0,none⟩)) 2) w3 λt21 w6=>V prog (Instr.loadAt 43 t21) w6 λt22 w7=>V prog (Instr.indexAt 43 t22 (i64 (k:Int))) w7 λt24 w8=>V prog (Instr.loadAt 180 t24) w8 λt25 w9=>U prog (Instr.storeAt 180 (.pointer (some ⟨w.heap.size,0,none⟩)) t25) w9 λ_ w10=>
    ∃ r1,(loadVar 180 (match (Value.pointer (some ⟨w.heap.size,0,none⟩)) with|.pointer (some p)=>p|_=>⟨0,0,none⟩)).run prog w10=.ok r1 w10/\(∃ p,(Value.pointer (some ⟨w.heap.size,0,none⟩))=Value.pointer (some p))/\(∃ pv,r1=.agg #[.string ((aP l m.f.who).imp k).name,i64 ((aP l m.f.who).imp k).exp,pv,i64 ((aP l m.f.who).imp k).result]/\aU w10 pv ((aP l m.f.who).imp k).params/\aG w w10):=by
  intro w3 b p2 X hb hO3;refine bA hb.boxed dC lA rfl ?_;obtain ⟨ci,hci,hri⟩:=hO3.im;obtain ⟨pv,hrow,hpv⟩:=hri k _ himp;refine aTa mG EF hci hk hrow rfl ?_;refine GF pK (hz.ext X) (l:=[.string ((aP l m.f.who).imp k).name,i64 ((aP l m.f.who).imp k).exp,pv,i64 ((aP l m.f.who).imp k).result]) rfl rfl rfl (by simp [bM hpv];exact ⟨rfl,rfl,rfl⟩) λw4 h4 hch=>?_;have f4:=rB hch;refine ⟨_,vB underlying180 rfl pK h4 rfl,⟨_,rfl⟩,pv,rfl,?_,?_⟩
  ·exact aB.of_own (f4.own hpv λi hi he=>by have:=(hpv.lt i hi).1;omega)
  ·exact f4.ext (x1.trans X) λi hi=>by omega
 have hIm:∀ {w2},aG w1 w2->aC prog 88 #[kZ p.rp,i64 (m.f.who:Int)] w2 λr w'=>∃ p':bP,r=.tuple #[p'.val (aP l m.f.who),.bool true]/\qL w2.heap.size w' p' (aP l m.f.who)/\aG w2 w':=λhx=>zF (h.wh.room.room.ext (x1.trans hx)) ((h.wh.img.ext (x1.trans hx)).now) hT hw;refine ⟨?_,?_⟩
 ·refine (hIm D1).mono λrv w2 ⟨p2,hrv,hO,x2⟩=>?_;subst hrv;have X2:=D1.trans x2;refine ⟨X2,aD.ok (λw' _=>iQ) (aD.ok (λw' _=>iP) ?_)⟩;refine MA jT λw3 hz3 x3=>?_;have hO:=hO.mono (B':=w1.heap.size) (Nat.le_refl _);refine ⟨X2.trans x3,?_⟩;refine GF jT hz3 (l:=p2.cells (aP l m.f.who)) rfl rfl rfl hO.one λw4 h4 hch=>?_;have e:=hch.ext w2 x3 (Nat.le_refl _);exact ⟨X2.trans e,fin (X2.trans e) h4 (hO.fr (Fr.of_ext (S:=λ_=>False) e) λ_ _ h=>h)⟩
 ·refine MA jT λw3 hz3 x3=>?_;refine ⟨D1.trans x3,?_⟩;have s3:=x3.size;have sD:=D1.size;have l3:=hz3.lt;refine (hIm (D1.trans x3)).mono λrv w2 ⟨p2,hrv,hO,x2⟩=>?_;subst hrv;have X2:=(D1.trans x3).trans x2;refine ⟨X2,aD.ok (λw' _=>iQ) (aD.ok (λw' _=>iP) ?_)⟩;refine GF jT (hz3.ext x2) (l:=p2.cells (aP l m.f.who)) rfl rfl rfl hO.one λw4 h4 hch=>?_;have f4:=rB hch;have e:aG w1 w4:=f4.ext X2 λi hi=>by omega
  refine ⟨e,fin e h4 ((hO.fr f4 λi hi he=>by omega).mono (by omega))⟩
inductive DoR (l:List bF) (X0:Nat->Prop) (p:iY) (q:FP) (X:Nat->Prop) (sl:O) (d0 fu0:Nat) (o:Out) (rv:O) (w w':Ω):Prop
 | run (m':PM):o=.run m'->rv=i64 36864->IP l X0 p m' w w'->DoR l X0 p q X sl d0 fu0 o rv w w'
 | fin (s:Int) (d fu:Nat) (r:Rm):o=.fin s d fu r->rv=i64 36864->EGo l X0 p ⟨s,d,fu,r⟩ w w'->DoR l X0 p q X sl d0 fu0 o rv w w'
 | bad (s:Int) (r:Rm) (f':gV):o=.fin s d0 fu0 (r.ends s)->s≠36864->s≠0->rv=i64 s->iC l p q f' r X sl fu0 0 w w'->DoR l X0 p q X sl d0 fu0 o rv w w'
theorem yH {s:PS} {who:Int} {x:gP} {t:List Int}:(dK s who x t).2.1≠0:=by
 have chk0:∀ {l:List PA} {r who:Int},wZ l r who≠0:=λ{l r who}=>by
  unfold wZ;refine nP ?_ (by decide);split
  ·exact nP (by decide) (by decide)
  ·decide
 have rng0:∀ {l:List PA} {r a n who:Int},iS l r a n who≠0:=λ{l r a n who}=>by
  unfold iS;refine nP ?_ chk0;split
  ·exact nP (by decide) (by decide)
  ·decide
 have rG:∀ {s:PS} {who r1 a1 r2 a2 n:Int},kX s who r1 a1 r2 a2 n≠0:=λ{s who r1 a1 r2 a2 n}=>nP rng0 rng0;unfold dK rL rK kN rT rU rS mR mI gQ
 repeat' (with_reducible apply YA)
 all_goals first|exact chk0|exact rng0|exact rG|(dsimp only;decide)
theorem doW (hT:nK l) (hll:l.length<=1000) (h:cW l X0 p fg fcap qs q m w) (hok:m.ok l) (htr:m.r.ps.tr.length<=99000) :
  aC prog 53 #[pm p,pf q,.agg #[i64 (m.f.ins l).op,i64 (m.f.ins l).a,i64 (m.f.ins l).b]] w λrv w'=>
   DoR l X0 p q (BX X0 fg qs) (.slice (some ⟨fg,0,none⟩) (qs.length+1) fcap) (m.fs.length+1) m.fuel (tG l m.fs m.f m.fuel m.r (m.f.ins l) (hY (bB l m.f) m.f.st) (jC (bB l m.f) m.f.st)) rv w w':=by
 have hA:=hok.top.at_ hT;have hrt:=hok.top.rt hT;have hdep:=hok.dep;have h8:=hA.hi;have hnt:=hA.nt;have hpc:m.f.pc<=1000:=by have:=hA.pc;have:=hrt.2.1.2.2.2.1.2;omega
 have h32:=hok.top.s32;have hl:=h.len;generalize hx:m.f.ins l=x at *;have hokx:BA (m.f.img l) (m.f.me l) x:=hx▸hA.okx;have hN:bB l m.f=(bC (m.f.img l) (m.f.me l) x).length:=by unfold bB;rw [hx]
 apply aQe;suffices key:∀ R:O->Ω->Prop,(∀ rv w',DoR l X0 p q (BX X0 fg qs) (.slice (some ⟨fg,0,none⟩) (qs.length+1) fcap) (m.fs.length+1) m.fuel (tG l m.fs m.f m.fuel m.r x (hY (bB l m.f) m.f.st) (jC (bB l m.f) m.f.st)) rv w w'->R rv w')->FL (pm p) (pf q) (.agg #[i64 x.op,i64 x.a,i64 x.b]) w R from key _ λrv w' h=>h;intro R hR;unfold FL;refine tH λw1 hb x1=>?_;have hb:bD w1 w.heap.size [i64 x.op,i64 x.a,i64 x.b] 70:=hb;have h1:=h.ext x1;refine bA hb.boxed bK aL rfl (aF.2 ?_)
 have call:∀ {to mth:Nat} {w2:Ω},mK l m.f x=some (to,mth)->x.op=37\/x.op=38->x.op≠39->aG w1 w2->aC prog 89 #[pm p,pf q,i64 (to:Int),i64 (mth:Int)] w2 λrv w3=>((∃ cs,kV w3 q.fb 0 cs/\cs[0]?=some (i64 (m.f.who:Int)))/\bD w3 w.heap.size [i64 x.op,i64 x.a,i64 x.b] 70)/\R rv w3:=by
  intro to mth w2 hq hc h39 x2;have x02:=x1.trans x2
  have key:to < l.length/\mth < (aP l to).methods.length/\bB l m.f=((aP l to).meth mth).params.length:=by
   have hnm:=hokx.nm;have hxr:=hokx.xr;rw [hN];unfold mK at hq;obtain ⟨op,a,b⟩:=x;dsimp only at hc hq h39;rcases hc with rfl|rfl
   ·rw [if_pos rfl] at hq;cases hq;have ha:0<=a:=hxr.2.1;have hn:a < ((m.f.img l).methods.length:Int):=hnm;have e:((a.toNat:Nat):Int)=a:=by omega
    refine ⟨hok.top.who,by have:m.f.img l=aP l m.f.who:=rfl;rw [this] at hn;omega,?_⟩;simp only [e];rfl
   ·rw [if_neg (by decide)] at hq;have ha:0<=a:=hxr.2.1;have hn:a < ((m.f.img l).imports.length:Int):=hnm;obtain ⟨r1,r2,r3,_⟩:=uB hT hok.top.who ha hn hq;refine ⟨r1,r2,?_⟩;rw [r3];rfl
  obtain ⟨k1,k2,k3⟩:=key
  have eD:tG l m.fs m.f m.fuel m.r x (hY (bB l m.f) m.f.st) (jC (bB l m.f) m.f.st)=if 8<=m.fs.length+1 then .fin 28422 (m.fs.length+1) m.fuel (m.r.ends 28422) else .run ⟨{ m.f with st:=jC (bB l m.f) m.f.st,pc:=m.f.pc+1 }::m.fs,jI l to mth (hY (bB l m.f) m.f.st),m.fuel,m.r⟩:=by
   unfold tG;rw [if_neg h39,if_pos hc,hq]
  have hB:=((h.ext x1).add (b:=w.heap.size) (λi hi=>Nat.ne_of_lt (h.old hi)) hb.lt).ext x2;have hb2:=hb.ext x2;refine (aTn hT hB hdep h8 h32 hpc k1 k2 k3 hnt).mono λrv w3 hc3=>?_;rcases hc3 with ⟨g1,g2,p3,q3,g3,s3⟩|⟨g1,g2,g3,g4⟩
  ·rw [if_pos g1] at eD
   have g3':=g3.weak (Y:=BX X0 fg qs) λi hi=>by
    rcases hi with hi|hi|hi
    ·exact .inl (.inl hi)
    ·exact .inr (.inl hi)
    ·exact .inr (.inr hi)
   refine ⟨⟨⟨_,by rw [<- s3.fb];exact g3.frm.box,rfl⟩,s3.fr.blk hb2 (hB.wh.other (.inl (.inr rfl)))⟩,?_⟩;exact hR _ _ (.bad 28422 _ _ eD (by decide) (by decide) g2 (iC.of_ext x02 ⟨p3,q3,g3',s3⟩))
  ·rw [if_neg g1] at eD;obtain ⟨p3,a3,b3,c3,d3,m1,m2,m3,m4⟩:=g3;refine ⟨⟨g4,m4.blk hb2 λhn=>hn (.inr rfl)⟩,?_⟩;exact hR _ _ (.run _ eD g2 (IP.after rfl rfl (Fr.of_ext x02) ⟨p3,a3,b3,c3,d3,m1.weak λi hi=>.inl hi,m2,m3,m4.mono λi hn hx=>hn (.inl hx)⟩))
 refine aK (λh37=>?_) λn37=>?_
 ·-- Call
  have hc0:mK l m.f x=some (m.f.who,x.a.toNat):=by unfold mK;rw [if_pos h37]
  have ha:0<=x.a:=by
   have:=hokx.xr.2.1;unfold lim at this;rw [h37] at this;exact this
  have D1:aG w1 w1.drew:=(aG.refl _).drew;refine aH.mk' (λw'=>(∃ cs,kV w' q.fb 0 cs/\cs[0]?=some (i64 (m.f.who:Int)))/\bD w' w.heap.size [i64 x.op,i64 x.a,i64 x.b] 70) ⟨⟨_,h1.wh.frm.box.ext D1,rfl⟩,hb.ext D1⟩ ⟨.inl ⟨_,rfl⟩,?_⟩;refine yFE cS aL (λw' hw=>hw.1) ?_;refine dT (λw' hw=>hw.2.boxed) aW aL rfl ?_;have:=call hc0 (.inl h37) (by omega) D1;rw [show ((x.a.toNat:Nat):Int)=x.a by omega] at this;exact this
 refine aF.2 (aK (λh38=>?_) λn38=>?_)
 ·-- CallX
  have hxr:=hokx.xr.2.1;unfold lim at hxr;rw [h38] at hxr;have ha:0<=x.a:=hxr
  have hnm:x.a < ((m.f.img l).imports.length:Int):=by
   have:=hokx.nm;unfold fP at this;rw [h38] at this;exact this
  obtain ⟨k,hk⟩:∃ k:Nat,x.a=k:=⟨x.a.toNat,by omega⟩;have D1:aG w1 w1.drew:=(aG.refl _).drew;refine aH.mk' (λw'=>aG w1 w') D1 ⟨.inl ⟨_,rfl⟩,?_⟩;refine lE cZ gI (λw' hw=>h1.wh.box.ext hw) rfl ⟨.inl ⟨_,rfl⟩,?_⟩;refine lE cS aL (λw' hw=>h1.wh.frm.box.ext hw) rfl ?_;refine dT (λw' hw=>(hb.ext hw).boxed) aW aL rfl ?_;have hD:=h1.ext D1;have hkl:k < (aP l m.f.who).imports.length:=by have e:m.f.img l=aP l m.f.who:=rfl;rw [e] at hnm;omega
  refine aC.mono (R:=λrv w2=>rv=(match iT l m.f.who (k:Int) with|some q=>.tuple #[i64 (q.1:Int),i64 (q.2:Int),.bool true]|none=>.tuple #[i64 0,i64 0,.bool false])/\aG w1.drew w2) ?_ λrv w2 ⟨hrv,x2⟩=>?_
  ·apply aPh;unfold SN;refine ⟨.inl ⟨_,rfl⟩,?_⟩;refine gC cH iK hD.wh.room.room rfl ?_;rw [hk];refine (DT hD.wh.img.now hT hll hok.top.who hkl).mono λrv w2 ⟨hrv,x2⟩=>?_;cases hq:iT l m.f.who (k:Int) with
   | none=>
    rw [hq] at hrv;subst hrv;exact V.ok CD (V.ok CC (V.ok CB ⟨rfl,x2⟩))
   | some z=>
    rw [hq] at hrv;subst hrv;exact V.ok CD (V.ok CC (V.ok CB ⟨rfl,x2⟩))
  have x12:=D1.trans x2;have x02:=x1.trans x12;have eq38:mK l m.f x=iT l m.f.who (k:Int):=by unfold mK;rw [if_neg (by omega),hk]
  refine ⟨x12,?_⟩;cases hq:iT l m.f.who (k:Int) with
  | none=>
   rw [hq] at hrv;subst hrv;refine aD.ok (λw' _=>CD) (aD.ok (λw' _=>CC) (aD.ok (λw' _=>CB) (fN.2 ?_)));refine aE.2 ?_;refine bA (hb.ext x12).boxed aW aL rfl ?_;rw [hk];refine (VY hT (h1.ext x12) hok.top.who hkl).mono λrv w3 ⟨pv,hrv,hpv,x3⟩=>?_;subst hrv;refine V.ok YY ?_;refine gG aM hpv ?_
   have e1:((aP l m.f.who).imp (k:Int)).params.length=bB l m.f:=by
    rw [hN];unfold bC;simp only [h38,jB,Int.reduceEq,or_self,Int.reduceLE,and_false,if_false,if_true];rw [hk];rfl
   rw [e1];refine (aMc (h1.ext (x12.trans x3)).wh (by omega) hnt).mono λrv w4 ⟨_,g⟩=>?_
   have eD:tG l m.fs m.f m.fuel m.r x (hY (bB l m.f) m.f.st) (jC (bB l m.f) m.f.st)=.fin 28424 (m.fs.length+1) m.fuel (m.r.ends 28424):=by
    unfold tG;rw [if_neg (by omega),if_pos (.inr h38),eq38,hq]
   exact hR _ _ (.bad 28424 _ _ eD (by decide) (by decide) rfl (iC.of_ext (x1.trans (x12.trans x3)) g))
  | some z=>
   rw [hq] at hrv;subst hrv;refine aD.ok (λw' _=>CD) (aD.ok (λw' _=>CC) (aD.ok (λw' _=>CB) (fN.2 ?_)));refine aA.2 ?_;exact (call (eq38.trans hq) (.inr h38) (by omega) x12).mono λ_ _ h=>h.2
 refine aF.2 (aK (λh39=>?_) λn39=>?_)
 ·-- Ret
  have hnr:bB l m.f=(jP (m.f.me l).result).length:=by
   rw [hN];unfold bC;simp only [h39,jB,Int.reduceEq,or_self,Int.reduceLE,and_false,if_false,if_true]
  have hg8:∀ g∈m.fs,g.st.length<=8:=by
   have:∀ (c:gV) (fs:List gV),aCq l c fs->∀ g∈fs,g.st.length<=8:=by
    intro c fs;induction fs generalizing c with
    | nil=>intro _ g hg;simp at hg
    | cons a fs ih=>
     intro hch g hg;obtain ⟨c1,c2⟩:=hch;rcases List.mem_cons.1 hg with rfl|hg
     ·obtain ⟨K,hK,hl⟩:=c1.rch;have hr:=c1.rt hT;obtain ⟨_,_,_,g4,_⟩:=hK.go hr.1 hr.2.1;omega
     ·exact ih a c2 g hg
   exact this _ _ hok.ch
  refine (aVg h1 hdep h8 hg8 hrt.2.1.2.1.1 (by rw [<- hnr];exact hnt) (by omega)).mono λrv w2 hr=>?_;rcases hr with ⟨e,g⟩|⟨g0,gs,e,g⟩
  ·have eD:tG l m.fs m.f m.fuel m.r x (hY (bB l m.f) m.f.st) (jC (bB l m.f) m.f.st)=.fin 36864 0 m.fuel (m.r.ends 36864):=by
    unfold tG;rw [if_pos h39,e]
   exact hR _ _ (.fin _ _ _ _ eD rfl (EGo.after rfl rfl (Fr.of_ext x1) g))
  ·have eD:tG l m.fs m.f m.fuel m.r x (hY (bB l m.f) m.f.st) (jC (bB l m.f) m.f.st)=.run ⟨gs,{ g0 with st:=g0.st++hY (bB l m.f) m.f.st },m.fuel,m.r⟩:=by
    unfold tG;rw [if_pos h39,e]
   refine hR _ _ (.run _ eD rfl (IP.after rfl rfl (Fr.of_ext x1) ?_));rw [hnr];exact g
 refine bA hb.boxed bK aL rfl ?_;have hne:¬ (x.op=37\/x.op=38):=by omega
 by_cases hs:bG x.op
 ·-- served
  have hNs:bB l m.f=oM x.op:=by rw [hN];exact uW hs
  refine (UQ hs).mono λrv w2 ⟨hrv,hw⟩=>?_;subst hrv;have hw:=hw.symm;subst hw;refine kU.2 ?_;simp only [show ((oM x.op:Nat):Int)>=0 by omega,decide_true,aE];refine qO hb.boxed pR rfl ?_;refine (aLh h1.wh hokx.xr hs (by rw [<- hNs];exact hnt) h8 h32 hpc htr rfl).mono λrv w2 ⟨hrv,g1,g2⟩=>?_
  have eD:tG l m.fs m.f m.fuel m.r x (hY (bB l m.f) m.f.st) (jC (bB l m.f) m.f.st)=if (dK m.r.ps m.f.who x (hY (bB l m.f) m.f.st)).2.1=36864 then .run ⟨m.fs,{ m.f with st:=jC (bB l m.f) m.f.st++(if iR x.op then [] else [(dK m.r.ps m.f.who x (hY (bB l m.f) m.f.st)).1]),pc:=m.f.pc+1 },m.fuel,{ m.r with ps:=(dK m.r.ps m.f.who x (hY (bB l m.f) m.f.st)).2.2 }⟩
   else .fin (dK m.r.ps m.f.who x (hY (bB l m.f) m.f.st)).2.1 (m.fs.length+1) m.fuel (Rm.ends { m.r with ps:=(dK m.r.ps m.f.who x (hY (bB l m.f) m.f.st)).2.2 } (dK m.r.ps m.f.who x (hY (bB l m.f) m.f.st)).2.1):=by
   unfold tG;rw [if_neg n39,if_neg hne,if_pos hs]
  rw [hNs] at eD;rw [hNs] at hR;by_cases hf:(dK m.r.ps m.f.who x (hY (oM x.op) m.f.st)).2.1=36864
  ·rw [if_pos hf] at eD;obtain ⟨p2,q2,hm2,s2⟩:=h1.topGo (fu':=m.fuel) (g1 hf);refine hR _ _ (.run _ eD (by rw [hrv,hf]) (IP.after rfl rfl (Fr.of_ext x1) ⟨p2,fg,fcap,qs,q2,hm2,s2.mb,s2.rb,h1.fx s2⟩))
  ·rw [if_neg hf] at eD;exact hR _ _ (.bad _ _ _ eD hf yH hrv (iC.of_ext x1 (g2 hf)))
 ·-- plain
  refine (YG hs).mono λrv w2 ⟨hrv,hw⟩=>?_;subst hrv;have hw:=hw.symm;subst hw;refine kU.2 ?_;simp only [show ¬ ((-1:Int)>=0) by omega,decide_false,aA];refine qO hb.boxed pR rfl ?_;refine (aMe h1.wh hokx ⟨by omega,by omega,n39,hs⟩ (by rw [<- hN];exact hnt) h8 h32 hok.top.loc hok.top.who hok.fd hpc).mono λrv w2 ⟨hrv,g⟩=>?_;subst hrv;rw [<- hN] at g ⊢;obtain ⟨p2,q2,h2,s2⟩:=g;have e:pf q=.pointer (some ⟨q2.fb,0,none⟩):=by unfold pf;rw [s2.fb]
  rw [e];refine ⟨.inl ⟨_,rfl⟩,?_⟩;refine OD cI ?_;refine kM fK h2.frm.box (show 2 < 9 by decide) rfl ?_;have g3:=iC.after s2 (h2.setPc (yQ x m.f.pc (hY (bB l m.f) m.f.st)));obtain ⟨p3,q3,hm3,s3⟩:=h1.topGo (fu':=m.fuel) g3
  have eD:tG l m.fs m.f m.fuel m.r x (hY (bB l m.f) m.f.st) (jC (bB l m.f) m.f.st)=.run ⟨m.fs,{ m.f with st:=jC (bB l m.f) m.f.st++jS x m.f m.r.fd (hY (bB l m.f) m.f.st),pc:=yQ x m.f.pc (hY (bB l m.f) m.f.st),loc:=uJ x m.f.loc (hY (bB l m.f) m.f.st) },m.fuel,{ m.r with fd:=WC x m.f.who m.r.fd (hY (bB l m.f) m.f.st) }⟩:=by
   unfold tG;rw [if_neg n39,if_neg hne,if_neg hs]
  refine hR _ _ (.run _ eD rfl (IP.after rfl rfl (Fr.of_ext x1) ⟨p3,fg,fcap,qs,q3,hm3,s3.mb,s3.rb,h1.fx s3⟩))
end
end Go.Proofs.YtgkkecladbmjkaaGreatDoor
namespace Go.Vc
theorem yxA {P:Program} {w:Ω} {S:Ω->Prop} {L:O->Prop} {t x:TypeId} {v:O} {n sz:Nat} {cs l:List O} {k:IntKind} {i:Int} (h:XA P t sz) (ht:∃ d z by_,P.underlying x=some d/\oC d=true/\Go.Vc.cV P x z sz by_) (hs0:aB w v sz n cs) (hs:∀ w',S w'->aB w' v sz n cs) (h0:0<=i) (h1:i < n)
  (hl:(cs.drop (i.toNat*sz)).take sz=l) (hlen:l.length=sz) (hk:L (.agg l.toArray)) :
  aD P S (Instr.indexAt t v (.int k i)) λp=>aD P S (Instr.loadAt x p) L:=by
 obtain ⟨e,z,b',hte,hi⟩:=h;obtain ⟨d,z',by_,h2,h3,h4⟩:=ht;obtain ⟨b,off,cap,rfl,_⟩:=hs0.there (by omega);refine aD.ok (λw' _=>gE hte hi h0 h1) (aD.ok (λw' hw=>kF h2 h3 h4 hlen λj hj=>?_) hk);have hj':j < l.length:=by omega
 obtain ⟨u,hu⟩:∃ u,l[j]?=some u:=⟨_,List.getElem?_eq_getElem hj'⟩;rw [hu];rcases (hs w' hw).2 with ⟨he,_⟩|⟨b2,off2,cap2,he,_,_,hc2⟩
 ·cases he
 ·cases he
  have hcu:cs[i.toNat*sz+j]?=some u:=by
   rw [<- hl,List.getElem?_take,if_pos (by omega),List.getElem?_drop] at hu;exact hu
  rw [Nat.add_assoc];exact hc2 _ _ hcu
end Go.Vc
namespace Go.Proofs.YtgkkecladbmjkaaGreatDoor
open Tryz
open Go.Vc Go.Tc
section
variable {l:List bF} {X0:Nat->Prop} {p p1:iY} {fg fcap:Nat} {qs:List FP} {q q1:FP} {m:PM} {w w1 w':Ω}
theorem RE {m:gU} {pc:Nat} (h:pc < m.code.length):m.code[pc]?=some (m.ins pc):=by
 unfold gU.ins;rw [List.getD_eq_getElem?_getD,List.getElem?_eq_getElem h];rfl
theorem aLt {n:Nat} {c:Prop} [Decidable c] {a b:DL} (ha:a.2.2.tr.length<=n) (hb:b.2.2.tr.length<=n):(if c then a else b).2.2.tr.length<=n:=by split<;>assumption
theorem BL {s:PS} {who:Int} {x:gP} {t:List Int}:(dK s who x t).2.2.tr.length<=s.tr.length+2:=by
 unfold dK rL rK kN rT rU rS mR mI gQ
 repeat' (with_reducible apply aLt)
 all_goals simp [PS.ev,PS.ev2]
theorem aBa (l:List bF) (fs:List gV) (f:gV) (fu:Nat) (r:Rm) (x:gP) (t u:List Int):(tG l fs f fu r x t u).r.ps.tr.length<=r.ps.tr.length+3:=by
 have e1:∀ (r:Rm) (s:Int),(r.ends s).ps.tr.length=r.ps.tr.length+1:=λr s=>by simp [Rm.ends,Rm.ev,PS.ev]
 have hs:=BL (s:=r.ps) (who:=f.who) (x:=x) (t:=t);unfold tG;split
 ·cases fs with
  | nil=>show (r.ends 36864).ps.tr.length<=_;rw [e1];omega
  | cons g gs=>show r.ps.tr.length<=_;omega
 split
 ·split
  ·show (r.ends 28424).ps.tr.length<=_;rw [e1];omega
  ·split
   ·show (r.ends 28422).ps.tr.length<=_;rw [e1];omega
   ·show r.ps.tr.length<=_;omega
 split
 ·split
  ·show (dK r.ps f.who x t).2.2.tr.length<=_;omega
  ·show (Rm.ends _ _).ps.tr.length<=_;rw [e1];show (dK r.ps f.who x t).2.2.tr.length+1<=_;omega
 ·show r.ps.tr.length<=_;omega
theorem stW {f:gV} {r:Rm} {X:Nat->Prop} {sl:O} {fu st:Int} (h:Wh l p1 q1 f r X sl fu st w) (hp:p1.mb=p.mb) {R:O->Ω->Prop} (hR:R (i64 st) w) :
  Go.Vc.aI (pm p)/\V prog (Instr.fieldAt 109 (pm p) 4) w λa w1=>V prog (Instr.loadAt 3 a) w1 λb w2=>R b w2:=by
 have e:pm p=.pointer (some ⟨p1.mb,0,none⟩):=by unfold pm;rw [hp]
 rw [e];exact ⟨.inl ⟨_,rfl⟩,gC eQ aL h.box rfl hR⟩
theorem aJn (hT:nK l) (hll:l.length<=1000) (h:cW l X0 p fg fcap qs q m w) (hok:m.ok l) (htr:m.r.ps.tr.length<=90000) (hfu:m.fuel<=1000000) :
  aC prog 19 #[pm p] w λrv w'=>(∃ m',fR l m=.run m'/\rv=i64 0/\IP l X0 p m' w w')\/(∃ s d fu r,fR l m=.fin s d fu r/\s≠0/\rv=i64 s/\EGo l X0 p ⟨s,d,fu,r⟩ w w'):=by
 have hA:=hok.top.at_ hT;have hrt:=hok.top.rt hT;have hpc:=hA.pc;have hc120:=hrt.2.1.2.2.2.1.2;have hm8:m.f.mth<=1000:=by have:=hok.top.mth;have:=hrt.1.2.2.1.1.2;omega
 apply aRb;suffices key:∀ R:O->Ω->Prop,(∀ rv w',((∃ m',fR l m=.run m'/\rv=i64 0/\IP l X0 p m' w w')\/(∃ s d fu r,fR l m=.fin s d fu r/\s≠0/\rv=i64 s/\EGo l X0 p ⟨s,d,fu,r⟩ w w'))->R rv w')->FZ (pm p) w R from key _ λrv w' h=>h;intro R hR;unfold FZ;refine ⟨.inl ⟨_,rfl⟩,?_⟩;refine gC eQ aL h.wh.box rfl (aS.2 ?_);simp only [ne_eq,not_true_eq_false,decide_false,aA];refine ⟨.inl ⟨_,rfl⟩,?_⟩;refine gC eA aL h.wh.box rfl (aF.2 (aK (λh0=>?_) λh0=>?_))
 ·have h0:m.fuel=0:=by omega
  have eS:fR l m=.fin 28423 (m.fs.length+1) 0 (m.r.ends 28423):=by unfold fR;rw [if_pos h0]
  refine (aNo h.wh (by omega) (s:=28423)).mono λ_ w2 ⟨p2,q2,h2,s2⟩=>?_;refine stW h2 s2.mb (hR _ _ (.inr ⟨_,_,_,_,eS,by decide,rfl,p2,⟨q2,m.f,BX X0 fg qs,some ⟨fg,0,none⟩,fcap,?_,λi hi=>.inl hi⟩,s2.mb,s2.rb,h.fx s2⟩));rw [h0,h.len] at h2;exact h2
 have h0:¬ m.fuel=0:=by omega
 refine ⟨.inl ⟨_,rfl⟩,?_⟩;refine gC eA aL h.wh.box rfl (jV.2 ?_);rw [show IntKind.i64.wrap (((m.fuel:Nat):Int) - 1)=((m.fuel - 1:Nat):Int) from by rw [aX (by omega)];omega];refine ⟨.inl ⟨_,rfl⟩,?_⟩;refine OD eA ?_;refine kM fK h.wh.box (show 3 < 5 by decide) rfl ?_;obtain ⟨p1,q1,h1,s1⟩:=h.topGo (h.wh.cell (j:=3) (u:=i64 ((m.fuel - 1:Nat):Int)) (sl':=.slice (some ⟨fg,0,none⟩) (qs.length+1) fcap) (fu':=((m.fuel - 1:Nat):Int)) (st':=0) (by decide) rfl);have e1:pm p=pm p1:=s1.pm.symm;rw [e1];have F1:=h.fx s1;generalize w.setCell ⟨p.mb,0+3,none⟩ (i64 ((m.fuel - 1:Nat):Int))=w1 at *;refine (aKx h1 hok.dep).mono λrv w2 ⟨hrv,x2⟩=>?_;subst hrv;have h2:=h1.ext x2;have D2:aG w2 w2.drew:=(aG.refl _).drew;refine aH.mk' (λw'=>aG w2 w') D2 ⟨.inl ⟨_,rfl⟩,?_⟩;refine yFF gA iH iF (λw' hw=>h2.wh.frm.box.ext hw) (u:=q1.cv) rfl ⟨.inl ⟨_,rfl⟩,?_⟩;refine lE cI aL (λw' hw=>h2.wh.frm.box.ext hw) rfl ?_;have hcode:=aB.of_own h2.wh.frm.code;refine yxA lL pR hcode (λw' hw=>hcode.ext hw) (by omega) (show ((m.f.pc:Nat):Int) < (((m.f.me l).code.length:Nat):Int) by omega) (l:=[i64 (m.f.ins l).op,i64 (m.f.ins l).a,i64 (m.f.ins l).b]) (by rw [Int.toNat_natCast];exact pI (RE hpc)) rfl ?_;refine MA nZ λw4 hz x4=>?_;refine ⟨D2.trans x4,?_⟩;refine GF nZ hz (l:=[i64 (m.f.ins l).op,i64 (m.f.ins l).a,i64 (m.f.ins l).b]) rfl rfl rfl rfl λw5 h5b hch=>?_
 have x25:aG w2 w5:=D2.trans (hch.ext _ x4 (Nat.le_refl _));have h5:=h2.ext x25;have hbn:¬ WM p1 q1 w2.drew.heap.size:=λhm=>by have:=h2.wh.wm_lt _ hm;have:=D2.size;omega
 have D5:aG w5 w5.drew:=(aG.refl _).drew;refine aH.mk' (SG l p1 q1 m.f (BX X0 fg qs) (.slice (some ⟨fg,0,none⟩) (qs.length+1) fcap) ((m.fuel - 1:Nat):Int) 0 w5) (h5.wh.sg D5) ⟨.inl ⟨_,rfl⟩,?_⟩;refine yMa (λ_ h=>h) eB sH (u:=rR p1.rp) rfl ⟨.inl ⟨_,rfl⟩,?_⟩;refine yFr (λ_ h=>h) cS aL (by decide) (u:=i64 (m.f.who:Int)) rfl ⟨.inl ⟨_,rfl⟩,?_⟩;refine yFr (λ_ h=>h) fH aL (by decide) (u:=i64 (m.f.mth:Int)) rfl ?_;refine aD.ok (λw' _=>GY) ⟨.inl ⟨_,rfl⟩,?_⟩;refine yFr (λ_ h=>h) cI aL (by decide) (u:=i64 (m.f.pc:Int)) rfl ?_;refine aD.ok (λw' _=>nW) ?_;rw [jD (n:=1000*((m.f.mth:Nat):Int)) (by omega) (by omega),jD (n:=1000*((m.f.mth:Nat):Int)+((m.f.pc:Nat):Int)) (by omega) (by omega)];refine dT (λw' hw=>(SG.blk h5.wh h5b hbn hw).boxed) bK aL rfl ?_;refine (aTr (h5.ext D5).wh (by show m.r.ps.tr.length<=_;omega) (e:=iO l m.f)).mono λ_ w6 g=>?_;have g:=iC.of_ext D5 g;refine ⟨g.sg,?_⟩;have hb6:=SG.blk h5.wh h5b hbn g.sg;obtain ⟨p6,q6,h6,s6⟩:=h5.topGo (fu':=m.fuel - 1) g;have hok6:PM.ok l ⟨m.fs,m.f,m.fuel - 1,m.r.ev (iO l m.f)⟩:=⟨hok.top,hok.ch,hok.dep,hok.fd⟩;refine qO hb6.boxed pR rfl ?_;rw [<- s6.pm,<- s6.pf];refine (doW hT hll h6 hok6 (by show (m.r.ps.tr++[_]).length<=_;rw [List.length_append];simp;omega)).mono λrv w7 hd=>?_;have F06:Fr (λi=>¬ X0 i) w w6:=(F1.trans (Fr.of_ext (S:=λi=>¬ X0 i) (x2.trans x25)) λ_ _ h=>h).trans (h5.fx s6) λ_ _ h=>h
 have emb:p6.mb=p.mb:=s6.mb.trans s1.mb;have erb:p6.rp.rb=p.rp.rb:=s6.rb.trans s1.rb;have eS:fR l m=tG l m.fs m.f (m.fuel - 1) (m.r.ev (iO l m.f)) (m.f.ins l) (hY (bB l m.f) m.f.st) (jC (bB l m.f) m.f.st):=by unfold fR;rw [if_neg h0]
 cases hd with
 | run m' he hrv g=>
  subst hrv;refine aS.2 ?_;simp only [show ¬ ((36864:Int)≠36864) by decide,decide_false,aA];obtain ⟨p7,a7,b7,c7,q7,h7,m7,r7,F7⟩:=g;refine stW h7.wh m7 (hR _ _ (.inl ⟨m',eS.trans he,rfl,p7,a7,b7,c7,q7,h7,m7.trans emb,r7.trans erb,F06.trans F7 λ_ _ h=>h⟩))
 | fin s d fu r he hrv g=>
  subst hrv;refine aS.2 ?_;simp only [show ¬ ((36864:Int)≠36864) by decide,decide_false,aA];obtain ⟨p7,⟨q7,f7,X7,a7,c7,h7,hX7⟩,m7,r7,F7⟩:=g
  have hs0:s≠0:=by
   intro hs;have:=(IE.2 s d fu r he)
   have hne:∀ (o:Out),tG l m.fs m.f (m.fuel - 1) (m.r.ev (iO l m.f)) (m.f.ins l) (hY (bB l m.f) m.f.st) (jC (bB l m.f) m.f.st)=o->∀ s d fu r,o=.fin s d fu r->s≠0:=by
    intro o ho s d fu r hos;subst hos;unfold tG at ho;split at ho
    ·cases hfs:m.fs with
     | nil=>rw [hfs] at ho;cases ho;decide
     | cons _ _=>rw [hfs] at ho;cases ho
    split at ho
    ·split at ho
     ·cases ho;decide
     ·split at ho
      ·cases ho;decide
      ·cases ho
    split at ho
    ·split at ho
     ·cases ho
     ·cases ho;exact yH
    ·cases ho
   exact hne _ he _ _ _ _ rfl hs
  refine stW h7 m7 (hR _ _ (.inr ⟨s,d,fu,r,eS.trans he,hs0,rfl,p7,⟨q7,f7,X7,a7,c7,h7,hX7⟩,m7.trans emb,r7.trans erb,F06.trans F7 λ_ _ h=>h⟩))
 | bad s r f' he hs hs0 hrv g=>
  subst hrv;refine aS.2 ?_;simp only [show s≠36864 from hs,ne_eq,not_false_eq_true,decide_true,aE]
  have F7:Fr (λi=>¬ X0 i) w6 w7:=by
   obtain ⟨p7,q7,h7,s7⟩:=g;exact h6.fx s7
  have htr7:r.ps.tr.length<=100000:=by
   have hp:=aBa l m.fs m.f (m.fuel - 1) (m.r.ev (iO l m.f)) (m.f.ins l) (hY (bB l m.f) m.f.st) (jC (bB l m.f) m.f.st);rw [he] at hp;have h1:(r.ends s).ps.tr.length=r.ps.tr.length+1:=by simp [Rm.ends,Rm.ev,PS.ev]
   have h2:(m.r.ev (iO l m.f)).ps.tr.length=m.r.ps.tr.length+1:=by simp [Rm.ev,PS.ev]
   have:(r.ends s).ps.tr.length<=(m.r.ev (iO l m.f)).ps.tr.length+3:=hp;omega
  obtain ⟨p7,q7,h7,s7⟩:=g;rw [<- s7.pm];refine (aNo h7 htr7 (s:=s)).mono λ_ w8 ⟨p8,q8,h8,s8⟩=>?_;have F8:Fr (λi=>¬ X0 i) w7 w8:=(kK.fx h7 s8).mono λi hn hx=>hn (.inl hx);refine stW h8 s8.mb (hR _ _ (.inr ⟨s,_,_,_,eS.trans he,hs0,rfl,p8,⟨q8,f',BX X0 fg qs,some ⟨fg,0,none⟩,fcap,?_,λi hi=>.inl hi⟩,s8.mb.trans (s7.mb.trans emb),s8.rb.trans (s7.rb.trans erb),(F06.trans F7 λ_ _ h=>h).trans F8 λ_ _ h=>h⟩));have:m.fs.length+1=qs.length+1:=by rw [h.len]
  show Wh l p8 q8 f' (r.ends s) (BX X0 fg qs) (.slice (some ⟨fg,0,none⟩) (m.fs.length+1) fcap) ((m.fuel - 1:Nat):Int) s w8;rw [this];exact h8
end
section
variable {l:List bF} {X0:Nat->Prop} {p p1:iY} {fg fcap:Nat} {qs:List FP} {q q1:FP} {m:PM} {w w1 w':Ω}
def RT (w:Ω) (b o:Nat):Int:=match w.cell? ⟨b,o,none⟩ with
 | some v=>RowKit.intOf v
 | none=>0
theorem zQ {w:Ω} {b o:Nat} {n:Int} (h:w.cell? ⟨b,o,none⟩=some (i64 n)):RT w b o=n:=by unfold RT;rw [h];rfl
def rE (mb:Nat) (w:Ω):Nat:=if RT w mb 4=0 then (RT w mb 3).toNat+1 else 0
theorem BM {f:gV} {r:Rm} {X:Nat->Prop} {sl:O} {fu:Nat} (h:Wh l p q f r X sl fu 0 w):rE p.mb w=fu+1:=by
 unfold rE;have h4:=h.box.cell (j:=4) rfl;have h3:=h.box.cell (j:=3) rfl;rw [Nat.zero_add] at h4 h3;rw [zQ h4,if_pos rfl,zQ h3];rfl
theorem UW {f:gV} {r:Rm} {X:Nat->Prop} {sl:O} {fu s:Int} (h:Wh l p q f r X sl fu s w) (hs:s≠0):rE p.mb w=0:=by
 unfold rE;have h4:=h.box.cell (j:=4) rfl;rw [Nat.zero_add] at h4;rw [zQ h4,if_neg hs]
def Bnd (m:PM):Prop:=m.r.ps.tr.length+5*m.fuel<=80000
theorem PT (l:List bF) (m:PM):(fR l m).r.ps.tr.length<=m.r.ps.tr.length+4:=by
 unfold fR;split
 ·show (m.r.ends 28423).ps.tr.length<=_;simp [Rm.ends,Rm.ev,PS.ev]
 ·have:=aBa l m.fs m.f (m.fuel - 1) (m.r.ev (iO l m.f)) (m.f.ins l) (hY (bB l m.f) m.f.st) (jC (bB l m.f) m.f.st);have h2:(m.r.ev (iO l m.f)).ps.tr.length=m.r.ps.tr.length+1:=by simp [Rm.ev,PS.ev]
  omega
theorem GL {l:List bF} {m m':PM} (h:fR l m=.run m') (hb:Bnd m):Bnd m':=by
 have hf:=(tX h).1;have:=PT l m;rw [h] at this;have this:m'.r.ps.tr.length<=m.r.ps.tr.length+4:=this;unfold Bnd at *;omega
theorem aVe (hT:nK l) (hll:l.length<=1000) (h:cW l X0 p fg fcap qs q m w) (hok:m.ok l) (hb:Bnd m) :
  aC prog 20 #[pm p] w λrv w'=>∃ e,GE l m e/\e.s≠0/\rv=i64 e.s/\EGo l X0 p e w w':=by
 apply aRa;unfold TX;refine ⟨λw'=>(∃ m',(∀ e,GE l m' e->GE l m e)/\m'.ok l/\Bnd m'/\IP l X0 p m' w w')\/(∃ e,GE l m e/\e.s≠0/\EGo l X0 p e w w'),λw'=>rE p.mb w',.inl ⟨m,λ_ h=>h,hok,hb,h.go⟩,?_⟩;rintro w1 (⟨m1,he1,hok1,hb1,p1,a1,b1,c1,q1,h1,mb1,rb1,F1⟩|⟨e,he,hs,p1,⟨q1,f1,X1,a1,c1,h1,hX1⟩,mb1,rb1,F1⟩) _
 ·refine stW h1.wh mb1 (aF.2 ?_);simp only [decide_true,aE];have e1:pm p=pm p1:=by unfold pm;rw [mb1]
  rw [e1];have mu1:rE p.mb w1=m1.fuel+1:=by rw [<- mb1];exact BM h1.wh
  refine (aJn hT hll h1 hok1 (by unfold Bnd at hb1;omega) (by unfold Bnd at hb1;omega)).mono λrv w2 hstep=>?_;rcases hstep with ⟨m2,hs,_,p2,a2,b2,c2,q2,h2,mb2,rb2,F2⟩|⟨s,d,fu,r,hs,hs0,_,p2,⟨q2,f2,X2,a2,c2,h2,hX2⟩,mb2,rb2,F2⟩
  ·refine ⟨.inl ⟨m2,λe he=>he1 e (.go hs he),yC hT hok1 hs,GL hs hb1,p2,a2,b2,c2,q2,h2,mb2.trans mb1,rb2.trans rb1,F1.trans F2 λ_ _ h=>h⟩,?_⟩;have mu2:rE p.mb w2=m2.fuel+1:=by rw [<- mb1,<- mb2];exact BM h2.wh
   have:=(tX hs).1;show rE p.mb w2 < rE p.mb w1;rw [mu1,mu2];omega
  ·refine ⟨.inr ⟨⟨s,d,fu,r⟩,he1 _ (.fin hs),hs0,p2,⟨q2,f2,X2,a2,c2,h2,hX2⟩,mb2.trans mb1,rb2.trans rb1,F1.trans F2 λ_ _ h=>h⟩,?_⟩;have mu2:rE p.mb w2=0:=by rw [<- mb1,<- mb2];exact UW h2 hs0
   show rE p.mb w2 < rE p.mb w1;rw [mu1,mu2];omega
 ·refine stW h1 mb1 (aF.2 ?_);simp only [show ¬ e.s=0 from hs,decide_false,aA];refine stW h1 mb1 ⟨e,he,hs,rfl,p1,⟨q1,f1,X1,a1,c1,h1,hX1⟩,mb1,rb1,F1⟩
theorem PU {f:gV} {r:Rm} {X:Nat->Prop} {sl:O} {fu st:Int} (h:Wh l p q f r X sl fu st w):aC prog 15 #[pm p] w λrv w'=>rv=i64 st/\w'=w:=by
 apply aRe;unfold UD;exact stW h rfl ⟨rfl,rfl⟩
theorem aAs {f:gV} {r:Rm} {X:Nat->Prop} {sl:O} {fu st:Int} (h:Wh l p q f r X sl fu st w):aC prog 18 #[pm p] w λrv w'=>rv=i64 fu/\w'=w:=by
 apply aRc;unfold TZ;exact ⟨.inl ⟨_,rfl⟩,gC eA aL h.box rfl ⟨rfl,rfl⟩⟩
theorem aBb {f:gV} {r:Rm} {X:Nat->Prop} {a:Option Addr} {n c:Nat} {fu st:Int} (h:Wh l p q f r X (.slice a n c) fu st w):aC prog 17 #[pm p] w λrv w'=>rv=i64 (n:Int)/\w'=w:=by
 apply aRd;unfold UB;exact ⟨.inl ⟨_,rfl⟩,gC cA gJ h.box rfl (vM.2 ⟨rfl,rfl⟩)⟩
theorem aKw {f:gV} {r:Rm} {X:Nat->Prop} {sl:O} {fu st:Int} (h:Wh l p q f r X sl fu st w):aC prog 21 #[pm p] w λrv w'=>rv=rR p.rp/\w'=w:=by
 apply aQz;unfold TU;exact ⟨.inl ⟨_,rfl⟩,gC eB sH h.box rfl ⟨rfl,rfl⟩⟩
theorem aDf (h:cW l X0 p fg fcap qs q m w) (hd:m.fs.length < 8) (h8:m.f.st.length<=8):aC prog 14 #[pm p] w λrv w'=>∃ sv,rv=.tuple #[i64 (m.f.who:Int),i64 (m.f.mth:Int),i64 (m.f.pc:Int),sv]/\w'.ownsRow w.heap.size 21 1 sv m.f.st.length (m.f.st.map i32)/\aG w w':=by
 apply aCm;unfold GA;refine stW h.wh rfl (aS.2 ?_);simp only [ne_eq,not_true_eq_false,decide_false,aA];refine (aKx h hd).mono λrv w1 ⟨hrv,x1⟩=>?_;subst hrv;have h1:=h.ext x1;have D1:aG w1 w1.drew:=(aG.refl _).drew;refine aH.mk' (λw'=>aG w1 w') D1 ⟨.inl ⟨_,rfl⟩,?_⟩;refine lE cS aL (λw' hw=>h1.wh.frm.box.ext hw) rfl ⟨.inl ⟨_,rfl⟩,?_⟩;refine lE fH aL (λw' hw=>h1.wh.frm.box.ext hw) rfl ⟨.inl ⟨_,rfl⟩,?_⟩;refine lE cI aL (λw' hw=>h1.wh.frm.box.ext hw) rfl ⟨.inl ⟨_,rfl⟩,?_⟩;refine lE cY gX (λw' hw=>h1.wh.frm.box.ext hw) rfl ?_;have hD:=(h1.ext D1).wh.frm.st;refine aC.mono (R:=λr w'=>w'.ownsRow w1.drew.heap.size 21 1 r m.f.st.length (m.f.st.map i32)/\aG w1.drew w') ?_ λr w2 ⟨hr,x2⟩=>?_
 ·apply aCh;unfold FN;exact EO (R:=λr w'=>w'.ownsRow w1.drew.heap.size 21 1 r m.f.st.length (m.f.st.map i32)/\aG w1.drew w') uQ (aB.of_own hD) (List.all_eq_true.2 λv hv=>by obtain ⟨x,_,rfl⟩:=List.mem_map.1 hv;rfl) (by omega) λv' w' g1 g2=>⟨g1,g2⟩
 have s1:=x1.size;have s2:=D1.size;exact ⟨D1.trans x2,r,rfl,aR hr (by omega),(x1.trans D1).trans x2⟩
theorem aKy {f:gV} {r:Rm} {X:Nat->Prop} {sl:O} {fu st:Int} (h:Wh l p q f r X sl fu st w) (hs:st≠0):aC prog 14 #[pm p] w λrv w'=>rv=.tuple #[i64 (-1),i64 (-1),i64 (-1),.slice none 0 0]/\w'=w:=by
 apply aCm;unfold GA;refine stW h rfl (aS.2 ?_);simp only [show st≠0 from hs,ne_eq,not_false_eq_true,decide_true,aE];exact ⟨by first|rfl|trivial,by first|rfl|trivial⟩
end
def XD (p:iY) (X:Nat->Prop):Lb->Nat->Prop
 | .rm,i=>kE p.rp i
 | .im,i=>p.IB i
 | .fo,i=>i=p.fo
 | .fd,i=>FdM p.vs i
 | .ex,i=>X i
 | _,_=>False
structure RmS (l:List bF) (X0:Nat->Prop) (p:iY) (r:Rm) (w:Ω):Prop where
 room:lP p.rp w
 rps:p.rp.size=r.ps.size/\p.rp.ar.map pa=r.ps.ar/\p.rp.tp=r.ps.tp/\p.rp.ts=r.ps.ts
 fld:tK w p.rp.fv p.fo p.vs r.fd
 img:tM p.IB w λw'=>hU w' p.rp.iv l
 sep:Sep (XD p X0) w.heap.size
section
variable {l:List bF} {X0:Nat->Prop} {p:iY} {r:Rm} {w w':Ω}
theorem RmS.fr {S:Nat->Prop} (h:RmS l X0 p r w) (g:Fr S w w') (hn:∀ a i,a≠Lb.ex->XD p X0 a i->¬ S i):RmS l X0 p r w':=
 ⟨h.room.fr g λi hi=>hn .rm i (by intro e;cases e) hi,h.rps,h.fld.fr g (hn .fo _ (by intro e;cases e) rfl) λi hi=>hn .fd i (by intro e;cases e) hi,h.img.fr g λi hi=>hn .im i (by intro e;cases e) hi,h.sep.step g.size .ex λa i ha=>.inl ha⟩
theorem RmS.ext (h:RmS l X0 p r w) (hx:aG w w'):RmS l X0 p r w':=h.fr (Fr.of_ext (S:=λ_=>False) hx) λ_ _ _ _ h=>h
def tY (l:List bF) (who fuel:Nat) (r:Rm):PM:=⟨[],jI l who 0 [],fuel,{ r with ps:={ r.ps with tr:=[] } }⟩
theorem UO (hT:nK l) {who fuel:Nat} (hw:who < l.length) (hfd:EU l r.fd):(tY l who fuel r).ok l:=by
 have hi:=(hT _ (fJ hw)).1.2.2.1;have h0:((aP l who).meth 0).params=[]:=hi.2.2.1;exact ⟨CM hT hw (by have:=hi.1.1;omega) vJ (by show (0:Nat)=((aP l who).meth ((0:Nat):Int)).params.length;rw [show (((0:Nat):Int))=0 from rfl,h0];first|rfl|done),trivial,by show 0 < 8;decide,hfd⟩
theorem aNv (h:RmS l X0 p r w):aC prog 45 #[kZ p.rp] w λrv w'=>rv=i64 (l.length:Int)/\w'=w:=by
 apply aCi;unfold FO;exact ⟨.inl ⟨_,rfl⟩,gC cH iK h.room.room rfl (wQ iD h.img.now ⟨rfl,rfl⟩)⟩
theorem XT:aC prog 46 #[] w λrv w'=>(rv=.pointer (some ⟨w.heap.size,0,none⟩)/\bD w' w.heap.size [.slice none 0 0] 125)/\aG w w':=by
 apply aQj;unfold TJ;refine bld aOm [] rfl rfl ?_;exact tH λw1 hb x1=>⟨⟨rfl,hb⟩,x1⟩
theorem aVm (hT:nK l) (h:RmS l X0 p r w) {who fuel:Nat} (hw:who < l.length) (hf:fuel<=100000) :
  aC prog 13 #[kZ p.rp,i64 (who:Int),i64 (fuel:Int)] w λrv w'=>∃ p' fg fcap q,rv=.tuple #[pm p',i64 0]/\cW l X0 p' fg fcap [] q (tY l who fuel r) w'/\p'.rp.rb=p.rp.rb/\aG w w'/\w.heap.size<=fg/\∀ a i,a≠Lb.ex->WR p' q (λ_=>False) a i->(∃ b,b≠Lb.ex/\XD p X0 b i)\/w.heap.size<=i:=by
 have hi:=(hT _ (fJ hw)).1.2.2.1;have h0:((aP l who).meth ((0:Nat):Int)).params=[]:=hi.2.2.1;apply aRf;unfold UE;refine V.ok (gZ underlying26) ?_;simp only [aV,dJ,aJ,reduceIte,Bool.false_eq_true];simp only [show ¬ ((fuel:Int) < 0) by omega,show ¬ ((fuel:Int) > 100000) by omega,show ¬ ((who:Int) < 0) by omega,aV,dR,dJ,aJ,reduceIte,Bool.false_eq_true,decide_false];refine (aNv h).mono λrv w1 ⟨hrv,hw1⟩=>?_;subst hrv;have hw1:=hw1.symm;subst hw1;simp only [show ¬ ((who:Int)>=(l.length:Int)) by omega,kU,aA,decide_false];refine XT.mono λrv w1 ⟨⟨hrv,hb1⟩,x1⟩=>?_;subst hrv;refine bld aOn [(0,kZ p.rp),(1,.pointer (some ⟨w.heap.size,0,none⟩)),(3,i64 (fuel:Int))] rfl rfl ?_;refine tH λw2 hb2 x2=>?_;have hb2:bD w2 w1.heap.size [kZ p.rp,.pointer (some ⟨w.heap.size,0,none⟩),.slice none 0 0,i64 (fuel:Int),i64 0] 109:=hb2;have x02:=x1.trans x2;have h2:=h.ext x02;have hb12:=hb1.ext x2;have l1:=hb1.lt;have l2:=hb2.lt;have s1:=x1.size;have s2:=x2.size;refine (aAz hT h2.room.room h2.img.now (n:=0) (ptrs:=[]) (sl:=.slice none 0 0) (fu:=(fuel:Int)) (st:=0) (tbv:=.pointer (some ⟨w.heap.size,0,none⟩)) hb2.seg (World.ownsRow_nil _ _ _ _) (by decide) (by intro e;cases e) hw (by have:=hi.1.1;omega) (mth:=0) (pv:=.slice none 0 0) (t:=[]) (aB.nil _ _) (by rw [h0];first|rfl|done)).mono λrv w3 ⟨sl',qn,hq,hnew,hb3,hr3,hsl3,F3⟩=>?_
 obtain ⟨fg,fcap,rfl⟩:=nA hr3 (by decide);have F3':Fr (λi=>i=w1.heap.size) w2 w3:=F3.mono λi hi=>hi.elim id λh=>(by cases h);have s3:=F3.size;have old:∀ {a:Lb} {i:Nat},XD p X0 a i->i < w.heap.size:=λhi=>h.sep.lt _ _ hi;have h3:=h2.fr F3' λa i _ hi he=>by have:=old hi;omega
 have hb13:=F3'.blk hb12 (by omega);have hR:=h3.room.trace hb13 (λhm=>by have:=old (a:=.rm) hm;omega);have x03:aG w w3:=F3'.ext x02 λi hi=>by omega
 have hfg:w2.heap.size<=fg/\¬ rI qn fg:=by
  rcases hsl3 fg rfl with h|h
  ·cases h
  ·exact h
 have hfl:=(hr3.lt fg rfl).2;have hql:=λi hi=>hq.hi i hi;refine ⟨{ p with rp:={ p.rp with tb:=w.heap.size,tv:=.slice none 0 0,tr:=[] },mb:=w1.heap.size },fg,fcap,qn,rfl,⟨⟨hR,?_,h3.fld,h3.img,hb3,hq,⟨λa b i ha hb=>?_,λa i ha=>?_⟩⟩,?_,trivial,List.Pairwise.nil,λa ha=>by simp at ha,λi hi=>⟨λhe=>?_,λa ha=>by simp at ha⟩⟩,rfl,x03,by omega,λa i ha hi=>?_⟩
 ·show (⟨p.rp.size,p.rp.ar.map pa,p.rp.tp,p.rp.ts,[]⟩:PS)=⟨r.ps.size,r.ps.ar,r.ps.tp,r.ps.ts,[]⟩;obtain ⟨e1,e2,e3,e4⟩:=h.rps;rw [e1,e2,e3,e4]
 ·have cls:∀ {a:Lb} {i:Nat},WR { p with rp:={ p.rp with tb:=w.heap.size,tv:=.slice none 0 0,tr:=[] },mb:=w1.heap.size } qn (BX X0 fg []) a i->(XD p X0 a i/\i < w.heap.size)\/(a=.rm/\i=w.heap.size)\/(a=.mb/\i=w1.heap.size)\/(a=.fr/\rI qn i/\w2.heap.size<=i)\/(a=.ex/\i=fg):=by
   intro a i hi;cases a with
   | rm=>
    rcases hi with hi|hi|hi
    ·exact .inl ⟨hi,old (a:=.rm) hi⟩
    ·exact .inr (.inl ⟨rfl,hi⟩)
    ·cases hi
   | mb=>exact .inr (.inr (.inl ⟨rfl,hi⟩))
   | fr=>exact .inr (.inr (.inr (.inl ⟨rfl,hi,hnew i hi⟩)))
   | ex=>
    rcases hi with hi|hi|⟨c,hc,_⟩
    ·exact .inl ⟨hi,old (a:=.ex) hi⟩
    ·exact .inr (.inr (.inr (.inr ⟨rfl,hi⟩)))
    ·simp at hc
   | im=>exact .inl ⟨hi,old (a:=.im) hi⟩
   | fo=>exact .inl ⟨hi,old (a:=.fo) hi⟩
   | fd=>exact .inl ⟨hi,old (a:=.fd) hi⟩
  rcases cls ha with ⟨ha,la⟩|⟨ea,ha⟩|⟨ea,ha⟩|⟨ea,ha,la⟩|⟨ea,ha⟩<;>rcases cls hb with ⟨hb,lb⟩|⟨eb,hb⟩|⟨eb,hb⟩|⟨eb,hb,lb⟩|⟨eb,hb⟩
  all_goals first|exact h.sep.dj a b i ha hb|(rw [ea,eb];done)|(exfalso;omega)|(exfalso;exact hfg.2 (hb▸ha))|(exfalso;exact hfg.2 (ha▸hb))
 ·cases a with
  | rm=>
   rcases ha with hi|hi|hi
   ·have:=old (a:=.rm) hi;omega
   ·have hi:i=w.heap.size:=hi;omega
   ·cases hi
  | mb=>have ha:i=w1.heap.size:=ha;omega
  | fr=>exact hql i ha
  | ex=>
   rcases ha with hi|hi|⟨c,hc,_⟩
   ·have:=old (a:=.ex) hi;omega
   ·rw [hi];exact hfl
   ·simp at hc
  | im=>have:=old (a:=.im) ha;omega
  | fo=>have:=old (a:=.fo) ha;omega
  | fd=>have:=old (a:=.fd) ha;omega
 ·exact hr3
 ·have:=old (a:=.ex) hi;omega
 ·cases a with
  | rm=>
   rcases hi with hi|hi|hi
   ·exact .inl ⟨.rm,(by intro e;cases e),hi⟩
   ·have hi:i=w.heap.size:=hi;exact .inr (by omega)
   ·cases hi
  | mb=>have hi:i=w1.heap.size:=hi;exact .inr (by omega)
  | fr=>have:=hnew i hi;exact .inr (by omega)
  | ex=>exact absurd rfl ha
  | im=>exact .inl ⟨.im,(by intro e;cases e),hi⟩
  | fo=>exact .inl ⟨.fo,(by intro e;cases e),hi⟩
  | fd=>exact .inl ⟨.fd,(by intro e;cases e),hi⟩
end
abbrev pt (b:Nat):O:=.pointer (some ⟨b,0,none⟩)
abbrev nl:O:=.slice none 0 0
def qP:List dB:=[⟨-1,3,0,false,.slice none 0 0,[]⟩,⟨-1,4,0,false,.slice none 0 0,[]⟩]
theorem sU:∀ a∈qP,a.dv=.slice none 0 0/\a.data=[]:=λa ha=>by
 simp only [qP,List.mem_cons,List.not_mem_nil,or_false] at ha;rcases ha with rfl|rfl<;>exact ⟨rfl,rfl⟩
theorem oB:∀ a∈qP,a.dv.ownBlock=none:=λa ha=>by rw [(sU a ha).1];rfl
theorem HY {w:Ω} {size:Int} (h1:64<=size) (h2:size<=4096):aC prog 73 #[i64 size] w λr w'=>(∃ hb,r=.tuple #[.pointer (some ⟨hb,0,none⟩),i64 0]/\w.heap.size < hb/\gT w' hb w.heap.size size w.heap.size 2 qP)/\aG w w':=by
 apply aPp;unfold SU;refine aV.2 ?_;simp only [show ¬ size < 64 by omega,dR,dJ,aJ,reduceIte,Bool.false_eq_true,decide_false];simp only [show ¬ size > 4096 by omega,aA,decide_false];refine bld pY [(0,i64 (-1)),(1,i64 3)] rfl rfl ?_;refine bld pY [(0,i64 (-1)),(1,i64 4)] rfl rfl ?_;refine V.ok (v:=.slice (some ⟨w.heap.size,0,none⟩) 2 2) (w':=w.alloc (.cells (jW qP).toArray 127)) (by kernel_rfl) ?_;have hab:bD (w.alloc (.cells (jW qP).toArray 127)) w.heap.size (jW qP) 127:=by unfold bD;rw [heap_alloc_new]
 have hx1:aG w (w.alloc (.cells (jW qP).toArray 127)):=(aG.refl w).alloc _;generalize w.alloc (.cells (jW qP).toArray 127)=w1 at hab hx1 ⊢;refine bld aOh [(0,i64 size),(1,.slice (some ⟨w.heap.size,0,none⟩) 2 2)] rfl rfl ?_;refine tH λw2 hhb x2=>?_;have hl:=hab.lt;have hl2:=hhb.lt;refine ⟨⟨_,rfl,by omega,⟨hhb,eC (hab.ext x2) rfl (Nat.le_refl _) (by unfold maxLen;decide),λa ha=>?_,λa ha=>?_,λi j a b x hi _ hx=>?_,λa ha=>?_,by omega,by decide,by omega,λa ha=>?_⟩⟩,hx1.trans x2⟩
 ·rw [(sU a ha).1,(sU a ha).2];exact ⟨rfl,.inl ⟨rfl,rfl⟩⟩
 ·rw [(sU a ha).2];exact Nat.zero_le _
 ·rw [oB a (List.mem_of_getElem? hi)] at hx;cases hx
 iterate 2
  ·rw [oB a ha];exact λh=>by cases h
theorem wO {w:Ω} {size:Int} (h1:64<=size) (h2:size<=4096):aC prog 33 #[i64 size] w λr w'=>(∃ rb hb,r=.tuple #[pt rb,i64 0]/\w.heap.size < hb/\hb < rb/\bD w' rb [pt hb,nl,nl,nl,nl] 134/\gT w' hb w.heap.size size w.heap.size 2 qP)/\aG w w':=by
 apply aQr;unfold TO;refine (HY h1 h2).mono λr w1 ⟨⟨hb,hr,hbw,hh⟩,x1⟩=>?_;subst hr;refine cL.2 (cK.2 (aS.2 ?_));simp only [ne_eq,not_true_eq_false,aA,decide_false];refine bld aOl [(0,.pointer (some ⟨hb,0,none⟩))] rfl rfl ?_;refine tH λw2 hrb x2=>?_;exact ⟨⟨_,hb,rfl,hbw,hh.heap.lt,hrb,hh.ext x2⟩,x1.trans x2⟩
theorem MZ {w:Ω} {size:Int}:aC prog 85 #[i64 size] w λr w'=>(∃ yb,r=pt yb/\w.heap.size < yb/\bD w' yb [i64 size,.slice (some ⟨w.heap.size,0,none⟩) 2 2] 156/\bD w' w.heap.size (jW qP) 127)/\aG w w':=by
 apply aPm;unfold SR;refine bld pY [(0,i64 (-1)),(1,i64 3)] rfl rfl ?_;refine bld pY [(0,i64 (-1)),(1,i64 4)] rfl rfl ?_;refine V.ok (v:=.slice (some ⟨w.heap.size,0,none⟩) 2 2) (w':=w.alloc (.cells (jW qP).toArray 127)) (by kernel_rfl) ?_;have hab:bD (w.alloc (.cells (jW qP).toArray 127)) w.heap.size (jW qP) 127:=by unfold bD;rw [heap_alloc_new]
 have hx1:aG w (w.alloc (.cells (jW qP).toArray 127)):=(aG.refl w).alloc _;generalize w.alloc (.cells (jW qP).toArray 127)=w1 at hab hx1 ⊢;refine bld aOi [(0,i64 size),(1,.slice (some ⟨w.heap.size,0,none⟩) 2 2)] rfl rfl ?_;refine tH λw2 hhb x2=>?_;exact ⟨⟨_,rfl,hab.lt,hhb,hab.ext x2⟩,hx1.trans x2⟩
theorem MY {w:Ω} {size:Int}:aC prog 40 #[i64 size] w λr w'=>(∃ xb yb,r=pt xb/\w.heap.size < yb/\yb < xb/\bD w' xb [pt yb,nl,nl,nl,nl] 139/\bD w' yb [i64 size,.slice (some ⟨w.heap.size,0,none⟩) 2 2] 156/\bD w' w.heap.size (jW qP) 127)/\aG w w':=by
 apply aQo;unfold TM;refine MZ.mono λr w1 ⟨⟨yb,hr,hyw,hy,ha⟩,x1⟩=>?_;subst hr;refine bld aOj [(0,pt yb)] rfl rfl ?_;refine tH λw2 hrb x2=>?_;exact ⟨⟨_,yb,rfl,hyw,hy.lt,hrb,hy.ext x2,ha.ext x2⟩,x1.trans x2⟩
def BR (p:iY):Lb->Nat->Prop
 | .rm,i=>kE p.rp i
 | .im,i=>p.IB i
 | .fo,i=>p.rp.fv.ownBlock=some i
 | .fd,i=>FdM p.vs i
 | .mb,i=>p.rp.iv.ownBlock=some i
 | _,_=>False
structure UJ (l:List bF) (p:iY) (fd:List (List Int)) (B:Nat) (w:Ω):Prop where
 room:lP p.rp w
 iv:∃ cs,w.ownsRow 0 46 5 p.rp.iv l.length cs/\∀ (k:Nat) i,l[k]?=some i->∃ pk:bP,(cs.drop (k*5)).take 5=pk.cells i/\tM p.IB w λw'=>iG w' pk i
 fv:w.ownsRow 0 37 1 p.rp.fv fd.length p.vs
 row:∀ (k:Nat) v d,p.vs[k]?=some v->fd[k]?=some d->w.ownsRow 0 21 1 v d.length (d.map i32)
 dj:∀ (j k:Nat) u v i,p.vs[j]?=some u->p.vs[k]?=some v->u.ownBlock=some i->v.ownBlock=some i->j=k
 sep:Sep (BR p) w.heap.size
 ge:∀ a i,BR p a i->B<=i
 hB:B<=w.heap.size
section
variable {l:List bF} {p:iY} {fd:List (List Int)} {B:Nat} {w w':Ω}
theorem UJ.ext (h:UJ l p fd B w) (hx:aG w w'):UJ l p fd B w':=by
 obtain ⟨cs,h1,h2⟩:=h.iv;refine ⟨h.room.ext hx,⟨cs,hx.own h1,λk i hk=>?_⟩,hx.own h.fv,λk v d hk hd=>hx.own (h.row k v d hk hd),h.dj,h.sep.step hx.size .ex λa i ha=>.inl ha,h.ge,Nat.le_trans h.hB hx.size⟩;obtain ⟨pk,h3,h4⟩:=h2 k i hk;exact ⟨pk,h3,h4.ext hx⟩
theorem CO {α:Type} {sz:Nat} {cs row:List O} {l:List α} {k:Nat} {x:α} (hl:cs.length=l.length*sz) (hk:k < l.length):((cs++row).drop (k*sz)).take sz=(cs.drop (k*sz)).take sz:=by
 have h1:k*sz+sz<=cs.length:=by
  have:=Nat.mul_le_mul_right sz (show k+1<=l.length by omega);rw [Nat.add_mul,Nat.one_mul] at this;omega
 rw [List.drop_append_of_le_length (by omega),List.take_append_of_le_length (by rw [List.length_drop];omega)]
theorem aKi {w:Ω} {p:bP} {i:bF} {K:O->Ω->Prop} (h1:∃ a n c,p.fv=.slice a n c) (h2:∃ a n c,p.iv=.slice a n c) (h3:∃ a n c,p.mv=.slice a n c) (h4:∃ a n c,p.xv=.slice a n c)
  (hk:∀ w1,bD w1 w.heap.size (p.cells i) 46->aG w w1->K (.slice (some ⟨w.heap.size,0,none⟩) 1 1) w1):V prog (Instr.buildSlice 24 1 #[(0,p.val i)]) w K:=by
 obtain ⟨fv,iv,mv,xv⟩:=p;obtain ⟨a1,n1,c1,rfl⟩:=h1;obtain ⟨a2,n2,c2,rfl⟩:=h2;obtain ⟨a3,n3,c3,rfl⟩:=h3;obtain ⟨a4,n4,c4,rfl⟩:=h4;refine V.ok (v:=.slice (some ⟨w.heap.size,0,none⟩) 1 1) (w':=w.alloc (.cells (bP.cells ⟨.slice a1 n1 c1,.slice a2 n2 c2,.slice a3 n3 c3,.slice a4 n4 c4⟩ i).toArray 46)) (by kernel_rfl) ?_;exact hk _ (by unfold bD;rw [heap_alloc_new]) ((aG.refl _).alloc _)
theorem qL.shapes {B:Nat} {p:bP} {i:bF} (h:qL B w p i):(∃ a n c,p.fv=.slice a n c)/\(∃ a n c,p.iv=.slice a n c)/\(∃ a n c,p.mv=.slice a n c)/\∃ a n c,p.xv=.slice a n c:=by
 obtain ⟨h1,h2,⟨c1,h3,_⟩,c2,h5,_⟩:=h;obtain ⟨a1,b1,e1⟩:=(aB.of_own h1).shape;obtain ⟨a2,b2,e2⟩:=(aB.of_own h3).shape;obtain ⟨a3,b3,e3⟩:=(aB.of_own h5).shape;obtain ⟨a4,b4,e4⟩:=(aB.of_own h2).shape;exact ⟨⟨_,_,_,e1⟩,⟨_,_,_,e2⟩,⟨_,_,_,e3⟩,_,_,_,e4⟩
theorem zS (h:UJ l p fd B w) (hl4:l.length < 4) (hfl:fd.length=l.length) {q:bP} {i:bF} (hA:iG w q i) (hi:i.right) :
  aC prog 35 #[kZ p.rp,q.val i] w λrv w'=>∃ p',rv=.tuple #[i64 (l.length:Int),.bool true]/\UJ (l++[i]) p' (fd++[List.replicate i.fields.length 0]) B w'/\p'.rp.rb=p.rp.rb/\p'.rp.ps=p.rp.ps/\Fr (λi=>∃ a,BR p a i) w w'/\∀ a i,BR p' a i->BR p a i\/w.heap.size<=i:=by
 have hfn:=hi.1.2;obtain ⟨cs,hiv,hrows⟩:=h.iv;have hBw:=h.hB;apply aQq;suffices key:∀ R:O->Ω->Prop,(∀ p' w',UJ (l++[i]) p' (fd++[List.replicate i.fields.length 0]) B w'->p'.rp.rb=p.rp.rb->p'.rp.ps=p.rp.ps->Fr (λi=>∃ a,BR p a i) w w'->(∀ a i,BR p' a i->BR p a i\/w.heap.size<=i)->R (.tuple #[i64 (l.length:Int),.bool true]) w')->FU (kZ p.rp) (q.val i) w R from key _ λp' w' h1 h2 h3 h4 h5=>⟨p',rfl,h1,h2,h3,h4,h5⟩;intro R hR;unfold FU;refine tH λw1 hb x1=>?_;have hb:bD w1 w.heap.size (q.cells i) 46:=hb;have lb:=hb.lt;have rm1:=h.room.room.ext x1;obtain ⟨ia,ic,hie⟩:=(aB.of_own hiv).shape;refine ⟨.inl ⟨_,rfl⟩,?_⟩;refine gC cH iK rm1 rfl (gG iD (aB.of_own (x1.own hiv)) (kU.2 ?_));simp only [show ¬ (((l.length:Nat):Int)>=4) by omega,decide_false,aA];have D1:aG w1 w1.drew:=(aG.refl _).drew;have rbl:p.rp.rb < w.heap.size:=h.room.room.lt;have oldl:∀ {a:Lb} {i:Nat},BR p a i->i < w.heap.size:=λhi=>h.sep.lt _ _ hi;have ivrb:p.rp.iv.ownBlock≠some p.rp.rb:=λhe=>by cases h.sep.dj .mb .rm _ he (.inl rfl)
 have fvrb:p.rp.fv.ownBlock≠some p.rp.rb:=λhe=>by cases h.sep.dj .fo .rm _ he (.inl rfl)
 refine aH.mk' (λw'=>Fr (λi=>p.rp.iv.ownBlock=some i) w1 w') (Fr.of_ext D1) ⟨.inl ⟨_,rfl⟩,?_⟩;refine lE cH iK (λw' hw=>hw.seg rm1 ivrb) rfl ?_;refine yA (λw' hw=>(hw.blk hb λhe=>by have:=oldl (a:=.mb) he;omega).boxed) kQ rfl ?_;refine (CY (hA.ext (x1.trans D1)) hi).mono λrv w2 ⟨p2,hrv,hO,x2⟩=>?_;subst hrv;have x12:=D1.trans x2;have s1:=x1.size;have sD:=D1.size;have s2:=x2.size;refine ⟨Fr.of_ext x12,?_⟩;obtain ⟨sh1,sh2,sh3,sh4⟩:=hO.shapes;refine aKi sh1 sh2 sh3 sh4 λw3 hb3 x3=>?_;have x13:=x12.trans x3;refine ⟨Fr.of_ext x13,?_⟩;have l3:=hb3.lt;have s3:=x3.size;have hiv3:=(x1.trans x13).own hiv;refine apZ underlying24 jT rfl (by omega) hiv3 (eC hb3 rfl (Nat.zero_le _) (by unfold maxLen;omega)) (by decide) hO.one (by omega) (by unfold maxLen;omega) (Nat.zero_le _) λg' cap' w4 ho4 hg4 hlies=>?_;have f4:Fr (λi=>p.rp.iv.ownBlock=some i) w3 w4:=Fr.of_grown hg4 λk hk=>hk;have f14:Fr (λi=>p.rp.iv.ownBlock=some i) w1 w4:=(Fr.of_ext (S:=λi=>p.rp.iv.ownBlock=some i) x13).trans f4 λ_ _ h=>h;refine ⟨f14,.inl ⟨_,rfl⟩,?_⟩;refine XK cH ?_;have rm4:=f14.seg rm1 ivrb;refine kM RI rm4 (show 1 < 5 by decide) rfl ?_;have f5:Fr (λi=>i=p.rp.rb) w4 (w4.setCell ⟨p.rp.rb,0+1,none⟩ (.slice (some ⟨g',0,none⟩) (l.length+1) cap')):=Fr.of_set rfl;have rm5:=rm4.set (j:=1) (by simp) (.slice (some ⟨g',0,none⟩) (l.length+1) cap')
 have s4:=f4.size
 have hg':p.rp.iv.ownBlock=some g'\/w2.heap.size < g'/\g'=w3.heap.size:=by
  rcases hlies with hl|hl
  ·exact .inl hl
  ·exact .inr (by omega)
 have hgrb:g'≠p.rp.rb:=λhe=>by
  rcases hg' with h'|h'
  ·exact ivrb (he▸h')
  ·omega
 have ho5:=f5.own ho4 λi hi he=>hgrb ((show g'=i by simpa [Value.ownBlock] using hi).trans he);have hb5:bD (w4.setCell ⟨p.rp.rb,0+1,none⟩ (.slice (some ⟨g',0,none⟩) (l.length+1) cap')) w.heap.size (q.cells i) 46:=f5.blk (f14.blk hb λhe=>by have:=oldl (a:=.mb) he;omega) (by omega);generalize w4.setCell ⟨p.rp.rb,0+1,none⟩ (.slice (some ⟨g',0,none⟩) (l.length+1) cap')=w5 at f5 rm5 ho5 hb5 ⊢;have s5:=f5.size;have F15:Fr (λi=>i=p.rp.rb\/p.rp.iv.ownBlock=some i) w1 w5:=(f14.or f5).mono λi hi=>hi.symm;have rm5:kV w5 p.rp.rb 0 [.pointer (some ⟨p.rp.hb,0,none⟩),.slice (some ⟨g',0,none⟩) (l.length+1) cap',p.rp.fv,p.rp.pub,p.rp.sec]:=rm5;have D5:aG w5 w5.drew:=(aG.refl _).drew
 have hfv5:=F15.own (x1.own h.fv) λi hi hs=>by
  rcases hs with hs|hs
  ·exact fvrb (hs▸hi)
  ·cases h.sep.dj .fo .mb _ hi hs
 refine aH.mk' (λw'=>Fr (λi=>p.rp.fv.ownBlock=some i) w5 w') (Fr.of_ext D5) ⟨.inl ⟨_,rfl⟩,?_⟩;refine lE cQ eE (λw' hw=>hw.seg rm5 fvrb) rfl ?_;refine dT (λw' hw=>(hw.blk hb5 λhe=>by have:=oldl (a:=.fo) he;omega).boxed) jH aZ rfl ?_;obtain ⟨qa,qc,hqe⟩:=hA.fl.shape;rw [hqe];refine aD.ok (λw' _=>jR underlying42) ?_;refine HI (n:=i.fields.length) rfl underlying37 mC rfl (by omega) (by omega) λw6 hb6 x6 hs6=>?_;have x56:=D5.trans x6;refine ⟨Fr.of_ext x56,?_⟩;refine mF MC [.slice (some ⟨w5.drew.heap.size,0,none⟩) i.fields.length i.fields.length] rfl rfl (by simp) rfl λv7 w7 ho7 x7=>?_;have x57:=x56.trans x7;refine ⟨Fr.of_ext x57,?_⟩;have sD5:=D5.size;have s6:=x6.size;have s7:=x7.size;refine apL MC (x57.own hfv5) ho7 (by decide) (by rfl) (by omega) (by unfold maxLen;omega) (Nat.zero_le _) λg2 cap2 w8 ho8 hg8 hlies8=>?_;have f8:Fr (λi=>p.rp.fv.ownBlock=some i) w7 w8:=Fr.of_grown hg8 λk hk=>hk;have f58:Fr (λi=>p.rp.fv.ownBlock=some i) w5 w8:=(Fr.of_ext (S:=λi=>p.rp.fv.ownBlock=some i) x57).trans f8 λ_ _ h=>h;refine ⟨f58,.inl ⟨_,rfl⟩,?_⟩;refine XK cQ ?_;have rm8:=f58.seg rm5 fvrb;refine kM EI rm8 (show 2 < 5 by decide) rfl ?_;have f9:Fr (λi=>i=p.rp.rb) w8 (w8.setCell ⟨p.rp.rb,0+2,none⟩ (.slice (some ⟨g2,0,none⟩) (fd.length+1) cap2)):=Fr.of_set rfl;have rm9:=rm8.set (j:=2) (by simp) (.slice (some ⟨g2,0,none⟩) (fd.length+1) cap2)
 have s8:=f8.size
 have hg2:p.rp.fv.ownBlock=some g2\/w6.heap.size < g2/\g2=w7.heap.size:=by
  rcases hlies8 with hl|hl
  ·exact .inl hl
  ·have:=ho7.lt;refine .inr ⟨?_,hl⟩;have h7:=nA ho7 (by decide);obtain ⟨g7,_,e7⟩:=h7;have:=ho7.lt g7 (by rw [e7];rfl);omega
 have hg2rb:g2≠p.rp.rb:=λhe=>by
  rcases hg2 with h'|h'
  ·exact fvrb (he▸h')
  ·omega
 have ho9:=f9.own ho8 λi hi he=>hg2rb ((show g2=i by simpa [Value.ownBlock] using hi).trans he);have rm9:kV (w8.setCell ⟨p.rp.rb,0+2,none⟩ (.slice (some ⟨g2,0,none⟩) (fd.length+1) cap2)) p.rp.rb 0 [.pointer (some ⟨p.rp.hb,0,none⟩),.slice (some ⟨g',0,none⟩) (l.length+1) cap',.slice (some ⟨g2,0,none⟩) (fd.length+1) cap2,p.rp.pub,p.rp.sec]:=rm9;generalize w8.setCell ⟨p.rp.rb,0+2,none⟩ (.slice (some ⟨g2,0,none⟩) (fd.length+1) cap2)=w9 at f9 rm9 ho9 ⊢;have s9:=f9.size;refine ⟨.inl ⟨_,rfl⟩,?_⟩;refine gC cH iK rm9 rfl (aFt.2 (jV.2 ?_));rw [show IntKind.i64.wrap (((l.length+1:Nat):Int) - 1)=(l.length:Int) from by rw [aX (by omega)];omega];have F59:Fr (λi=>i=p.rp.rb\/p.rp.fv.ownBlock=some i) w5 w9:=(f58.or f9).mono λi hi=>hi.symm
 have F19:Fr (λi=>i=p.rp.rb\/p.rp.iv.ownBlock=some i\/p.rp.fv.ownBlock=some i) w1 w9:=(F15.or F59).mono λi hi=>by
  rcases hi with (h|h)|h|h
  ·exact .inl h
  ·exact .inr (.inl h)
  ·exact .inl h
  ·exact .inr (.inr h)
 have F09:Fr (λi=>i=p.rp.rb\/p.rp.iv.ownBlock=some i\/p.rp.fv.ownBlock=some i) w w9:=(Fr.of_ext (S:=λi=>i=p.rp.rb\/p.rp.iv.ownBlock=some i\/p.rp.fv.ownBlock=some i) x1).trans F19 λ_ _ h=>h
 have no:∀ {a:Lb} {j:Nat},a≠.mb->a≠.fo->BR p a j->j≠p.rp.rb->¬ (j=p.rp.rb\/p.rp.iv.ownBlock=some j\/p.rp.fv.ownBlock=some j):=λ{a j} h1 h2 hj hr hs=>by
  rcases hs with hs|hs|hs
  ·exact hr hs
  ·exact h1 (h.sep.dj a .mb j hj hs)
  ·exact h2 (h.sep.dj a .fo j hj hs)
 have nrm:∀ {a:Lb} {j:Nat},a≠.rm->BR p a j->j≠p.rp.rb:=λ{a j} ha hj he=>ha (h.sep.dj a .rm j hj (.inl he));have hg'9:g' < w9.heap.size:=by have:=(ho5.lt g' rfl).2;omega
 have hg29:g2 < w9.heap.size:=(ho9.lt g2 rfl).2;have l6:=hb6.lt;have ho6:w6.ownsRow 0 21 1 (.slice (some ⟨w5.drew.heap.size,0,none⟩) i.fields.length i.fields.length) i.fields.length (List.replicate i.fields.length (i32 0)):=eC hb6 (by simp) (Nat.zero_le _) (by unfold maxLen;omega)
 have ho69:=f9.own (f8.own (x7.own ho6) λj hj hs=>by
   have hj:w5.drew.heap.size=j:=by simpa [Value.ownBlock] using hj
   have:=oldl (a:=.fo) hs;omega) λj hj hs=>by
   have hj:w5.drew.heap.size=j:=by simpa [Value.ownBlock] using hj
   omega
 have mu':∀ j,kE { p.rp with iv:=.slice (some ⟨g',0,none⟩) (l.length+1) cap',fv:=.slice (some ⟨g2,0,none⟩) (fd.length+1) cap2 } j↔kE p.rp j:=λj=>Iff.rfl
 have hO9:tM (λj=>w1.drew.heap.size<=j/\j < w2.heap.size) w9 λw'=>iG w' p2 i:=by
  have d0:tM (λj=>w1.drew.heap.size<=j/\j < w2.heap.size) w2 λw'=>iG w' p2 i:=(hO.dep.lt).imp λw' h=>h.at_;have d4:=(d0.ext x3).fr f4 λj hj hs=>by have:=oldl (a:=.mb) hs;omega
  have d5:=d4.fr f5 λj hj he=>by omega
  have d8:=(d5.ext x57).fr f8 λj hj hs=>by have:=oldl (a:=.fo) hs;omega
  exact d8.fr f9 λj hj he=>by omega
 have cls:∀ {a:Lb} {j:Nat},BR { p with rp:={ p.rp with iv:=.slice (some ⟨g',0,none⟩) (l.length+1) cap',fv:=.slice (some ⟨g2,0,none⟩) (fd.length+1) cap2 },vs:=p.vs++[.slice (some ⟨w5.drew.heap.size,0,none⟩) i.fields.length i.fields.length],IB:=λj=>p.IB j\/(w1.drew.heap.size<=j/\j < w2.heap.size) } a j ->
   (BR p a j/\j < w.heap.size)\/(a=.mb/\w2.heap.size < j/\j < w4.heap.size)\/(a=.fo/\w6.heap.size < j/\j < w9.heap.size)\/(a=.fd/\j=w5.drew.heap.size)\/(a=.im/\w1.drew.heap.size<=j/\j < w2.heap.size):=by
  intro a j hj;cases a with
  | rm=>exact .inl ⟨hj,oldl (a:=.rm) hj⟩
  | im=>
   rcases hj with hj|hj
   ·exact .inl ⟨hj,oldl (a:=.im) hj⟩
   ·exact .inr (.inr (.inr (.inr ⟨rfl,hj⟩)))
  | fo=>
   have hj:g2=j:=by simpa [BR,Value.ownBlock] using hj
   subst hj;rcases hg2 with h'|h'
   ·exact .inl ⟨h',oldl (a:=.fo) h'⟩
   ·exact .inr (.inr (.inl ⟨rfl,h'.1,hg29⟩))
  | fd=>
   obtain ⟨v,hv,hj⟩:=hj;rcases List.mem_append.1 hv with hv|hv
   ·exact .inl ⟨⟨v,hv,hj⟩,oldl (a:=.fd) ⟨v,hv,hj⟩⟩
   ·rw [List.mem_singleton] at hv;subst hv;have hj:w5.drew.heap.size=j:=by simpa [Value.ownBlock] using hj
    exact .inr (.inr (.inr (.inl ⟨rfl,hj.symm⟩)))
  | mb=>
   have hj:g'=j:=by simpa [BR,Value.ownBlock] using hj
   subst hj;rcases hg' with h'|h'
   ·exact .inl ⟨h',oldl (a:=.mb) h'⟩
   ·exact .inr (.inl ⟨rfl,h'.1,(ho4.lt g' rfl).2⟩)
  | fr=>exact hj.elim
  | ex=>exact hj.elim
 refine hR { p with rp:={ p.rp with iv:=.slice (some ⟨g',0,none⟩) (l.length+1) cap',fv:=.slice (some ⟨g2,0,none⟩) (fd.length+1) cap2 },vs:=p.vs++[.slice (some ⟨w5.drew.heap.size,0,none⟩) i.fields.length i.fields.length],IB:=λj=>p.IB j\/(w1.drew.heap.size<=j/\j < w2.heap.size) } w9 ⟨?_,?_,?_,λk v d hk hd=>?_,λj k u v x hj hk hu hv=>?_,?_,λa j hj=>?_,by omega⟩ rfl rfl (F09.mono λj hj=>?_) λa j hj=>?_
 ·-- the room's box, and the rest
  have H:=h.room;have F0:=F09;have nrb:∀ {j},kE p.rp j->j≠p.rp.rb->¬ (j=p.rp.rb\/p.rp.iv.ownBlock=some j\/p.rp.fv.ownBlock=some j):=λhm hr=>no (a:=.rm) (by intro e;cases e) (by intro e;cases e) hm hr
  exact ⟨rm9,H.h.frT F0 λj hs=>⟨λe=>nrb (.inr (.inl e)) (λe2=>H.lt (e2.symm.trans e)) hs,λe=>nrb (.inr (.inr (.inl e))) (λe2=>(H.fresh p.rp.rb (.inl rfl)).1 (e2.symm.trans e)) hs,λa ha e=>nrb (.inr (.inr (.inr (.inl ⟨a,ha,e⟩)))) (λe2=>(H.fresh p.rp.rb (.inl rfl)).2.1 a ha (e2▸e)) hs⟩,
   F0.own H.qp λj hj=>nrb (.inr (.inr (.inr (.inr (.inl hj))))) λe=>(H.fresh p.rp.rb (.inl rfl)).2.2.1 (e▸hj),F0.own H.qs λj hj=>nrb (.inr (.inr (.inr (.inr (.inr hj))))) λe=>(H.fresh p.rp.rb (.inl rfl)).2.2.2 (e▸hj),H.lp,H.ls,H.ne,H.np,H.ns,H.gp,H.gs,H.lt,H.fresh,H.two,H.sz,H.bytes⟩
 ·refine ⟨cs++p2.cells i,?_,λk x hk=>?_⟩
  ·have:=f9.own (f58.own ho5 λj hj hs=>?_) λj hj he=>?_
   ·simpa using this
   ·have hj:g'=j:=by simpa [Value.ownBlock] using hj
    subst hj;rcases hg' with h'|h'
    ·cases h.sep.dj .mb .fo _ h' hs
    ·have:=oldl (a:=.fo) hs;omega
   ·have hj:g'=j:=by simpa [Value.ownBlock] using hj
    exact hgrb (hj.trans he)
  ·by_cases hkl:k < l.length
   ·rw [List.getElem?_append_left hkl] at hk;obtain ⟨pk,e1,e2⟩:=hrows k x hk;refine ⟨pk,by rw [CO (l:=l) (x:=x) hiv.1 hkl];exact e1,?_⟩;have d1:=e2.fr F09 λj hj hs=>no (a:=.im) (by intro e;cases e) (by intro e;cases e) hj (nrm (a:=.im) (by intro e;cases e) hj) hs;exact d1.mono λj _ hj=>.inl hj
   ·have hkk:k=l.length:=by have:=(List.getElem?_eq_some_iff.1 hk).1;simp at this;omega
    subst hkk;rw [List.getElem?_concat_length] at hk;cases hk;refine ⟨p2,?_,hO9.mono λj _ hj=>.inr hj⟩;rw [<- hiv.1,List.drop_left];rfl
 ·simpa using ho9
 ·by_cases hkl:k < fd.length
  ·rw [List.getElem?_append_left hkl] at hd;have hlv:p.vs.length=fd.length:=by have:=h.fv.1;omega
   rw [List.getElem?_append_left (by omega)] at hk;have hm:=List.mem_of_getElem? hk;exact F09.own (h.row k v d hk hd) λj hj hs=>no (a:=.fd) (by intro e;cases e) (by intro e;cases e) ⟨v,hm,hj⟩ (nrm (a:=.fd) (by intro e;cases e) ⟨v,hm,hj⟩) hs
  ·have hkk:k=fd.length:=by have:=(List.getElem?_eq_some_iff.1 hd).1;simp at this;omega
   subst hkk;have hlv:p.vs.length=fd.length:=by have:=h.fv.1;omega
   rw [List.getElem?_concat_length] at hd;rw [<- hlv,List.getElem?_concat_length] at hk;cases hd;cases hk;simpa using ho69
 ·have hlv:p.vs.length=fd.length:=by have:=h.fv.1;omega
  have cls:∀ {j:Nat} {u:O},(p.vs++[Value.slice (some ⟨w5.drew.heap.size,0,none⟩) i.fields.length i.fields.length])[j]?=some u->(p.vs[j]?=some u)\/(j=p.vs.length/\u=Value.slice (some ⟨w5.drew.heap.size,0,none⟩) i.fields.length i.fields.length):=λ{j u} hj=>by
   by_cases hjl:j < p.vs.length
   ·rw [List.getElem?_append_left hjl] at hj;exact .inl hj
   ·have hjj:j=p.vs.length:=by have:=(List.getElem?_eq_some_iff.1 hj).1;simp at this;omega
    subst hjj;rw [List.getElem?_concat_length] at hj;exact .inr ⟨rfl,(Option.some.inj hj).symm⟩
  rcases cls hj with hj|⟨hj,rfl⟩<;>rcases cls hk with hk|⟨hk,rfl⟩
  ·exact h.dj j k u v x hj hk hu hv
  ·have:=oldl (a:=.fd) ⟨u,List.mem_of_getElem? hj,hu⟩;have hv:w5.drew.heap.size=x:=by simpa [Value.ownBlock] using hv
   omega
  ·have:=oldl (a:=.fd) ⟨v,List.mem_of_getElem? hk,hv⟩;have hu:w5.drew.heap.size=x:=by simpa [Value.ownBlock] using hu
   omega
  ·omega
 ·-- apart
  refine ⟨λa b j ha hb=>?_,λa j ha=>?_⟩
  ·rcases cls ha with ⟨ha,la⟩|⟨ea,la,lb⟩|⟨ea,la,lb⟩|⟨ea,ha⟩|⟨ea,la,lb⟩<;>rcases cls hb with ⟨hb,ma⟩|⟨eb,ma,mb⟩|⟨eb,ma,mb⟩|⟨eb,hb⟩|⟨eb,ma,mb⟩
   all_goals first|exact h.sep.dj a b j ha hb|(rw [ea,eb];done)|(exfalso;omega)
  ·rcases cls ha with ⟨_,_⟩|⟨_,_⟩|⟨_,_⟩|⟨_,_⟩|⟨_,_⟩<;>omega
 ·have old:=λhx=>h.ge a j hx;cases a with
  | rm=>exact h.ge .rm j hj
  | im=>
   rcases hj with hj|hj
   ·exact h.ge .im j hj
   ·omega
  | fo=>
   have hj:g2=j:=by simpa [BR,Value.ownBlock] using hj
   subst hj;rcases hg2 with h'|h'
   ·exact h.ge .fo _ h'
   ·omega
  | fd=>
   obtain ⟨v,hv,hj⟩:=hj;rcases List.mem_append.1 hv with hv|hv
   ·exact h.ge .fd j ⟨v,hv,hj⟩
   ·rw [List.mem_singleton] at hv;subst hv;have hj:w5.drew.heap.size=j:=by simpa [Value.ownBlock] using hj
    omega
  | mb=>
   have hj:g'=j:=by simpa [BR,Value.ownBlock] using hj
   subst hj;rcases hg' with h'|h'
   ·exact h.ge .mb _ h'
   ·omega
  | fr=>exact hj.elim
  | ex=>exact hj.elim
 ·rcases hj with hj|hj|hj
  ·rw [hj];exact ⟨.rm,.inl rfl⟩
  ·exact ⟨.mb,hj⟩
  ·exact ⟨.fo,hj⟩
 ·rcases cls hj with ⟨hj,_⟩|⟨_,h2,_⟩|⟨_,h2,_⟩|⟨_,h2⟩|⟨_,h2,_⟩
  ·exact .inl hj
  all_goals exact .inr (by omega)
end
def SF (q:QP) (i:Nat):Prop:=i=q.xb\/i=q.yb
structure qK (q:QP) (w:Ω):Prop where
 xbox:kV w q.xb 0 [pt q.yb,q.iv,q.fv,q.pub,q.sec]
 ybox:bD w q.yb [i64 q.size,.slice (some ⟨q.g,0,none⟩) q.ar.length q.cap] 156
 list:w.ownsRow 0 127 5 (.slice (some ⟨q.g,0,none⟩) q.ar.length q.cap) q.ar.length (jW q.ar)
 data:∀ a∈q.ar,w.ownsRow 0 5 1 a.dv a.data.length (a.data.map u8)
 len:∀ a∈q.ar,a.data.length<=64
 qp:w.ownsRow 0 5 1 q.pub q.tp.length (q.tp.map u8)
 qs:w.ownsRow 0 5 1 q.sec q.ts.length (q.ts.map u8)
 lp:q.tp.length<=128
 ls:q.ts.length<=128
 xy:q.xb≠q.yb
 dj:∀ i,SF q i->¬ AR q i
 two:2<=q.ar.length
 cnt:q.ar.length<=1000
 sz:0<=q.size/\q.size<=1000
def BQ (q:QP) (vs:List O):Lb->Nat->Prop
 | .rm,i=>SF q i\/AR q i
 | .fo,i=>q.fv.ownBlock=some i
 | .fd,i=>FdM vs i
 | .mb,i=>q.iv.ownBlock=some i
 | _,_=>False
structure RBd (l:List (bP × bF)) (q:QP) (vs:List O) (fd:List (List Int)) (B:Nat) (w:Ω):Prop where
 ref:qK q w
 iv:∃ cs,w.ownsRow 0 46 5 q.iv l.length cs/\cs.all cB=true/\∀ (k:Nat) x,l[k]?=some x->(cs.drop (k*5)).take 5=x.1.cells x.2
 one:vs.all cB=true
 fv:w.ownsRow 0 37 1 q.fv fd.length vs
 row:∀ (k:Nat) v d,vs[k]?=some v->fd[k]?=some d->w.ownsRow 0 21 1 v d.length (d.map i32)
 djv:∀ (j k:Nat) u v i,vs[j]?=some u->vs[k]?=some v->u.ownBlock=some i->v.ownBlock=some i->j=k
 sep:Sep (BQ q vs) w.heap.size
 ge:∀ a i,BQ q vs a i->B<=i
 hB:B<=w.heap.size
section
variable {q:QP} {vs:List O} {fd:List (List Int)} {B:Nat} {w w':Ω} {K:O->Ω->Prop} {l:List (bP × bF)}
theorem qK.hi (h:qK q w):∀ i,SF q i\/AR q i->i < w.heap.size:=by
 intro i hm;rcases hm with (rfl|rfl)|rfl|⟨a,ha,he⟩|he|he
 ·exact h.xbox.lt
 ·exact h.ybox.lt
 ·exact (h.list.lt _ rfl).2
 ·exact ((h.data a ha).lt _ he).2
 ·exact (h.qp.lt _ he).2
 ·exact (h.qs.lt _ he).2
theorem qK.fr {S:Nat->Prop} (h:qK q w) (f:Fr S w w') (hn:∀ i,S i->¬ SF q i/\¬ AR q i):qK q w':=
 ⟨f.seg h.xbox λhs=>(hn _ hs).1 (.inl rfl),f.blk h.ybox λhs=>(hn _ hs).1 (.inr rfl),
  f.own h.list λi hi hs=>(hn i hs).2 (.inl (by simpa [Value.ownBlock] using hi.symm)),λa ha=>f.own (h.data a ha) λi hi hs=>(hn i hs).2 (.inr (.inl ⟨a,ha,hi⟩)),h.len,
  f.own h.qp λi hi hs=>(hn i hs).2 (.inr (.inr (.inl hi))),f.own h.qs λi hi hs=>(hn i hs).2 (.inr (.inr (.inr hi))),h.lp,h.ls,h.xy,h.dj,h.two,h.cnt,h.sz⟩
theorem qK.lists {w1:Ω} (h:qK q w) (f:Fr (λi=>i=q.xb) w w1) {iv fv:O} (hs:kV w1 q.xb 0 [pt q.yb,iv,fv,q.pub,q.sec]):qK { q with iv:=iv,fv:=fv } w1:=by
 have no:∀ i,AR q i->i≠q.xb:=λi hi e=>h.dj q.xb (.inl rfl) (e▸hi)
 exact ⟨hs,f.blk h.ybox λe=>h.xy e.symm,f.own h.list λi hi=>no i (.inl (by simpa [Value.ownBlock] using hi.symm)),λa ha=>f.own (h.data a ha) λi hi=>no i (.inr (.inl ⟨a,ha,hi⟩)),h.len,
  f.own h.qp λi hi=>no i (.inr (.inr (.inl hi))),f.own h.qs λi hi=>no i (.inr (.inr (.inr hi))),h.lp,h.ls,h.xy,h.dj,h.two,h.cnt,h.sz⟩
theorem aKj (hk:∀ w',bD w' w.heap.size [] 46->aG w w'->K (.slice (some ⟨w.heap.size,0,none⟩) 0 0) w'):V prog (Instr.buildSlice 24 0 #[]) w K:=by
 refine V.ok (v:=.slice (some ⟨w.heap.size,0,none⟩) 0 0) (w':=w.alloc (.cells (([]:List O)).toArray 46)) (by kernel_rfl) ?_;exact hk _ (by unfold bD;rw [heap_alloc_new]) ((aG.refl _).alloc _)
theorem aOb (hk:∀ w',bD w' w.heap.size [] 37->aG w w'->K (.slice (some ⟨w.heap.size,0,none⟩) 0 0) w'):V prog (Instr.buildSlice 132 0 #[]) w K:=by
 refine V.ok (v:=.slice (some ⟨w.heap.size,0,none⟩) 0 0) (w':=w.alloc (.cells (([]:List O)).toArray 37)) (by kernel_rfl) ?_;exact hk _ (by unfold bD;rw [heap_alloc_new]) ((aG.refl _).alloc _)
theorem WJ {a:Option Addr} {n c:Nat} (hk:∀ w',bD w' w.heap.size [.slice a n c] 37->aG w w'->K (.slice (some ⟨w.heap.size,0,none⟩) 1 1) w'):V prog (Instr.buildSlice 132 1 #[(0,.slice a n c)]) w K:=by
 refine V.ok (v:=.slice (some ⟨w.heap.size,0,none⟩) 1 1) (w':=w.alloc (.cells (([.slice a n c]:List O)).toArray 37)) (by kernel_rfl) ?_;exact hk _ (by unfold bD;rw [heap_alloc_new]) ((aG.refl _).alloc _)
theorem aNu {b n:Nat} {v:O} {cs:List O} (hb:bD w b [] 46) (hv:aB w v 5 n cs) (h1:cs.all cB=true) (hn:n<=1000)
  (hk:∀ v' w',w'.ownsRow b 46 5 v' n cs->Fr (λi=>i=b) w w'->(v'.ownBlock=some b\/v'.ownBlock=some w.heap.size)->K v' w'):V prog (Builtin.append_ #[24,24] 24 #[.slice (some ⟨b,0,none⟩) 0 0,v]) w K:=by
 have ho:w.ownsRow b 46 5 (.slice (some ⟨b,0,none⟩) 0 0) 0 []:=eC hb rfl (Nat.le_refl _) (by decide);refine apG underlying24 jT rfl (by decide) ho hv h1 (by omega) (by unfold maxLen;omega) (Nat.le_of_lt hb.lt) λv' w' h2 h3 h4=>?_;refine hk v' w' (by simpa using h2) (Fr.of_grown h3 λk hk=>?_) h4;simpa [Value.ownBlock] using hk.symm
theorem cpF {b n:Nat} {v:O} {cs:List O} (hb:bD w b [] 37) (hv:aB w v 1 n cs) (h1:cs.all cB=true) (hn:n<=1000)
  (hk:∀ v' w',w'.ownsRow b 37 1 v' n cs->Fr (λi=>i=b) w w'->(v'.ownBlock=some b\/v'.ownBlock=some w.heap.size)->K v' w'):V prog (Builtin.append_ #[132,132] 132 #[.slice (some ⟨b,0,none⟩) 0 0,v]) w K:=by
 have ho:w.ownsRow b 37 1 (.slice (some ⟨b,0,none⟩) 0 0) 0 []:=eC hb rfl (Nat.le_refl _) (by decide);refine apG underlying132 qG rfl (by decide) ho hv h1 (by omega) (by unfold maxLen;omega) (Nat.le_of_lt hb.lt) λv' w' h2 h3 h4=>?_;refine hk v' w' (by simpa using h2) (Fr.of_grown h3 λk hk=>?_) h4;simpa [Value.ownBlock] using hk.symm
theorem WX (h:RBd l q vs fd B w) (hl4:l.length < 4) (hfl:fd.length=l.length) {p:bP} {i:bF} (hA:iG w p i) (hfn:i.fields.length<=64) :
  aC prog 41 #[oZ q,p.val i] w λ_ w'=>∃ q' vs',RBd (l++[(p,i)]) q' vs' (fd++[List.replicate i.fields.length 0]) B w'/\q'={ q with iv:=q'.iv,fv:=q'.fv }/\Fr (λi=>i=q.xb) w w'/\∀ a i,BQ q' vs' a i->BQ q vs a i\/w.heap.size<=i:=by
 obtain ⟨cs,hiv,hcs1,hrows⟩:=h.iv;have hBw:=h.hB;have hlv:vs.length=fd.length:=by have:=h.fv.1;omega
 have oldl:∀ {a:Lb} {i:Nat},BQ q vs a i->i < w.heap.size:=λhi=>h.sep.lt _ _ hi;have xbl:q.xb < w.heap.size:=h.ref.xbox.lt;have noX:∀ {a:Lb} {j:Nat},a≠.rm->BQ q vs a j->j≠q.xb:=λ{a j} ha hj he=>ha (h.sep.dj a .rm j hj (.inl (.inl he)));obtain ⟨a1,c1,e1⟩:=hA.fl.shape;obtain ⟨_,hx2,_⟩:=hA.im;obtain ⟨a2,c2,e2⟩:=hx2.shape;obtain ⟨_,hx3,_⟩:=hA.mt;obtain ⟨a3,c3,e3⟩:=hx3.shape;obtain ⟨a4,c4,e4⟩:=hA.ex.shape;have hp1:(p.cells i).all cB=true:=by unfold bP.cells;rw [e1,e2,e3,e4];rfl
 apply aQn;suffices key:∀ R:O->Ω->Prop,(∀ rv q' vs' w',RBd (l++[(p,i)]) q' vs' (fd++[List.replicate i.fields.length 0]) B w'->q'={ q with iv:=q'.iv,fv:=q'.fv }->Fr (λi=>i=q.xb) w w'->(∀ a i,BQ q' vs' a i->BQ q vs a i\/w.heap.size<=i)->R rv w')->FS (oZ q) (p.val i) w R from key _ λrv q' vs' w' h1 h2 h3 h4=>⟨q',vs',h1,h2,h3,h4⟩;intro R hR;unfold FS;refine tH λw1 hb x1=>?_;have hb:bD w1 w.heap.size (p.cells i) 46:=hb;have lb:=hb.lt;have s1:=x1.size;have xb1:=h.ref.xbox.ext x1;refine ⟨λw'=>∃ g cap,w'.ownsRow w1.heap.size 46 5 (.slice (some ⟨g,0,none⟩) (l.length+1) cap) (l.length+1) (cs++p.cells i)/\kV w' q.xb 0 [pt q.yb,.slice (some ⟨g,0,none⟩) (l.length+1) cap,q.fv,q.pub,q.sec]/\Fr (λi=>i=q.xb) w w'/\bD w' w.heap.size (p.cells i) 46,?_,?_⟩
 ·have D1:aG w1 w1.drew:=(aG.refl _).drew;have sD1:=D1.size;refine aH.mk' (λw'=>aG w1 w') D1 ⟨.inl ⟨_,rfl⟩,?_⟩;refine lE cP iK (λw' hw=>xb1.ext hw) rfl ?_;refine yA (λw' hw=>(hb.ext hw).boxed) kQ rfl ?_;have hsl:aB w1.drew q.iv 5 l.length cs:=aB.of_own ((x1.trans D1).own hiv)
  have tail:∀ {w':Ω} {v10:O} {b12:Nat},aG w1 w'->w'.ownsRow w1.heap.size 46 5 v10 l.length cs->bD w' b12 (p.cells i) 46->∀ {K:O->Ω->Prop},(∀ g cap w'',aG w1 w''->w''.ownsRow w1.heap.size 46 5 (.slice (some ⟨g,0,none⟩) (l.length+1) cap) (l.length+1) (cs++p.cells i)->K (.slice (some ⟨g,0,none⟩) (l.length+1) cap) w'') ->
    V prog (Builtin.append_ #[24,24] 24 #[v10,.slice (some ⟨b12,0,none⟩) 1 1]) w' K:=by
   intro w' v10 b12 x ho10 hb12 K hk;refine apZ underlying24 jT rfl (by omega) ho10 (eC hb12 rfl (Nat.zero_le _) (by unfold maxLen;omega)) (by decide) hp1 (by omega) (by unfold maxLen;omega) x.size λg cap w'' h1 h2 _=>?_;exact hk g cap w'' (x.grown h2 λk hk=>(ho10.lt k hk).1) h1
  have fin:∀ {g cap:Nat} {w':Ω},aG w1 w'->w'.ownsRow w1.heap.size 46 5 (.slice (some ⟨g,0,none⟩) (l.length+1) cap) (l.length+1) (cs++p.cells i) ->
    U prog (Instr.storeAt 24 (.pointer (some ⟨q.xb,0+1,none⟩)) (.slice (some ⟨g,0,none⟩) (l.length+1) cap)) w' λ_ w'=>∃ g cap,w'.ownsRow w1.heap.size 46 5 (.slice (some ⟨g,0,none⟩) (l.length+1) cap) (l.length+1) (cs++p.cells i)/\kV w' q.xb 0 [pt q.yb,.slice (some ⟨g,0,none⟩) (l.length+1) cap,q.fv,q.pub,q.sec]/\Fr (λi=>i=q.xb) w w'/\bD w' w.heap.size (p.cells i) 46:=by
   intro g cap w' x ho;refine kM RI (xb1.ext x) (show 1 < 5 by decide) rfl ?_;have f:Fr (λi=>i=q.xb) w' (w'.setCell ⟨q.xb,0+1,none⟩ (.slice (some ⟨g,0,none⟩) (l.length+1) cap)):=Fr.of_set rfl;exact ⟨g,cap,f.own ho λj hj e=>(by have:=(ho.lt j hj).1;omega),(xb1.ext x).set (j:=1) (by simp) _,(Fr.of_ext (S:=λi=>i=q.xb) (x1.trans x)).trans f λ_ _ h=>h,f.blk (hb.ext x) (by omega)⟩
  have bs:∀ {w':Ω} {K:O->Ω->Prop},(∀ w1,bD w1 w'.heap.size (p.cells i) 46->aG w' w1->K (.slice (some ⟨w'.heap.size,0,none⟩) 1 1) w1)->V prog (Instr.buildSlice 24 1 #[(0,.agg (p.cells i).toArray)]) w' K:=λhk=>aKi (p:=p) (i:=i) ⟨_,_,_,e1⟩ ⟨_,_,_,e2⟩ ⟨_,_,_,e3⟩ ⟨_,_,_,e4⟩ hk;refine ⟨aKj λw3 hb3 x3=>?_,bs λw3 hb3 x3=>?_⟩
  ·have X3:=D1.trans x3;have s3:=x3.size;have l3:=hb3.lt;refine ⟨X3,⟨aNu hb3 (hsl.ext x3) hcs1 (by omega) λv4 w4 ho4 f4 hv4=>?_,bs λw4 hb4 x4=>?_⟩⟩
   ·have X4:aG w1 w4:=f4.ext X3 λj hj=>by omega
    refine ⟨X4,bs λw5 hb5 x5=>?_⟩;have X5:=X4.trans x5;refine ⟨X5,tail X5 (aR (x5.own ho4) (by omega)) hb5 λg cap w6 X6 ho6=>⟨X6,.inl ⟨_,rfl⟩,XK cP (fin X6 ho6)⟩⟩
   ·have X4:=X3.trans x4;refine ⟨X4,aNu (hb3.ext x4) ((hsl.ext x3).ext x4) hcs1 (by omega) λv5 w5 ho5 f5 hv5=>?_⟩;have X5:aG w1 w5:=f5.ext X4 λj hj=>by omega
    refine ⟨X5,tail X5 (aR ho5 (by omega)) (f5.blk hb4 (by omega)) λg cap w6 X6 ho6=>⟨X6,.inl ⟨_,rfl⟩,XK cP (fin X6 ho6)⟩⟩
  ·have X3:=D1.trans x3;have s3:=x3.size;have l3:=hb3.lt;refine ⟨X3,aKj λw4 hb4 x4=>?_⟩;have X4:=X3.trans x4;refine ⟨X4,aNu hb4 ((hsl.ext x3).ext x4) hcs1 (by omega) λv5 w5 ho5 f5 hv5=>?_⟩;have X5:aG w1 w5:=f5.ext X4 λj hj=>by omega
   refine ⟨X5,tail X5 (aR ho5 (by omega)) (f5.blk (hb3.ext x4) (by omega)) λg cap w6 X6 ho6=>⟨X6,.inl ⟨_,rfl⟩,XK cP (fin X6 ho6)⟩⟩
 ·-- the fields
  rintro w5 ⟨g,cap,ho5,rm5,F5,hb5⟩ _;have s5:=F5.size;have lb5:=hb5.lt;have D5:aG w5 w5.drew:=(aG.refl _).drew;have sD5:=D5.size;have hfv5:w5.drew.ownsRow 0 37 1 q.fv fd.length vs:=D5.own (F5.own h.fv λj hj e=>noX (a:=.fo) (by intro e;cases e) hj e);have hfs:aB w5.drew q.fv 1 fd.length vs:=aB.of_own hfv5;have hone:=h.one;refine aH.mk' (λw'=>aG w5 w') D5 ⟨.inl ⟨_,rfl⟩,?_⟩;refine lE cO eE (λw' hw=>rm5.ext hw) rfl ?_;refine dT (λw' hw=>(hb5.ext hw).boxed) jH aZ rfl ?_;rw [e1];refine aD.ok (λw' _=>jR underlying42) ?_
  have fin:∀ {w':Ω} {v22:O} {b26 b27:Nat},aG w5 w'->w'.ownsRow w5.heap.size 37 1 v22 fd.length vs->bD w' b26 (List.replicate i.fields.length (i32 0)) 21->w5.heap.size<=b26->bD w' b27 [.slice (some ⟨b26,0,none⟩) i.fields.length i.fields.length] 37->(∀ j,v22.ownBlock=some j->j≠b26) ->
    V prog (Builtin.append_ #[132,132] 132 #[v22,.slice (some ⟨b27,0,none⟩) 1 1]) w' λt28 w23=>aG w5 w23/\Go.Vc.aI (oZ q)/\aD prog (λw'=>aG w5 w') (Instr.fieldAt 139 (oZ q) 2) λt30=>U prog (Instr.storeAt 132 t30 t28) w23 λ_ w24=>R (.tuple #[]) w24:=by
   intro w' v22 b26 b27 X ho22 hb26 h26 hb27 h2226;have l26:=hb26.lt;refine apL MC ho22 (eC hb27 rfl (Nat.zero_le _) (by unfold maxLen;omega)) (by decide) (by rfl) (by omega) (by unfold maxLen;omega) X.size λg2 cap2 w8 ho8 hg8 hlies8=>?_;have X8:aG w5 w8:=X.grown hg8 λk hk=>(ho22.lt k hk).1;refine ⟨X8,.inl ⟨_,rfl⟩,XK cO ?_⟩;refine kM EI (rm5.ext X8) (show 2 < 5 by decide) rfl ?_;have f9:Fr (λi=>i=q.xb) w8 (w8.setCell ⟨q.xb,0+2,none⟩ (.slice (some ⟨g2,0,none⟩) (fd.length+1) cap2)):=Fr.of_set rfl;have rm9:kV (w8.setCell ⟨q.xb,0+2,none⟩ (.slice (some ⟨g2,0,none⟩) (fd.length+1) cap2)) q.xb 0 [pt q.yb,.slice (some ⟨g,0,none⟩) (l.length+1) cap,.slice (some ⟨g2,0,none⟩) (fd.length+1) cap2,q.pub,q.sec]:=(rm5.ext X8).set (j:=2) (by simp) _;have hg2:=ho8.lt g2 rfl;have hg:=ho5.lt g rfl
   have hg226:g2≠b26:=λe=>by
    rcases hlies8 with hl|hl
    ·exact h2226 _ hl e
    ·omega
   have ho9:=f9.own ho8 λj hj e=>(by have:=(ho8.lt j hj).1;omega);have ho59:=f9.own (X8.own ho5) λj hj e=>(by have:=(ho5.lt j hj).1;omega);have f8:Fr (λj=>v22.ownBlock=some j) w' w8:=Fr.of_grown hg8 λk hk=>hk;have ho26:w'.ownsRow 0 21 1 (.slice (some ⟨b26,0,none⟩) i.fields.length i.fields.length) i.fields.length (List.replicate i.fields.length (i32 0)):=eC hb26 (by simp) (Nat.zero_le _) (by unfold maxLen;omega)
   have ho269:=f9.own (f8.own ho26 λj hj e=>h2226 j e (by simpa [Value.ownBlock] using hj.symm)) λj hj e=>(by
    have hj:b26=j:=by simpa [Value.ownBlock] using hj
    omega)
   have F9:Fr (λi=>i=q.xb) w (w8.setCell ⟨q.xb,0+2,none⟩ (.slice (some ⟨g2,0,none⟩) (fd.length+1) cap2)):=(F5.trans (Fr.of_ext (S:=λi=>i=q.xb) X8) λ_ _ h=>h).trans f9 λ_ _ h=>h;have s9:=f9.size;have s8:=X8.size;have l26':b26 < w8.heap.size:=by have:=f8.size;omega
   generalize w8.setCell ⟨q.xb,0+2,none⟩ (.slice (some ⟨g2,0,none⟩) (fd.length+1) cap2)=w9 at f9 rm9 ho9 ho59 ho269 F9 s9 ⊢
   have cls:∀ {a:Lb} {j:Nat},BQ { q with iv:=.slice (some ⟨g,0,none⟩) (l.length+1) cap,fv:=.slice (some ⟨g2,0,none⟩) (fd.length+1) cap2 } (vs++[.slice (some ⟨b26,0,none⟩) i.fields.length i.fields.length]) a j ->
     (BQ q vs a j/\j < w.heap.size)\/(a=.mb/\j=g)\/(a=.fo/\j=g2)\/(a=.fd/\j=b26):=by
    intro a j hj;cases a with
    | rm=>exact .inl ⟨hj,oldl (a:=.rm) hj⟩
    | fo=>exact .inr (.inr (.inl ⟨rfl,by simpa [BQ,Value.ownBlock] using hj.symm⟩))
    | fd=>
     obtain ⟨v,hv,hj⟩:=hj;rcases List.mem_append.1 hv with hv|hv
     ·exact .inl ⟨⟨v,hv,hj⟩,oldl (a:=.fd) ⟨v,hv,hj⟩⟩
     ·rw [List.mem_singleton] at hv;subst hv;exact .inr (.inr (.inr ⟨rfl,by simpa [Value.ownBlock] using hj.symm⟩))
    | mb=>exact .inr (.inl ⟨rfl,by simpa [BQ,Value.ownBlock] using hj.symm⟩)
    | im=>exact hj.elim
    | fr=>exact hj.elim
    | ex=>exact hj.elim
   have hgw5:=hg.2;refine hR _ { q with iv:=.slice (some ⟨g,0,none⟩) (l.length+1) cap,fv:=.slice (some ⟨g2,0,none⟩) (fd.length+1) cap2 } (vs++[.slice (some ⟨b26,0,none⟩) i.fields.length i.fields.length]) w9 ⟨h.ref.lists F9 rm9,⟨cs++p.cells i,?_,?_,λk x hk=>?_⟩,?_,?_,λk v d hk hd=>?_,λj k u v x hj hk hu hv=>?_,⟨λa b j ha hb=>?_,λa j ha=>?_⟩,λa j ha=>?_,by omega⟩ rfl F9 λa j ha=>?_
   ·have:=aR ho59 (Nat.zero_le _);simpa using this
   ·rw [List.all_append,hcs1,hp1];rfl
   ·by_cases hkl:k < l.length
    ·rw [List.getElem?_append_left hkl] at hk;rw [CO (l:=l) (x:=x) hiv.1 hkl];exact hrows k x hk
    ·have hkk:k=l.length:=by have:=(List.getElem?_eq_some_iff.1 hk).1;simp at this;omega
     subst hkk;rw [List.getElem?_concat_length] at hk;cases hk;rw [<- hiv.1,List.drop_left];rfl
   ·rw [List.all_append,hone];rfl
   ·have:=aR ho9 (Nat.zero_le _);simpa using this
   ·by_cases hkl:k < fd.length
    ·rw [List.getElem?_append_left hkl] at hd;rw [List.getElem?_append_left (by omega)] at hk;have hm:=List.mem_of_getElem? hk;exact F9.own (h.row k v d hk hd) λj hj hs=>noX (a:=.fd) (by intro e;cases e) ⟨v,hm,hj⟩ hs
    ·have hkk:k=fd.length:=by have:=(List.getElem?_eq_some_iff.1 hd).1;simp at this;omega
     subst hkk;rw [List.getElem?_concat_length] at hd;rw [<- hlv,List.getElem?_concat_length] at hk;cases hd;cases hk;simpa using ho269
   ·have cls2:∀ {j:Nat} {u:O},(vs++[Value.slice (some ⟨b26,0,none⟩) i.fields.length i.fields.length])[j]?=some u->(vs[j]?=some u)\/(j=vs.length/\u=Value.slice (some ⟨b26,0,none⟩) i.fields.length i.fields.length):=λ{j u} hj=>by
     by_cases hjl:j < vs.length
     ·rw [List.getElem?_append_left hjl] at hj;exact .inl hj
     ·have hjj:j=vs.length:=by have:=(List.getElem?_eq_some_iff.1 hj).1;simp at this;omega
      subst hjj;rw [List.getElem?_concat_length] at hj;exact .inr ⟨rfl,(Option.some.inj hj).symm⟩
    rcases cls2 hj with hj|⟨hj,rfl⟩<;>rcases cls2 hk with hk|⟨hk,rfl⟩
    ·exact h.djv j k u v x hj hk hu hv
    ·have:=oldl (a:=.fd) ⟨u,List.mem_of_getElem? hj,hu⟩;have hv:b26=x:=by simpa [Value.ownBlock] using hv
     omega
    ·have:=oldl (a:=.fd) ⟨v,List.mem_of_getElem? hk,hv⟩;have hu:b26=x:=by simpa [Value.ownBlock] using hu
     omega
    ·omega
   ·rcases cls ha with ⟨ha,la⟩|⟨ea,ha⟩|⟨ea,ha⟩|⟨ea,ha⟩<;>rcases cls hb with ⟨hb,lb⟩|⟨eb,hb⟩|⟨eb,hb⟩|⟨eb,hb⟩
    all_goals first|exact h.sep.dj a b j ha hb|(rw [ea,eb];done)|(exfalso;omega)
   ·rcases cls ha with ⟨_,_⟩|⟨_,_⟩|⟨_,_⟩|⟨_,_⟩<;>omega
   ·rcases cls ha with ⟨ha,_⟩|⟨_,_⟩|⟨_,_⟩|⟨_,_⟩
    ·exact h.ge a j ha
    all_goals omega
   ·rcases cls ha with ⟨ha,_⟩|⟨_,_⟩|⟨_,_⟩|⟨_,_⟩
    ·exact .inl ha
    all_goals exact .inr (by omega)
  have mk:∀ {w':Ω} {K:O->Ω->Prop},(∀ w6,bD w6 w'.heap.size (List.replicate i.fields.length (i32 0)) 21->aG w' w6->K (.slice (some ⟨w'.heap.size,0,none⟩) i.fields.length i.fields.length) w6)->V prog (Instr.makeSlice 37 (i64 (i.fields.length:Int)) (i64 (i.fields.length:Int))) w' K:=λhk=>HI (n:=i.fields.length) rfl underlying37 mC rfl (by omega) (by omega) λw6 hb6 x6 _=>hk w6 hb6 x6;refine ⟨aOb λw3 hb3 x3=>?_,mk λw3 hb3 x3=>?_⟩
  ·have X3:=D5.trans x3;have s3:=x3.size;have l3:=hb3.lt;refine ⟨X3,⟨cpF hb3 (hfs.ext x3) hone (by omega) λv4 w4 ho4 f4 hv4=>?_,mk λw4 hb4 x4=>?_⟩⟩
   ·have X4:aG w5 w4:=f4.ext X3 λj hj=>by omega
    refine ⟨X4,mk λw6 hb6 x6=>?_⟩;have X6:=X4.trans x6;refine ⟨X6,WJ λw7 hb7 x7=>?_⟩;have X7:=X6.trans x7;have q4:=X4.size;exact ⟨X7,fin X7 (aR (x7.own (x6.own ho4)) (by omega)) (hb6.ext x7) q4 hb7 λj hj e=>(by have:=(ho4.lt j hj).2;omega)⟩
   ·have X4:=X3.trans x4;have s4:=x4.size;have l4:=hb4.lt;refine ⟨X4,⟨cpF (hb3.ext x4) ((hfs.ext x3).ext x4) hone (by omega) λv6 w6 ho6 f6 hv6=>?_,WJ λw6 hb6 x6=>?_⟩⟩
    ·have X6:aG w5 w6:=f6.ext X4 λj hj=>by omega
     refine ⟨X6,WJ λw7 hb7 x7=>?_⟩;have X7:=X6.trans x7;exact ⟨X7,fin X7 (aR (x7.own ho6) (by omega)) ((f6.blk hb4 (by omega)).ext x7) (by omega) hb7 λj hj e=>(by rcases hv6 with h'|h'<;>(rw [h'] at hj;have hj:=Option.some.inj hj;omega))⟩
    ·have X6:=X4.trans x6;have s6:=x6.size;have l6:=hb6.lt;refine ⟨X6,cpF ((hb3.ext x4).ext x6) (((hfs.ext x3).ext x4).ext x6) hone (by omega) λv7 w7 ho7 f7 hv7=>?_⟩;have X7:aG w5 w7:=f7.ext X6 λj hj=>by omega
     exact ⟨X7,fin X7 (aR ho7 (by omega)) (f7.blk (hb4.ext x6) (by omega)) (by omega) (f7.blk hb6 (by omega)) λj hj e=>(by rcases hv7 with h'|h'<;>(rw [h'] at hj;have hj:=Option.some.inj hj;omega))⟩
  ·have X3:=D5.trans x3;have s3:=x3.size;have l3:=hb3.lt;refine ⟨X3,⟨aOb λw4 hb4 x4=>?_,WJ λw4 hb4 x4=>?_⟩⟩
   ·have X4:=X3.trans x4;have s4:=x4.size;have l4:=hb4.lt;refine ⟨X4,⟨cpF hb4 ((hfs.ext x3).ext x4) hone (by omega) λv6 w6 ho6 f6 hv6=>?_,WJ λw6 hb6 x6=>?_⟩⟩
    ·have X6:aG w5 w6:=f6.ext X4 λj hj=>by omega
     refine ⟨X6,WJ λw7 hb7 x7=>?_⟩;have X7:=X6.trans x7;exact ⟨X7,fin X7 (aR (x7.own ho6) (by omega)) ((f6.blk (hb3.ext x4) (by omega)).ext x7) (by omega) hb7 λj hj e=>(by rcases hv6 with h'|h'<;>(rw [h'] at hj;have hj:=Option.some.inj hj;omega))⟩
    ·have X6:=X4.trans x6;have s6:=x6.size;have l6:=hb6.lt;refine ⟨X6,cpF (hb4.ext x6) (((hfs.ext x3).ext x4).ext x6) hone (by omega) λv7 w7 ho7 f7 hv7=>?_⟩;have X7:aG w5 w7:=f7.ext X6 λj hj=>by omega
     exact ⟨X7,fin X7 (aR ho7 (by omega)) (f7.blk ((hb3.ext x4).ext x6) (by omega)) (by omega) (f7.blk hb6 (by omega)) λj hj e=>(by rcases hv7 with h'|h'<;>(rw [h'] at hj;have hj:=Option.some.inj hj;omega))⟩
   ·have X4:=X3.trans x4;have s4:=x4.size;have l4:=hb4.lt;refine ⟨X4,aOb λw6 hb6 x6=>?_⟩;have X6:=X4.trans x6;have s6:=x6.size;have l6:=hb6.lt;refine ⟨X6,cpF hb6 (((hfs.ext x3).ext x4).ext x6) hone (by omega) λv7 w7 ho7 f7 hv7=>?_⟩;have X7:aG w5 w7:=f7.ext X6 λj hj=>by omega
    exact ⟨X7,fin X7 (aR ho7 (by omega)) (f7.blk ((hb3.ext x4).ext x6) (by omega)) (by omega) (f7.blk (hb4.ext x6) (by omega)) λj hj e=>(by rcases hv7 with h'|h'<;>(rw [h'] at hj;have hj:=Option.some.inj hj;omega))⟩
end
section
variable {q:QP} {w w':Ω} {K:O->Ω->Prop}
structure IK (q q':QP) (w w':Ω):Prop where
 pe:q'.xb=q.xb/\q'.yb=q.yb/\q'.size=q.size/\q'.iv=q.iv/\q'.fv=q.fv
 mu:∀ i,AR q' i->AR q i\/w.heap.size<=i
 fr:Fr (SF q) w w'
theorem IK.trans {q1 q2:QP} {w1 w2:Ω} (h:IK q q1 w w1) (k:IK q1 q2 w1 w2):IK q q2 w w2:=by
 obtain ⟨⟨a1,a2,a3,a4,a5⟩,m1,f1⟩:=h;obtain ⟨⟨b1,b2,b3,b4,b5⟩,m2,f2⟩:=k;refine ⟨⟨b1.trans a1,b2.trans a2,b3.trans a3,b4.trans a4,b5.trans a5⟩,λi hi=>?_,f1.trans f2 λi hi hm=>?_⟩
 ·rcases m2 i hi with h|h
  ·exact m1 i h
  ·exact .inr (Nat.le_trans f1.size h)
 ·rcases hm with hm|hm
  ·exact .inl (hm.trans a1)
  ·exact .inr (hm.trans a2)
theorem qK.relist (h:qK q w) {w1 w2:Ω} {g54 c54:Nat} {dv:O} {d':List Int} {k:Nat} {x:dB} (_:q.ar[k]?=some x) (hx:aG w w1) (h54:w1.ownsRow w.heap.size 127 5 (.slice (some ⟨g54,0,none⟩) q.ar.length c54) q.ar.length (jW (q.ar.set k { x with dv:=dv,data:=d' }))) (hdv:w1.ownsRow w.heap.size 5 1 dv d'.length (d'.map u8)) (hd:d'.length<=64)
  (f2:Fr (λi=>i=q.yb) w1 w2) (hy:bD w2 q.yb [i64 q.size,.slice (some ⟨g54,0,none⟩) q.ar.length c54] 156) :
  qK { q with g:=g54,cap:=c54,ar:=q.ar.set k { x with dv:=dv,data:=d' } } w2/\IK q { q with g:=g54,cap:=c54,ar:=q.ar.set k { x with dv:=dv,data:=d' } } w w2:=by
 have hlen:(q.ar.set k { x with dv:=dv,data:=d' }).length=q.ar.length:=by simp
 have each:∀ a∈q.ar.set k { x with dv:=dv,data:=d' },a={ x with dv:=dv,data:=d' }\/a∈q.ar:=λa ha=>(List.mem_or_eq_of_mem_set ha).symm;have nD:∀ {i},AR q i->i≠q.yb:=λhi e=>h.dj q.yb (.inr rfl) (e▸hi);have yl:q.yb < w.heap.size:=h.ybox.lt;have xl:q.xb < w.heap.size:=h.xbox.lt;refine ⟨⟨f2.seg (h.xbox.ext hx) h.xy,by rw [hlen];exact hy,?_,λa ha=>?_,λa ha=>?_,f2.own (hx.own h.qp) λi hi=>nD (.inr (.inr (.inl hi))),f2.own (hx.own h.qs) λi hi=>nD (.inr (.inr (.inr hi))),h.lp,h.ls,h.xy,λi hi hc=>?_,by rw [hlen];exact h.two,by rw [hlen];exact h.cnt,h.sz⟩,⟨rfl,rfl,rfl,rfl,rfl⟩,λi hi=>?_,?_⟩
 ·rw [hlen];exact aR (f2.own h54 λi hi e=>by have:=(h54.lt i hi).1;omega) (Nat.zero_le _)
 ·rcases each a ha with rfl|ha
  ·exact aR (f2.own hdv λi hi e=>by have:=(hdv.lt i hi).1;omega) (Nat.zero_le _)
  ·exact f2.own (hx.own (h.data a ha)) λi hi=>nD (.inr (.inl ⟨a,ha,hi⟩))
 ·rcases each a ha with rfl|ha
  ·exact hd
  ·exact h.len a ha
 ·have hl:i < w.heap.size:=h.hi i (.inl hi);rcases hc with hc|⟨a,ha,hc⟩|hc|hc
  ·have:=(h54.lt g54 rfl).1;have hc:i=g54:=hc;omega
  ·rcases each a ha with rfl|ha
   ·have:=(hdv.lt i hc).1;omega
   ·exact h.dj i hi (.inr (.inl ⟨a,ha,hc⟩))
  ·exact h.dj i hi (.inr (.inr (.inl hc)))
  ·exact h.dj i hi (.inr (.inr (.inr hc)))
 ·rcases hi with hc|⟨a,ha,hc⟩|hc|hc
  ·have hc:i=g54:=hc;exact .inr (by have:=(h54.lt g54 rfl).1;omega)
  ·rcases each a ha with rfl|ha
   ·exact .inr (hdv.lt i hc).1
   ·exact .inl (.inr (.inl ⟨a,ha,hc⟩))
  ·exact .inl (.inr (.inr (.inl hc)))
  ·exact .inl (.inr (.inr (.inr hc)))
 ·exact (Fr.of_ext (S:=SF q) hx).trans (f2.mono λi hi=>.inr hi) λ_ _ h=>h
theorem yE (h:qK q w) {k:Nat} (hk2:k < 2) {x:dB} (hk:q.ar[k]?=some x) {sv:O} {l:List Int} (hv:iZ w sv l) (hl:l.length<=64) :
  aC prog 87 #[OZ q,i64 ((k:Int)+1),sv] w λ_ w'=>∃ g' cap' dv,qK { q with g:=g',cap:=cap',ar:=q.ar.set k { x with dv:=dv,data:=l } } w'/\IK q { q with g:=g',cap:=cap',ar:=q.ar.set k { x with dv:=dv,data:=l } } w w':=by
 have hkl:k < q.ar.length:=(List.getElem?_eq_some_iff.1 hk).1;have hcnt:=h.cnt;apply aPk;unfold SQ;obtain ⟨sa,sc,hsv⟩:=hv.shape;rw [hsv] at hv ⊢;refine aV.2 ?_;simp only [show ¬ ((k:Int)+1 < 1) by omega,dR,dJ,aJ,reduceIte,Bool.false_eq_true,decide_false];simp only [show ¬ ((k:Int)+1 > 2) by omega,dJ,reduceIte,Bool.false_eq_true,decide_false];refine pS.2 (dR.2 ?_);simp only [show ¬ (((l.length:Nat):Int) > 64) by omega,aA,decide_false];refine aBl λw4 h49 x4 l4=>?_;refine ⟨.inl ⟨_,rfl⟩,?_⟩;refine bA (h.ybox.ext x4).boxed bV dA rfl ?_;refine cpK h49 (x4.own h.list) (by omega) (by omega) (GS λa ha=>bM (h.data a ha)) x4.size λg54 c54 w5 h54 hg54 hl54 l5=>?_;have X5:aG w w5:=x4.grown hg54 λi hi=>(h49.lt i hi).1;have s5:=X5.size;refine jV.2 ?_;rw [show IntKind.i64.wrap ((k:Int)+1 - 1)=(k:Int) from by rw [aX (by omega)];omega];refine mF mQ [] rfl rfl (by simp) rfl λv1 w6 ho1 x6=>?_;have X6:=X5.trans x6;have s6:=x6.size;refine aOt ho1 (hv.ext X6) (by omega) s6 λv2 w7 ho2 hg2 hl2=>?_;have f2:Fr (λi=>v1.ownBlock=some i) w6 w7:=Fr.of_grown hg2 λi hi=>hi;have X7:aG w w7:=X6.grown hg2 λi hi=>Nat.le_trans s5 (ho1.lt i hi).1
 have h54':=f2.own (x6.own h54) λi hi e=>by
  have:g54=i:=by simpa [Value.ownBlock] using hi
  have:=(ho1.lt i e).1;omega
 have ho2':=aR ho2 s5;refine V.ok (nV (by omega) (by omega)) ?_;have e:0+((k:Nat):Int).toNat*5=k*5:=by omega
 rw [e];refine V.ok jY ?_;have hcell:=h54'.cellAt (k*5+4) (by omega);rw [kA hk (by omega:4 < 5)] at hcell;refine U.ok (lV lO (bM ho2) hcell (h54'.frozenAt _)) ?_;refine ⟨.inl ⟨_,rfl⟩,?_⟩;have f8:Fr (λi=>i=g54) w7 (w7.setCell ⟨g54,k*5+4,none⟩ v2):=Fr.of_set rfl;have row8:=(h54'.stored (k*5+4) v2).1;rw [<- yL hk v2 l] at row8
 have hne:∀ i,v2.ownBlock=some i->i≠g54:=λi hi e=>by
  have h6:=(ho2.lt i hi).1;have:=(h54.lt g54 rfl).2;omega
 have hdv8:=f8.own ho2' hne;have X8:aG w (w7.setCell ⟨g54,k*5+4,none⟩ v2):=f8.ext X7 λi hi=>by rw [hi];exact (h54.lt _ rfl).1
 generalize w7.setCell ⟨g54,k*5+4,none⟩ v2=w8 at row8 hdv8 X8 ⊢;refine V.ok uD ?_;have hy8:=h.ybox.ext X8;refine wX sI hy8 rfl (by simp) rfl ?_;obtain ⟨h9,f9⟩:=h.relist hk X8 row8 hdv8 hl (Fr.of_set rfl) (hy8.set 1 _);exact ⟨g54,c54,v2,h9,f9⟩
theorem qK.clear (h:qK q w):qK { q with pub:=.slice none 0 0,sec:=.slice none 0 0,tp:=[],ts:=[] } ((w.setCell ⟨q.xb,0+3,none⟩ (.slice none 0 0)).setCell ⟨q.xb,0+4,none⟩ (.slice none 0 0))/\Fr (λi=>i=q.xb) w ((w.setCell ⟨q.xb,0+3,none⟩ (.slice none 0 0)).setCell ⟨q.xb,0+4,none⟩ (.slice none 0 0)):=by
 have r1:=h.xbox.set (j:=3) (by simp) (.slice none 0 0);have r2:=r1.set (j:=4) (by simp) (.slice none 0 0);have f1:Fr (λi=>i=q.xb) w (w.setCell ⟨q.xb,0+3,none⟩ (.slice none 0 0)):=Fr.of_set rfl;have f:Fr (λi=>i=q.xb) w ((w.setCell ⟨q.xb,0+3,none⟩ (.slice none 0 0)).setCell ⟨q.xb,0+4,none⟩ (.slice none 0 0)):=f1.set rfl;have hM:SF q q.xb:=.inl rfl;refine ⟨⟨r2,f.blk h.ybox λe=>h.xy e.symm,f.own h.list λi hi e=>h.dj i (e▸hM) (.inl (by simpa [Value.ownBlock] using hi.symm)),λa ha=>f.own (h.data a ha) λi hi e=>h.dj i (e▸hM) (.inr (.inl ⟨a,ha,hi⟩)),h.len,⟨rfl,.inl ⟨rfl,rfl⟩⟩,⟨rfl,.inl ⟨rfl,rfl⟩⟩,by simp,by simp,h.xy,λi hi hr=>?_,h.two,h.cnt,h.sz⟩,f⟩;rcases hr with hr|hr|hr|hr
 ·exact h.dj i hi (.inl hr)
 ·exact h.dj i hi (.inr (.inl hr))
 iterate 2
  ·cases hr
theorem WN (h:qK q w) {pv qv:O} {a b:List Int} (ha:iZ w pv a) (hb:∀ w',Fr (SF q) w w'->iZ w' qv b) :
  aC prog 43 #[oZ q,pv,qv] w λr w'=>∃ q',r=.bool (kY q.ps a b).1/\q'.ps=(kY q.ps a b).2/\qK q' w'/\IK q q' w w':=by
 apply aQl;unfold TK;obtain ⟨a1,c1,rfl⟩:=ha.shape;obtain ⟨b1,d1,rfl⟩:=(hb w (Fr.refl _ _)).shape;have same:IK q q w w:=⟨⟨rfl,rfl,rfl,rfl,rfl⟩,λi hi=>.inl hi,Fr.refl _ _⟩;refine pS.2 (dR.2 ?_);by_cases h1:((a.length:Nat):Int) > 64
 ·simp only [h1,kB,aJ,aE,reduceIte,decide_true];refine ⟨q,?_,?_,h,same⟩<;>unfold kY<;>rw [if_pos (.inl (by omega))]
 simp only [h1,dJ,aJ,reduceIte,Bool.false_eq_true,decide_false];refine pS.2 (dR.2 ?_);by_cases h2:((b.length:Nat):Int) > 64
 ·simp only [h2,aE,decide_true];refine ⟨q,?_,?_,h,same⟩<;>unfold kY<;>rw [if_pos (.inr (by omega))]
 simp only [h2,aA,decide_false];have hno:¬ (a.length > 64\/b.length > 64):=by omega
 have htwo:=h.two;obtain ⟨x,hx⟩:=bH (l:=q.ar) (j:=0) (by omega);obtain ⟨y,hy⟩:=bH (l:=q.ar) (j:=1) (by omega);refine ⟨.inl ⟨_,rfl⟩,?_⟩;refine bA h.xbox.boxed bJ dE rfl ?_;refine (yE h (k:=0) (by omega) hx ha (by omega)).mono λ_ w1 ⟨g1,c1',v1,k1,s1⟩=>?_;refine ⟨.inl ⟨_,rfl⟩,?_⟩;refine bA k1.xbox.boxed bJ dE rfl ?_;have hy1:(q.ar.set 0 { x with dv:=v1,data:=a })[1]?=some y:=by rw [List.getElem?_set_ne (by decide)];exact hy
 refine (yE k1 (k:=1) (by omega) hy1 (hb w1 s1.fr) (by omega)).mono λ_ w2 ⟨g2,c2,v2,k2,s2⟩=>?_;have S2:=s1.trans s2;refine ⟨.inl ⟨_,rfl⟩,?_⟩;refine V.ok uE ?_;refine GM lO k2.xbox rfl (by simp) rfl ?_;have r3:=k2.xbox.set (j:=3) (by simp) (.slice none 0 0);refine ⟨.inl ⟨_,rfl⟩,?_⟩;refine V.ok yN ?_;refine GM lO r3 rfl (by simp) rfl ?_;obtain ⟨k4,f4⟩:=k2.clear;refine ⟨_,?_,?_,k4,S2.trans ⟨⟨rfl,rfl,rfl,rfl,rfl⟩,λi hi=>?_,f4.mono λi hi=>.inl hi⟩⟩
 ·unfold kY;rw [if_neg hno]
 ·unfold kY;rw [if_neg hno];show (⟨q.size,((q.ar.set 0 { x with dv:=v1,data:=a }).set 1 { y with dv:=v2,data:=b }).map pa,[],[],q.tr⟩:PS)=_;rw [vU (r:=2) hy1 (by omega),vU (r:=1) hx (by omega)];rfl
 ·rcases hi with hm|hm|hm|hm
  ·exact .inl (.inl hm)
  ·exact .inl (.inr (.inl hm))
  iterate 2
   ·cases hm
end
section
variable {l:List bF} {p:iY} {q:QP} {vs:List O} {fd:List (List Int)} {B:Nat} {w w':Ω}
theorem UJ.fr {S:Nat->Prop} (h:UJ l p fd B w) (f:Fr S w w') (hn:∀ a i,BR p a i->¬ S i):UJ l p fd B w':=by
 obtain ⟨cs,h1,h2⟩:=h.iv;refine ⟨h.room.fr f λi hi=>hn .rm i hi,⟨cs,f.own h1 λi hi=>hn .mb i hi,λk i hk=>?_⟩,f.own h.fv λi hi=>hn .fo i hi,λk v d hk hd=>f.own (h.row k v d hk hd) λi hi=>hn .fd i ⟨v,List.mem_of_getElem? hk,hi⟩,h.dj,h.sep.step f.size .ex λa i ha=>.inl ha,h.ge,Nat.le_trans h.hB f.size⟩;obtain ⟨pk,h3,h4⟩:=h2 k i hk;exact ⟨pk,h3,h4.fr f λi hi=>hn .im i hi⟩
theorem RBd.fr {l:List (bP × bF)} {S:Nat->Prop} (h:RBd l q vs fd B w) (f:Fr S w w') (hn:∀ a i,BQ q vs a i->¬ S i):RBd l q vs fd B w':=by
 obtain ⟨cs,h1,h2⟩:=h.iv;exact ⟨h.ref.fr f λi hs=>⟨λhm=>hn .rm i (.inl hm) hs,λhm=>hn .rm i (.inr hm) hs⟩,⟨cs,f.own h1 λi hi=>hn .mb i hi,h2⟩,h.one,f.own h.fv λi hi=>hn .fo i hi,λk v d hk hd=>f.own (h.row k v d hk hd) λi hi=>hn .fd i ⟨v,List.mem_of_getElem? hk,hi⟩,h.djv,h.sep.step f.size .ex λa i ha=>.inl ha,h.ge,Nat.le_trans h.hB f.size⟩
end
structure Two (l:List (bP × bF)) (p:iY) (q:QP) (vs:List O) (fd:List (List Int)) (B:Nat) (w:Ω):Prop where
 bld:UJ (l.map (·.2)) p fd B w
 rbd:RBd l q vs fd B w
 no:∀ a b i,BR p a i->¬ BQ q vs b i
 hp:p.rp.ps=⟨p.rp.size,qP.map pa,[],[],p.rp.tr⟩
 hq:q.ps=⟨p.rp.size,qP.map pa,[],[],q.tr⟩
 fz:fd=l.map λx=>List.replicate x.2.fields.length 0
 one:∀ i,p.rp.B<=i->B<=i
end Go.Proofs.YtgkkecladbmjkaaGreatDoor
