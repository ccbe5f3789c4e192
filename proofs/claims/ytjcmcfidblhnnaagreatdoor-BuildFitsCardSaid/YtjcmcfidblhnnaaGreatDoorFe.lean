/- General laws of operations (from the other texts of this seed). -/
import Derived.Test.YtjcmcfidblhnnaaGreatDoorFb
import Derived.Test.YtjcmcfidblhnnaaGreatDoorFc
import Derived.Test.YtjcmcfidblhnnaaGreatDoorFd
import Derived.Deep.AppendLies
import Derived.Laws.CopyRow
import Derived.Laws.BytesArg
set_option maxHeartbeats 8000000
namespace Go.Vc
section
variable {P:Program} {w:O} {K:Y->O->Prop}
theorem VI {t x:TypeId} {z:Y} {by_:Nat} (h:XA P t 1) (hx:dD P x z 1 by_) {g n c e:Nat} {cs:List Y} (hb:bO w g cs e) (hn:cs.length=n) {k:IntKind} {i:Int} (h0:0<=i) (h1:i < n) {u:Y} (hu:bY u=true) {K':O->Prop}
  (hk:K' (w.setCell ⟨g,i.toNat,none⟩ u)) :
  V P (Instr.indexAt t (.slice (some ⟨g,0,none⟩) n c) (.int k i)) w λp w1=>U P (Instr.storeAt x p u) w1 λ_ w2=>K' w2:=by
 obtain ⟨e',z',b',ht,hi⟩:=h;refine V.ok (iL ht hi h0 h1) ?_;have hlt:i.toNat < cs.length:=by omega
 have hc:=hb.cell i.toNat;rw [List.getElem?_eq_getElem hlt] at hc;simp only [Nat.zero_add,Nat.mul_one];exact U.ok (mW hx hu hc (hb.frozen _)) hk
theorem aY.other {b g j:Nat} {cs:List Y} {u:Y} (h:aY w b cs) (hne:b≠g):aY (w.setCell ⟨g,j,none⟩ u) b cs:=λi v hi=>by
 have:=h i v hi;rw [World.cell?_setCell_other _ _ _ _ (by intro he;cases he;exact hne rfl)];exact this
end
section
variable {P:Program} {w:O} {K:Y->O->Prop} {S:O->Prop} {L:Y->Prop}
theorem jG {s f o ft b:Nat} {cs:List Y} {u:Y} (hb:∀ w',S w'->aY w' b cs) (h:FA P s f o) (hl:L1 P ft) (hc:cs[o]?=some u) (hk:L u) :
  aD P S (Instr.fieldAt s (.pointer (some ⟨b,0,none⟩)) f) λq=>aD P S (Instr.loadAt ft q) L:=by
 obtain ⟨d,hd,ha⟩:=hl;exact aD.ok (λw' _=>h.ex w' b 0) (aD.ok (λw' hw=>jD hd ha (hb w' hw o u hc)) hk)
theorem oE {t x:TypeId} {v:Y} {n:Nat} {cs:List Y} {k:IntKind} {i:Int} {u:Y} (h:XA P t 1) (hl:L1 P x) (hs0:aA w v 1 n cs) (hx:∀ w',S w'->aE w w') (h0:0<=i) (h1:i < n) (hu:cs[i.toNat]?=some u) (hk:L u) :
  aD P S (Instr.indexAt t v (.int k i)) λp=>aD P S (Instr.loadAt x p) L:=by
 obtain ⟨e,z,b',ht,hi⟩:=h;obtain ⟨d,hd,ha⟩:=hl;obtain ⟨b,off,cap,rfl,hc⟩:=hs0.there (by omega);refine aD.ok (λw' _=>iL ht hi h0 h1) (aD.ok (λw' hw=>jD hd ha ((hx w' hw).cell ?_)) hk);simpa using hc _ _ hu
theorem sS {t ty n:Nat} {m:Nat} {v:Y} {size:Nat} {cs:List Y} (h:XA P t n) (hs:aA w v size m cs) (hk:L (i64 m)):aD P S (Builtin.len_ #[t] ty #[v]) L:=by
 obtain ⟨e,z,b,ht,hi⟩:=h;obtain ⟨a,c,rfl⟩:=hs.shape;exact aD.ok (λw' _=>xL ht) hk
end
theorem xU {P:Program} {w:O} {K:Y->O->Prop} {t e by_:Nat} {z:Y} {x:Int} {n:Nat} (hx:x=(n:Int)) (ht:P.underlying t=some (.slice e)) (hi:dD P e z 1 by_) (hz:z.cells=#[z]) (hb:by_*n<=281474976710656) (h63:n<=9223372036854775807)
  (hk:∀ w',bO w' w.heap.size (List.replicate n z) e->aE w w'->w'.heap.size=w.heap.size+1->K (.slice (some ⟨w.heap.size,0,none⟩) n n) w'):V P (Instr.makeSlice t (.int .i64 x) (.int .i64 x)) w K:=by
 subst hx;exact mkB ht hi hz hb h63 hk
section
variable {P:Program} {w:O} {S:O->Prop} {L:Y->Prop}
theorem yA {t n b:Nat} {cs:List Y} (hb:∀ w',S w'->aY w' b cs) (ht:∃ d z by_,P.underlying t=some d/\mA d=true/\dD P t z n by_) (hl:cs.length=n) (hk:L (.agg cs.toArray)):aD P S (Instr.loadAt t (.pointer (some ⟨b,0,none⟩))) L:=by
 obtain ⟨d,z,by_,h1,h2,h3⟩:=ht
 exact aD.ok (λw' hw=>nT h1 h2 h3 hl λj hj=>by
  obtain ⟨u,hu⟩:∃ u,cs[j]?=some u:=⟨_,List.getElem?_eq_getElem hj⟩;rw [hu];exact hb w' hw j u hu) hk
variable {K:Y->O->Prop}
end
end Go.Vc
namespace Go.Vc
open Go.Proofs
section
variable {P:Program} {w:O} {K:Y->O->Prop}
theorem zA {t:TypeId} {z:Y} {n by_:Nat} (hi:dD P t z n by_) (hk:∀ w1,bO w1 w.heap.size z.cells.toList t->aE w w1->K (.pointer (some ⟨w.heap.size,0,none⟩)) w1):V P (Instr.alloc t true (.tuple #[])) w K:=
 V.ok (VT hi) (hk _ (by unfold bO;rw [heap_alloc_new]) ((aE.refl w).alloc _))
theorem bxK {t:TypeId} {v:Y} (hk:∀ w1,bO w1 w.heap.size v.cells.toList t->aE w w1->K (.pointer (some ⟨w.heap.size,0,none⟩)) w1):V P (Instr.box t v) w K:=
 V.ok aZw (hk _ (by unfold bO;rw [heap_alloc_new]) ((aE.refl w).alloc _))
theorem rX {t n:TypeId} {v:Y} {K':Y->O->Prop} (h:SA P t n) (hn:v.cells.size=n) (h1:v.cells.toList.all bY=true) (hk:∀ w1,bO w1 w.heap.size v.cells.toList t->aE w w1->K' (.pointer (some ⟨w.heap.size,0,none⟩)) w1) :
  V P (Instr.alloc t true (.tuple #[])) w (λp w1=>U P (Instr.storeAt t p v) w1 λ_ w2=>K' p w2):=
 as_ h hn h1 (hk _ (by unfold bO;rw [heap_alloc_new]) ((aE.refl w).alloc _))
theorem bO.boxed {g:Nat} {cs:List Y} {e:TypeId} (h:bO w g cs e):aY w g cs:=λj u hj=>by rw [Nat.zero_add,h.cell];exact hj
structure UY (w:O) (g:Nat) (w':O):Prop where
 ext:∀ a,aE a w->a.heap.size<=g->aE a w'
 same:∀ i,i≠g->w'.heap[i]?=w.heap[i]?
 size:w'.heap.size=w.heap.size
 grown:w.grownBy w' (some g)
theorem UY.other {w w':O} {g g':Nat} {cs:List Y} {e:TypeId} (h:UY w g w') (hne:g'≠g) (hb:bO w g' cs e):bO w' g' cs e:=by
 unfold bO at hb ⊢;rw [h.same g' hne];exact hb
theorem UY.cell {w w':O} {g b o:Nat} (h:UY w g w') (hne:b≠g):w'.cell? ⟨b,o,none⟩=w.cell? ⟨b,o,none⟩:=by
 unfold World.cell?;rw [h.same b hne]
theorem UY.ownRow {w w':O} {g B e sz n:Nat} {v:Y} {xs:List Y} (h:UY w g w') (ho:w.ownsRow B e sz v n xs) (hB:g < B):w'.ownsRow B e sz v n xs:=
 ho.kept h.grown (SU ho λk hk=>by cases hk;exact hB)
theorem UY.own {w w':O} {g B e n:Nat} {v:Y} {xs:List Y} (h:UY w g w') (ho:w.ownsRow B e 1 v n xs) (hB:g < B):aA w' v 1 n xs:=by
 obtain ⟨h1,h2⟩:=aA.of_own ho;refine ⟨h1,?_⟩;rcases h2 with h2|⟨b,off,cap,rfl,h3,h4,h5⟩
 ·exact .inl h2
 ·refine .inr ⟨b,off,cap,rfl,h3,h4,λj u hj=>?_⟩;rw [h.cell]
  ·exact h5 j u hj
  ·have:=(ho.lt b rfl).1;omega
theorem CS {g:Nat} {e:TypeId}:∀ (l done old:List Y) (w:O),l.length=old.length->(∀ u∈l,bY u=true)->bO w g (done++old) e ->
  ∃ w',(storeCells ⟨g,0,none⟩ l done.length).run P w=.ok () w'/\bO w' g (done++l) e/\UY w g w'
 | [],done,[],w,_,_,hb=>⟨w,by simp [storeCells],hb,⟨λ_ h _=>h,λ_ _=>rfl,rfl,⟨rfl,rfl,rfl,Nat.le_refl _,λ_ _ _=>rfl⟩⟩⟩
 | v::l,done,u::old,w,hl,h1,hb=>by
  have hc:=hb.cell done.length;simp only [List.getElem?_append_right (Nat.le_refl _),Nat.sub_self,List.getElem?_cons_zero] at hc;have hs:=pE (P:=P) (h1 v (by simp)) hc (hb.frozen done.length)
  have hb1:bO (w.setCell ⟨g,done.length,none⟩ v) g ((done++[v])++old) e:=by
   have:=hb.set done.length v;rw [List.set_append_right _ _ (Nat.le_refl _)] at this;simpa using this
  obtain ⟨w',h2,h3,h4⟩:=CS l (done++[v]) old _ (by simpa using hl) (λu hu=>h1 u (by simp [hu])) hb1;refine ⟨w',?_,by simpa using h3,⟨λa ha hg=>h4.ext a (ha.setCell hg v) hg,λi hi=>(h4.same i hi).trans (heap_setCell_other _ _ _ _ (λhe=>hi he)),h4.size.trans (by simp),⟨h4.grown.os,h4.grown.tape,h4.grown.output,by have:=h4.grown.size;simpa using this,λk hk hne=>(h4.grown.block k (by simpa using hk) hne).trans (heap_setCell_other _ _ _ _ (λhe=>hne (by simp [he])))⟩⟩⟩;simp only [storeCells,lE,Nat.zero_add,Sem.run_bind];rw [hs,Result.andThen_ok];simpa using h2
theorem yW {t:TypeId} {z v:Y} {n by_ g:Nat} {old l:List Y} {e:TypeId} {K':Y->O->Prop} (hi:dD P t z n by_) (hb:bO w g old e) (hv:v.cells=l.toArray) (hl:l.length=n) (ho:old.length=n) (h1:l.all bY=true)
  (hk:∀ w',bO w' g l e->UY w g w'->K' undef w'):U P (Instr.storeAt t (.pointer (some ⟨g,0,none⟩)) v) w K':=by
 obtain ⟨w',h2,h3,h4⟩:=CS (P:=P) l [] old w (by omega) (λu hu=>List.all_eq_true.1 h1 u hu) hb;refine U.ok ?_ (hk w' (by simpa using h3) h4);simp only [List.length_nil] at h2;simp [Instr.storeAt,Instr.sureAddr,storeVar,fX hi,hv,hl,h2]
theorem nS {t:TypeId} {d:TypeDesc} {z:Y} {n by_ g:Nat} {l:List Y} {e:TypeId} (ht:P.underlying t=some d) (hd:mA d=true) (hi:dD P t z n by_) (hb:bO w g l e) (hl:l.length=n) :
  (loadVar t ⟨g,0,none⟩).run P w=.ok (.agg l.toArray) w:=by
 have:=nT (P:=P) (w:=w) (b:=g) (off:=0) ht hd hi hl λj hj=>by
  obtain ⟨u,hu⟩:∃ u,l[j]?=some u:=⟨_,List.getElem?_eq_getElem hj⟩;rw [hu,Nat.zero_add,hb.cell];exact hu
 simpa [Instr.loadAt,Instr.sureAddr] using this
end
end Go.Vc
namespace Go.Vc
section
variable {P:Program} {w:O} {K:Y->O->Prop} {S:O->Prop} {L:Y->Prop}
theorem uI {t x:TypeId} {v:Y} {n sz:Nat} {cs l:List Y} {k:IntKind} {i:Int} (h:XA P t sz) (ht:∃ d z by_,P.underlying x=some d/\mA d=true/\dD P x z sz by_) (hs:aA w v sz n cs) (h0:0<=i) (h1:i < n)
  (hc:(cs.drop (i.toNat*sz)).take sz=l) (hl:l.length=sz) (hk:K (.agg l.toArray) w) :
  V P (Instr.indexAt t v (.int k i)) w λp w1=>V P (Instr.loadAt x p) w1 K:=by
 obtain ⟨e,z,b',hte,hi⟩:=h;obtain ⟨d,z',by_,h2,h3,h4⟩:=ht;obtain ⟨b,off,cap,rfl,hcell⟩:=hs.there (by omega);refine V.ok (iL hte hi h0 h1) (V.ok (nT h2 h3 h4 hl λj hj=>?_) hk);obtain ⟨u,hu⟩:∃ u,l[j]?=some u:=⟨_,List.getElem?_eq_getElem hj⟩;rw [hu,Nat.add_assoc];refine hcell _ u ?_;rw [<- hc,List.getElem?_take,List.getElem?_drop] at hu;split at hu
 ·exact hu
 ·cases hu
theorem aBc {t:TypeId} {a b:Int} (hk:L (.bool (decide (a < b)))):aD P S (binOp .lss t (.int .i64 a) (.int .i64 b)) L:=aD.ok (λ_ _=>AG) hk
theorem bKq {t:TypeId} {a b:Int} (hk:L (.bool (decide (a>=b)))):aD P S (binOp .geq t (.int .i64 a) (.int .i64 b)) L:=aD.ok (λ_ _=>xM) hk
end
end Go.Vc
namespace Go.Vc
open Go.Proofs
section
variable {P:Program} {w:O} {K:Y->O->Prop} {S:O->Prop} {L:Y->Prop}
theorem nB {t:TypeId} {zs:List Y} (h:BD P t zs) {parts:Array (Nat × Y)} (l:List (Nat × Y)) (hp:parts=l.toArray) (h1:(l.all λx=>decide (x.1 < zs.length)&&bY x.2)=true)
  (hk:L (.agg (l.foldl (λcs x=>cs.set x.1 x.2) zs).toArray)):aD P S (Instr.build t parts) L:=by
 subst hp;obtain ⟨fs,b,hu,hi,hm⟩:=h;refine aD.ok (λw _=>?_) hk;simp only [Instr.build,Sem.run_bind,qU hi,Result.andThen_ok,run_underlying hu,hm,Value.cells];rw [aIe l zs rfl h1];simp
theorem qA {t:TypeId} (h:MI P t) {v:Y} (hk:L (.iface t v)):aD P S (Instr.makeInterface t v) L:=by
 obtain ⟨d,hu,hd⟩:=h;refine aD.ok (λw _=>?_) hk;cases d<;>first|(simp [Instr.makeInterface,run_underlying hu];done)|cases hd
theorem bBm {t:TypeId} {ts:Array TypeId} {a b:Int}:(Builtin.max_ ts t #[.int .i64 a,.int .i64 b]).run P w=.ok (.int .i64 (if a < b then b else a)) w\/(Builtin.max_ ts t #[.int .i64 a,.int .i64 b]).run P w=.ok (.int .i64 (if b < a then a else b)) w:=by
 simp [Builtin.max_,Builtin.max2]
theorem mx2 {t:TypeId} {ts:Array TypeId} {a b:Int} (hk:∀ c,(c=a\/c=b)->a<=c->b<=c->K (.int .i64 c) w):V P (Builtin.max_ ts t #[.int .i64 a,.int .i64 b]) w K:=by
 rcases bBm (P:=P) (w:=w) (t:=t) (ts:=ts) (a:=a) (b:=b) with h|h
 iterate 2
  ·exact V.ok h (hk _ (by split<;>simp) (by split<;>omega) (by split<;>omega))
theorem aFm {t:TypeId} {ts:Array TypeId} {a b:Int}:(Builtin.min_ ts t #[.int .i64 a,.int .i64 b]).run P w=.ok (.int .i64 (if a < b then a else b)) w\/(Builtin.min_ ts t #[.int .i64 a,.int .i64 b]).run P w=.ok (.int .i64 (if b < a then b else a)) w:=by
 simp [Builtin.min_,Builtin.min2]
theorem mn2 {t:TypeId} {ts:Array TypeId} {a b:Int} (hk:∀ c,(c=a\/c=b)->c<=a->c<=b->K (.int .i64 c) w):V P (Builtin.min_ ts t #[.int .i64 a,.int .i64 b]) w K:=by
 rcases aFm (P:=P) (w:=w) (t:=t) (ts:=ts) (a:=a) (b:=b) with h|h
 iterate 2
  ·exact V.ok h (hk _ (by split<;>simp) (by split<;>omega) (by split<;>omega))
theorem rm {t:TypeId} {a b:Int} (hb:0 < b) (hk:∀ c,c=a.tmod b->-b < c->c < b->K (.int .i64 c) w):V P (binOp .rem t (.int .i64 a) (.int .i64 b)) w K:=by
 have hne:b≠0:=by omega
 have hr:(binOp .rem t (.int .i64 a) (.int .i64 b)).run P w=.ok (.int .i64 (a.tmod b)) w:=by simp [binOp,Op.intDiv,hne]
 exact V.ok hr (hk _ rfl (by have:=Int.lt_tmod_of_pos a hb;simpa using this) (Int.tmod_lt_of_pos a hb))
theorem VS {t e n:TypeId} {z:Y} {by_:Nat} (ht:P.underlying t=some (.array n e)) (hi:dD P e z 1 by_) {b off:Nat} {i:Int} (h0:0<=i) (h1:i < n) :
  (Instr.indexAt t (.pointer (some ⟨b,off,none⟩)) (.int .i64 i)).run P w=.ok (.pointer (some ⟨b,off+i.toNat,none⟩)) w:=by
 simp [Instr.indexAt,asIntOf,run_underlying ht,Instr.sureAddr,fX hi,h0,h1,lE]
theorem bIu {t e n:TypeId} {z:Y} {by_:Nat} (ht:P.underlying t=some (.array n e)) (hi:dD P e z 1 by_) (hd:∃ k,P.underlying e=some (.int k)) {cs:Array Y} {i:Int} {u:Y} (h0:0<=i) (h1:i < n) (hu:cs[i.toNat]?=some u) (_:bY u=true) :
  (Instr.index t (.agg cs) (.int .i64 i)).run P w=.ok u w:=by
 obtain ⟨k,hd⟩:=hd;simp [Instr.index,asIntOf,run_underlying ht,fX hi,h0,h1,part,uX hd,mA,hu]
theorem bKw {t e:TypeId} {z:Y} {by_:Nat} (ht:P.underlying t=some (.slice e)) (hi:dD P e z 1 by_) {a:Option Addr} {n c k:Nat} (hk:k<=c) :
  (Instr.sliceAt t (.slice a n c) none (some (.int .i64 (k:Int))) none).run P w=.ok (.slice (if c=0 then a else a.map (·.add 0)) k c) w:=by
 have h0:(0:Int)<=k/\(k:Int)<=c:=⟨by omega,by omega⟩;simp [Instr.sliceAt,Instr.slice,run_underlying ht,fX hi,Instr.sliceBounds,Instr.sliceBound,asIntOf,h0];intro h;omega
end
end Go.Vc
namespace Go.Vc
section
variable {P:Program} {w:O}
theorem thK {u x:TypeId} {v:Y} {K:Y->Y->O->Prop} (h:TA P u) (hK:K (.bool true) v w) :
  V P (Instr.typeAssert (.iface u v) x u true) w λt1 w1=>V P (Instr.extract t1 1) w1 λt2 w2=>V P (Instr.extract t1 0) w2 λt3 w3=>K t2 t3 w3:=by
 obtain ⟨z,hz,_⟩:=h;refine V.ok (hz w x u v) ?_;rw [if_pos rfl];exact V.ok nD (V.ok nE hK)
theorem tmK {u t x:TypeId} {v:Y} {K:Y->Y->O->Prop} (h:TA P u) (hne:t≠u) (hK:∀ z,K (.bool false) z w) :
  V P (Instr.typeAssert (.iface t v) x u true) w λt1 w1=>V P (Instr.extract t1 1) w1 λt2 w2=>V P (Instr.extract t1 0) w2 λt3 w3=>K t2 t3 w3:=by
 obtain ⟨z,hz,_⟩:=h;refine V.ok (hz w x t v) ?_;rw [if_neg hne];exact V.ok nD (V.ok nE (hK _))
end
structure Fr (S:Nat->Prop) (w w':O):Prop where
 os:w'.os=w.os
 tape:w'.tape=w.tape
 output:w'.output=w.output
 size:w.heap.size<=w'.heap.size
 block:∀ i,i < w.heap.size->¬ S i->w'.heap[i]?=w.heap[i]?
theorem Fr.refl (S:Nat->Prop) (w:O):Fr S w w:=⟨rfl,rfl,rfl,Nat.le_refl _,λ_ _ _=>rfl⟩
theorem Fr.trans {S T:Nat->Prop} {a b c:O} (h:Fr S a b) (k:Fr T b c) (hT:∀ i,i < a.heap.size->T i->S i):Fr S a c:=
 ⟨k.os.trans h.os,k.tape.trans h.tape,k.output.trans h.output,Nat.le_trans h.size k.size,λi hi hn=>(k.block i (Nat.lt_of_lt_of_le hi h.size) λht=>hn (hT i hi ht)).trans (h.block i hi hn)⟩
theorem Fr.or {S T:Nat->Prop} {a b c:O} (h:Fr S a b) (k:Fr T b c):Fr (λi=>S i\/T i) a c:=
 ⟨k.os.trans h.os,k.tape.trans h.tape,k.output.trans h.output,Nat.le_trans h.size k.size,λi hi hn=>(k.block i (Nat.lt_of_lt_of_le hi h.size) λht=>hn (.inr ht)).trans (h.block i hi λhs=>hn (.inl hs))⟩
theorem Fr.mono {S T:Nat->Prop} {a b:O} (h:Fr S a b) (hT:∀ i,S i->T i):Fr T a b:=⟨h.os,h.tape,h.output,h.size,λi hi hn=>h.block i hi λhs=>hn (hT i hs)⟩
theorem Fr.of_ext {S:Nat->Prop} {w w':O} (h:aE w w'):Fr S w w':=⟨h.os,h.tape,h.output,h.size,λi hi _=>h.block i hi (by simp)⟩
theorem Fr.of_grown {S:Nat->Prop} {w w':O} {row:Option Nat} (h:w.grownBy w' row) (hr:∀ k,row=some k->S k):Fr S w w':=⟨h.os,h.tape,h.output,h.size,λi hi hn=>h.block i hi λhe=>hn (hr i he.symm)⟩
theorem Fr.of_set {S:Nat->Prop} {w:O} {b o:Nat} {v:Y} (hb:S b):Fr S w (w.setCell ⟨b,o,none⟩ v):=⟨rfl,rfl,rfl,by simp,λi _ hn=>heap_setCell_other _ _ _ _ (λhe=>hn (by simp [he];exact hb))⟩
theorem Fr.set {S:Nat->Prop} {w w':O} (h:Fr S w w') {b o:Nat} {v:Y} (hb:S b):Fr S w (w'.setCell ⟨b,o,none⟩ v):=h.trans (Fr.of_set (S:=S) hb) λ_ _ h=>h
theorem Fr.ext {S:Nat->Prop} {w0 w w':O} (h:Fr S w w') (hx:aE w0 w) (hS:∀ i,S i->w0.heap.size<=i):aE w0 w':=
 ⟨h.os.trans hx.os,h.tape.trans hx.tape,h.output.trans hx.output,Nat.le_trans hx.size h.size,λi hi hn=>(h.block i (Nat.lt_of_lt_of_le hi hx.size) λhs=>by have:=hS i hs;omega).trans (hx.block i hi hn)⟩
theorem Fr.blk {S:Nat->Prop} {w w':O} {g:Nat} {cs:List Y} {e:TypeId} (h:Fr S w w') (hb:bO w g cs e) (hn:¬ S g):bO w' g cs e:=by
 unfold bO;rw [h.block g hb.lt hn];exact hb
theorem Fr.own {S:Nat->Prop} {w w':O} {B e sz n:Nat} {v:Y} {xs:List Y} (h:Fr S w w') (ho:w.ownsRow B e sz v n xs) (hn:∀ k,v.ownBlock=some k->¬ S k):w'.ownsRow B e sz v n xs:=by
 refine ⟨ho.1,?_⟩;rcases ho.2 with h1|⟨g,cap,cur,rfl,hb,hg,rest⟩
 ·exact .inl h1
 ·refine .inr ⟨g,cap,cur,rfl,hb,?_,rest⟩;rw [h.block g (Array.getElem?_eq_some_iff.1 hg).1 (hn g rfl)];exact hg
theorem apL {P:Program} {w:O} {K:Y->O->Prop} {t e by_ ty:Nat} (h:XE P t e by_) {B B':Nat} {v:Y} {n:Nat} {xs:List Y} (ho:w.ownsRow B e 1 v n xs) {x:Y} {m:Nat} {news:List Y} (hs:w.ownsRow B' e 1 x m news) (hm:0 < m) (h1:news.all bY=true)
  (hb:(n+m)*by_<=140737488355328) (h63:n+m<=maxLen) (hB:B<=w.heap.size)
  (hk:∀ g cap w',w'.ownsRow B e 1 (.slice (some ⟨g,0,none⟩) (n+m) cap) (n+m) (xs++news)->w.grownBy w' v.ownBlock->(v.ownBlock=some g\/g=w.heap.size)->K (.slice (some ⟨g,0,none⟩) (n+m) cap) w') :
  V P (Builtin.append_ #[t,t] ty #[v,x]) w K:=by
 obtain ⟨z,ht,hi,hz⟩:=h;obtain ⟨i,hi',hz',hn,hby⟩:=info_parts hi;have hs0:=hs;rcases hs.2 with ⟨_,h0⟩|⟨b,cap,cur,rfl,_⟩
 ·omega
 ·obtain ⟨g,cap,w',hr,h2,h3,h4,h5⟩:=run_append_lies (P:=P) (w:=w) t ty B e i z 1 by_ ht hi' hz' hn hby (by simpa using hz) (by omega) v n xs ho ⟨b,0,none⟩ m cap news (by have:=hs.1;simpa using this) (hs0.cells rfl) (λu hu=>by rw [BP];exact List.all_eq_true.1 h1 u hu) hm h63 hb hB _ rfl;exact V.ok hr (hk g cap w' h2 h3 h4)
theorem fnK {P:Program} {w:O} {K:Y->O->Prop} {f:Fn} {a c:Array Y} (h:K (.func f a c) w):V P (Instr.makeFunc f a c) w K:=V.ok (by simp [Instr.makeFunc]) h
theorem ldV {P:Program} {w:O} {K:Y->O->Prop} {t b:Nat} {v:Y} {e:TypeId} (hl:L1 P t) (hb:bO w b [v] e) (hk:K v w):V P (Instr.loadAt t (.pointer (some ⟨b,0,none⟩))) w K:=by
 obtain ⟨d,hd,ha⟩:=hl;exact V.ok (jD hd ha (by rw [hb.cell];rfl)) hk
theorem FS {P:Program} {w:O} {K:O->Prop} {s f o ft b n by_:Nat} {z u:Y} {cs:List Y} {e:TypeId} (hf:FA P s f o) (hi:dD P ft z 1 by_) (hb:bO w b cs e) (hn:cs.length=n) (ho:o < n) (hu:bY u=true) (hk:K (w.setCell ⟨b,o,none⟩ u)) :
  V P (Instr.fieldAt s (.pointer (some ⟨b,0,none⟩)) f) w λq w1=>U P (Instr.storeAt ft q u) w1 λ_ w2=>K w2:=by
 refine V.ok (hf.ex w b 0) ?_;have hc:=hb.cell o;rw [List.getElem?_eq_getElem (by omega)] at hc;rw [Nat.zero_add];exact U.ok (mW hi hu hc (hb.frozen _)) hk
theorem KZ {P:Program} {w:O} {x:TypeId} {z:Y} {by_:Nat} (hx:dD P x z 1 by_) {g e i:Nat} {cs:List Y} (hb:bO w g cs e) (h1:i < cs.length) {u:Y} (hu:bY u=true) {K':O->Prop}
  (hk:K' (w.setCell ⟨g,i,none⟩ u)):U P (Instr.storeAt x (.pointer (some ⟨g,0+i*1,none⟩)) u) w λ_ w2=>K' w2:=by
 have hc:=hb.cell i;rw [List.getElem?_eq_getElem h1] at hc;simp only [Nat.zero_add,Nat.mul_one];exact U.ok (mW hx hu hc (hb.frozen _)) hk
theorem rD.mono {P:Program} {w:O} {f:Y} {args:Array Y} {R K:Y->O->Prop} (h:rD P f args w R) (hk:∀ v w',R v w'->K v w'):rD P f args w K:=by
 obtain ⟨g,cap,h1,h2⟩:=h;exact ⟨g,cap,h1,h2.mono hk⟩
theorem bBe {P:Program} {w:O} {K:O->Prop} {ft b o n by_:Nat} {z u:Y} {cs:List Y} {e:TypeId} (hi:dD P ft z 1 by_) (hb:bO w b cs e) (hn:cs.length=n) (ho:o < n) (hu:bY u=true) (hk:K (w.setCell ⟨b,o,none⟩ u)) :
  U P (Instr.storeAt ft (.pointer (some ⟨b,0+o,none⟩)) u) w λ_ w2=>K w2:=by
 have hc:=hb.cell o;rw [List.getElem?_eq_getElem (by omega)] at hc;rw [Nat.zero_add];exact U.ok (mW hi hu hc (hb.frozen _)) hk
section
variable {P:Program} {w:O}
theorem stY {x:TypeId} {z:Y} {by_:Nat} (hx:dD P x z 1 by_) {B e n g c:Nat} {xs:List Y} (ho:w.ownsRow B e 1 (.slice (some ⟨g,0,none⟩) n c) n xs) {i:Nat} (h1:i < n) {u:Y} (hu:bY u=true) {K':O->Prop}
  (hk:∀ w',w'.ownsRow B e 1 (.slice (some ⟨g,0,none⟩) n c) n (xs.set i u)->w.grownBy w' (some g)->K' w') :
  U P (Instr.storeAt x (.pointer (some ⟨g,0+i*1,none⟩)) u) w λ_ w2=>K' w2:=by
 obtain ⟨s1,s2⟩:=ho.stored i u;have hc:=ho.cellAt i (by omega);have hlt:i < xs.length:=by have:=ho.1;omega
 rw [List.getElem?_eq_getElem hlt] at hc;simp only [Nat.zero_add,Nat.mul_one];exact U.ok (mW hx hu hc (ho.frozenAt _)) (hk _ s1 s2)
end
end Go.Vc
namespace Go.Vc
open Go.Proofs
abbrev u8 (b:Int):Y:=.int .u8 b
section
variable {P:Program} {w:O} {K:Y->O->Prop} {S:O->Prop} {L:Y->Prop}
def bKe (w:O) (v:Y) (l:List Int):Prop:=aA w v 1 l.length (l.map u8)
theorem aBv {t e:TypeId} {z:Y} {by_:Nat} (ht:P.underlying t=some (.slice e)) (hi:dD P e z 1 by_) {v:Y} {n:Nat} {cs:List Y} (h:aA w v 1 n cs) {lo hi':Option Y} {a b:Nat} (ha:(lo=none/\a=0)\/lo=some (.int .i64 a)) (hb:(hi'=none/\b=n)\/hi'=some (.int .i64 b)) (hab:a<=b) (hbn:b<=n) :
  ∃ v',(∀ w',(Instr.sliceAt t v lo hi' none).run P w'=.ok v' w')/\∀ w2,aA w2 v 1 n cs->aA w2 v' 1 (b - a) ((cs.drop a).take (b - a)):=by
 have hcl:cs.length=n:=by have:=h.1;omega
 rcases h.2 with ⟨rfl,h0⟩|⟨g,off,cap,rfl,h1,h2,_⟩
 ·have ea:a=0:=by omega
  have eb:b=0:=by omega
  subst ea eb;refine ⟨.slice none 0 0,λw'=>?_,λw2 _=>?_⟩
  ·rcases ha with ⟨rfl,_⟩|rfl<;>rcases hb with ⟨rfl,_⟩|rfl<;>simp [Instr.sliceAt,Instr.slice,run_underlying ht,fX hi,Instr.sliceBounds,Instr.sliceBound,asIntOf]
  ·simp;exact aA.nil w2 1
 ·have hb1:(0:Int)<=b/\(b:Int)<=cap:=⟨by omega,by omega⟩;have ha1:(0:Int)<=a/\(a:Int)<=b:=⟨by omega,by omega⟩;have hbc:b<=cap:=by omega
  refine ⟨.slice (if cap=a then some ⟨g,off,none⟩ else (some (⟨g,off,none⟩:Addr)).map (·.add (a*1))) (b - a) (cap - a),λw'=>?_,λw2 hw2=>?_⟩
  ·rcases ha with ⟨rfl,rfl⟩|rfl<;>rcases hb with ⟨rfl,rfl⟩|rfl<;>simp [Instr.sliceAt,Instr.slice,run_underlying ht,fX hi,Instr.sliceBounds,Instr.sliceBound,asIntOf,hab,hbc]
  ·refine ⟨by simp;omega,.inr ?_⟩;by_cases hca:cap=a
   ·rw [if_pos hca]
    exact ⟨g,off,cap - a,rfl,by omega,by omega,λj u hj=>by
     have:=(List.getElem?_eq_some_iff.1 hj).1;simp at this;omega⟩
   ·rw [if_neg hca];rcases hw2.2 with ⟨he,_⟩|⟨g',off',cap',he,_,_,h3⟩
    ·cases he
    ·cases he;refine ⟨g,off+a,cap - a,by simp [lE],by omega,by omega,λj u hj=>?_⟩;rw [List.getElem?_take] at hj;split at hj
     ·rw [List.getElem?_drop] at hj;have:=h3 _ _ hj;rw [Nat.add_assoc];exact this
     ·cases hj
theorem VR {s:TypeId} {x y:Operand} {a b:ByteArray} :
  (do eqGuard .eql s x y (.string a) (.string b);binOp .eql s (.string a) (.string b)).run P w=.ok (.bool (a.toList == b.toList)) w:=by
 simp [eqGuard,binOp,Op.stringOp]
end
end Go.Vc
namespace Go.Proofs.YtjcmcfidblhnnaaGreatDoor
open Tryz
open Go.Vc
inductive aJ where
 | const (dst n:Int)
 | move (dst src:Int)
 | bin (op dst a b:Int)
 | un (op dst a:Int)
 | choose (dst c a b:Int)
 | tick
 | goto (to:Int)
 | branch (cond to:Int)
 | getField (dst f:Int)
 | putField (f src:Int)
 | serve (op a b dst:Int) (args:List Int)
 | call (m dst:Int) (args:List Int)
 | callX (i dst:Int) (args:List Int)
 | ret (src:Int)
def aJ.val (sv:Y):aJ->Y
 | .const d n=>.iface 90 (.agg #[i64 d,i32 n])
 | .move d s=>.iface 107 (.agg #[i64 d,i64 s])
 | .bin op d a b=>.iface 109 (.agg #[i64 op,i64 d,i64 a,i64 b])
 | .un op d a=>.iface 111 (.agg #[i64 op,i64 d,i64 a])
 | .choose d c a b=>.iface 113 (.agg #[i64 d,i64 c,i64 a,i64 b])
 | .tick=>.iface 40 (.agg #[])
 | .goto t=>.iface 115 (.agg #[i64 t])
 | .branch c t=>.iface 117 (.agg #[i64 c,i64 t])
 | .getField d f=>.iface 119 (.agg #[i64 d,i64 f])
 | .putField f s=>.iface 121 (.agg #[i64 f,i64 s])
 | .serve op a b d _=>.iface 123 (.agg #[i64 op,i64 a,i64 b,i64 d,sv])
 | .call m d _=>.iface 125 (.agg #[i64 m,i64 d,sv])
 | .callX i d _=>.iface 127 (.agg #[i64 i,i64 d,sv])
 | .ret s=>.iface 129 (.agg #[i64 s])
def aJ.args:aJ->List Int
 | .serve _ _ _ _ l|.call _ _ l|.callX _ _ l=>l
 | _=>[]
def aJ.df:aJ->Int
 | .const d _|.move d _|.bin _ d _ _|.un _ d _|.choose d _ _ _|.getField d _|.serve _ _ _ d _|.call _ d _|.callX _ d _=>d
 | _=>-1
def aJ.us:aJ->List Int
 | .move _ s=>[s]
 | .bin _ _ a b=>[a,b]
 | .un _ _ a=>[a]
 | .choose _ c a b=>[c,a,b]
 | .branch c _=>[c]
 | .putField _ s=>[s]
 | .serve _ _ _ _ l|.call _ _ l|.callX _ _ l=>l
 | .ret s=>if s=-1 then [] else [s]
 | _=>[]
def aJ.nx (n:aJ) (k:Int):List Int:=
 match n with
 | .goto t=>[t]
 | .branch _ t=>if t=k+1 then [k+1] else [k+1,t]
 | .ret _=>[]
 | _=>[k+1]
def aN (w:O) (v:Y) (l:List Int):Prop:=aA w v 1 l.length (l.map i64)
def gF (w:O) (v:Y) (l:List Bool):Prop:=aA w v 1 l.length (l.map .bool)
def jA (w:O) (v:Y) (n:aJ):Prop:=∃ sv,v=n.val sv/\aN w sv n.args
theorem jA.ext {w w':O} {v:Y} {n:aJ} (h:jA w v n) (hx:aE w w'):jA w' v n:=by
 obtain ⟨sv,h1,h2⟩:=h;exact ⟨sv,h1,h2.ext hx⟩
structure fN where
 params:Int
 regs:Int
 nodes:List aJ
def rI (w:O) (v:Y) (l:List aJ):Prop:=∃ vs,aA w v 1 l.length vs/\∀ (i:Nat) n,l[i]?=some n->∃ u,vs[i]?=some u/\jA w u n
theorem rI.ext {w w':O} {v:Y} {l:List aJ} (h:rI w v l) (hx:aE w w'):rI w' v l:=by
 obtain ⟨vs,h1,h2⟩:=h;refine ⟨vs,h1.ext hx,λi n hi=>?_⟩;obtain ⟨u,h3,h4⟩:=h2 i n hi;exact ⟨u,h3,h4.ext hx⟩
def pQ (w:O) (v:Y) (p:fN):Prop:=∃ ns,v=.agg #[i64 p.params,i64 p.regs,ns]/\rI w ns p.nodes/\∀ n∈p.nodes,n.args.length<=4294967296
theorem pQ.ext {w w':O} {v:Y} {p:fN} (h:pQ w v p) (hx:aE w w'):pQ w' v p:=by
 obtain ⟨ns,h1,h2,h3⟩:=h;exact ⟨ns,h1,h2.ext hx,h3⟩
theorem aEf (n:aJ):n.us.length<=n.args.length+3:=by
 cases n<;>simp [aJ.us,aJ.args];split<;>simp
theorem aGd (n:aJ) (k:Int):(n.nx k).length<=2:=by
 cases n<;>simp [aJ.nx];split<;>simp
theorem aN.ext {w w':O} {v:Y} {l:List Int} (h:aN w v l) (hx:aE w w'):aN w' v l:=aA.ext h hx
theorem gF.ext {w w':O} {v:Y} {l:List Bool} (h:gF w v l) (hx:aE w w'):gF w' v l:=aA.ext h hx
theorem cK {l:List Int} {j:Nat} {u:Int} (h:l[j]?=some u):(l.map i64)[(j:Int).toNat]?=some (i64 u):=by simp [h]
theorem MS {l:List Bool} {j:Nat} {u:Bool} (h:l[j]?=some u):(l.map Value.bool)[(j:Int).toNat]?=some (.bool u):=by simp [h]
theorem bE {α:Type} {l:List α} {j:Nat} (h:j < l.length):∃ u,l[j]?=some u:=⟨_,List.getElem?_eq_getElem h⟩
theorem bK (j:Nat):Value.int .i64 ((j:Int)+1)=i64 ((j+1:Nat):Int):=by simp
theorem kQ {P:Program} {w:O} {K:Y->O->Prop} {t:TypeId} {j:Nat} (h:-9223372036854775808<=(j:Int)+1/\(j:Int)+1<=9223372036854775807) (hk:K (i64 ((j+1:Nat):Int)) w):V P (binOp .add t (i64 j) (i64 1)) w K:=by
  refine bA.2 ?_;rw [aM h,bK];exact hk
theorem aL (n:Int):RowKit.intOf (i64 n)=n:=rfl
end Go.Proofs.YtjcmcfidblhnnaaGreatDoor
namespace Go.Tc
structure kJ where
 op:Int
 a:Int
 b:Int
structure jN where
 params:List Int
 result:Int
 locals:List Int
 code:List kJ
structure IF where
 name:ByteArray
 exp:Int
 params:List Int
 result:Int
structure iK where
 name:ByteArray
 fields:List Int
 imports:List IF
 methods:List jN
 exports:List Int
def jN.none:jN:=⟨[],0,[],[]⟩
def IF.none:IF:=⟨ByteArray.empty,0,[],0⟩
def kJ.none:kJ:=⟨0,0,0⟩
def jN.locs (m:jN):List Int:=m.params++m.locals
def iK.meth (i:iK) (k:Int):jN:=i.methods.getD k.toNat jN.none
def iK.imp (i:iK) (k:Int):IF:=i.imports.getD k.toNat IF.none
def jN.ins (m:jN) (pc:Nat):kJ:=m.code.getD pc kJ.none
def dX (k:Int):Bool:=k == 1||k == 2
def fR (k:Int):Bool:=k == 3||k == 4
def rF (a b:Int):Int:=if a=2\/b=2 then 2 else 1
def ofK (a:Int):Int:=if a=3 then 1 else if a=4 then 2 else 0
def AO (a b:Int):Option Int:=if dX a&&dX b then some (rF a b) else if fR a&&a == b then some a else none
def lX:List Int->List Int->Option (List Int)
 | [],[]=>some []
 | a::l,b::m=>(AO a b).bind λk=>(lX l m).map (k::·)
 | _,_=>none
def Kd (k:Int):Prop:=1<=k/\k<=4
instance (k:Int):Decidable (Kd k):=by unfold Kd;exact inferInstance
def sA (l:List Int):Prop:=∀ k∈l,Kd k
def lim (op:Int):Int × Int:=
 if op=1 then (-2147483648,2147483647) else if op=2\/op=3 then (0,9) else if op=23\/op=24 then (0,119)
 else if op=25\/op=27 then (3,4) else if op=33\/op=34 then (0,7) else if op=35\/op=36 then (1,2)
 else if op=37 then (0,7) else if op=38 then (0,3) else (0,0)
def kJ.right (x:kJ):Prop:=(1<=x.op/\x.op<=39)/\(lim x.op).1<=x.a/\x.a<=(lim x.op).2/\(if x.op=27 then (0<=x.b/\x.b<=2)\/(4<=x.b/\x.b<=6) else x.b=0)
def rW (l:List Int) (most:Int):Prop:=sA l/\(l.length:Int)<=most
def IF.right (x:IF):Prop:=(0<=x.exp/\x.exp < 4)/\rW x.params 4/\(0<=x.result/\x.result<=4)
def jN.right (m:jN):Prop:=rW m.params 4/\(0<=m.result/\m.result<=4)/\rW m.locals (10 - m.params.length)/\(1<=m.code.length/\m.code.length<=120)/\∀ x∈m.code,x.right
def iK.right (i:iK):Prop:=rW i.fields 8/\(i.imports.length<=4/\∀ x∈i.imports,x.right)/\((1<=i.methods.length/\i.methods.length<=8)/\(∀ m∈i.methods,m.right)/\(i.meth 0).params=[]/\(i.meth 0).result=0) /\
 i.exports.length<=4/\∀ n∈i.exports,0<=n/\n < (i.methods.length:Int)
def fD (i:iK) (m:jN) (x:kJ):Prop:=
 if x.op=2\/x.op=3 then x.a < (m.locs.length:Int) else if x.op=33\/x.op=34 then x.a < (i.fields.length:Int)
 else if x.op=37 then x.a < (i.methods.length:Int) else if x.op=38 then x.a < (i.imports.length:Int)
 else if x.op=23\/x.op=24 then x.a < (m.code.length:Int) else True
def kH (op:Int):Prop:=(6<=op/\op<=14)\/(19<=op/\op<=21)
instance (op:Int):Decidable (kH op):=by unfold kH;exact inferInstance
def mL (r:Int):List Int:=if r=0 then [] else [r]
def aT (i:iK) (m:jN) (x:kJ):List Int:=
 if x.op=3 then [m.locs.getD x.a.toNat 0]
 else if x.op=34 then [i.fields.getD x.a.toNat 0]
 else if x.op=4\/x.op=5 then [-1]
 else if x.op=15\/x.op=16 then [-2]
 else if kH x.op then [-2,-2]
 else if x.op=17\/x.op=18 then [-3,-3]
 else if x.op=22 then [-2,-1,-1]
 else if x.op=24\/x.op=27 then [-3]
 else if x.op=26\/x.op=28 then [-4]
 else if x.op=29 then [-4,-3]
 else if x.op=30 then [-4,-3,-2]
 else if x.op=31\/x.op=32 then [-4,-3,-4,-3,-3]
 else if x.op=36 then [-4,-3,-3]
 else if x.op=37 then (i.meth x.a).params
 else if x.op=38 then (i.imp x.a).params
 else if x.op=39 then mL m.result
 else []
def tQ (k a:Int):Bool:=if a=-1 then true else if a=-2\/a=-3 then dX k else if a=-4 then fR k else dX k&&dX a||k == a
def vW (k a:Int):Bool:=(a == -3||a == 1)&&k == 2
def jS:List Int->List Int->Bool
 | a::t,k::l=>tQ k a&&jS t l
 | _,_=>true
def gI:List Int->List Int->Bool
 | a::t,k::l=>vW k a||gI t l
 | _,_=>false
def cI (l:List Int) (n:Nat):Int:=l.getD n 0
def mM (x:kJ) (t l:List Int):Bool:=
 jS t l&&(if x.op=22 then dX (cI l 1)&&dX (cI l 2)||fR (cI l 1)&&cI l 1 == cI l 2 else true)
def kE (x:kJ) (t l:List Int):Bool:=
 if x.op=22 then fR (cI l 1)&&cI l 0 == 2
 else if x.op=30 then gI t l||(cI l 0 == 3&&cI l 2 == 2)
 else if x.op=31 then gI t l||(cI l 0 == 3&&cI l 2 == 4)
 else if x.op=36 then gI t l||(x.a == 1&&cI l 0 == 4)
 else gI t l
def AH (l:List Int):Int:=if fR (cI l 1) then cI l 1 else rF (cI l 0) (rF (cI l 1) (cI l 2))
def iX (i:iK) (m:jN) (x:kJ) (l:List Int):List Int:=
 if x.op=1\/x.op=17\/x.op=18\/x.op=26\/x.op=28 then [1]
 else if x.op=2 then [m.locs.getD x.a.toNat 0]
 else if x.op=33 then [i.fields.getD x.a.toNat 0]
 else if x.op=5 then [cI l 0,cI l 0]
 else if kH x.op then [rF (cI l 0) (cI l 1)]
 else if x.op=15\/x.op=16 then [cI l 0]
 else if x.op=22 then [AH l]
 else if x.op=25\/x.op=27 then [x.a]
 else if x.op=29 then [ofK (cI l 0)]
 else if x.op=32 then (if cI l 0=4\/cI l 2=4 then [2] else [1])
 else if x.op=35 then [3+x.a - 1]
 else if x.op=37 then mL (i.meth x.a).result
 else if x.op=38 then mL (i.imp x.a).result
 else []
def hgt (i:iK) (m:jN) (x:kJ):Nat:=(iX i m x (List.replicate 8 0)).length
theorem JX (i:iK) (m:jN) (x:kJ) (l:List Int):(iX i m x l).length=hgt i m x:=by
 unfold hgt iX;simp only [apply_ite List.length,List.length_cons,List.length_nil,ite_self]
def BU (i:iK) (m:jN) (x:kJ) (s:List Int):Option (List Int):=
 let t:=aT i m x
 if s.length < t.length\/8 < s.length - t.length+hgt i m x then none
 else
  let l:=s.drop (s.length - t.length)
  if mM x t l=true/\kE x t l=false then some (s.take (s.length - t.length)++iX i m x l) else none
def fO (x:kJ) (pc:Nat):List Int:=
 if x.op=23 then [x.a] else if x.op=24 then [(pc:Int)+1,x.a] else if x.op=39 then [] else [(pc:Int)+1]
structure St where
 st:List (List Int)
 has:List Bool
 todo:List Bool
def St.ini (n:Nat):St:=⟨List.replicate n [],List.replicate n false,List.replicate n false⟩
def St.h (s:St) (k:Nat):Bool:=s.has.getD k false
def St.t (s:St) (k:Nat):Bool:=s.todo.getD k false
def St.s (s:St) (k:Nat):List Int:=s.st.getD k []
def nX (n:Nat) (s:St) (to:Int) (stack:List Int):Option St:=
 if (n:Int)<=to then none
 else if s.h to.toNat then
  (lX (s.s to.toNat) stack).bind λj=>if j=s.s to.toNat then some s else some { s with st:=s.st.set to.toNat j,todo:=s.todo.set to.toNat true }
 else some ⟨s.st.set to.toNat stack,s.has.set to.toNat true,s.todo.set to.toNat true⟩
def lY (n:Nat) (stack:List Int):List Int->St->Option St
 | [],s=>some s
 | to::l,s=>(nX n s to stack).bind (lY n stack l)
def tZ (i:iK) (m:jN) (s:St) (pc:Nat):Option St:=
 (BU i m (m.ins pc) (s.s pc)).bind λstack=>lY m.code.length stack (fO (m.ins pc) pc) { s with todo:=s.todo.set pc false }
def nG:List Bool->Option Nat
 | []=>none
 | true::_=>some 0
 | false::l=>(nG l).map (·+1)
inductive oV (i:iK) (m:jN):St->Option St->Prop
 | done {s:St}:nG s.todo=none->oV i m s (some s)
 | fail {s:St} {pc:Nat}:nG s.todo=some pc->tZ i m s pc=none->oV i m s none
 | go {s s':St} {pc:Nat} {r:Option St}:nG s.todo=some pc->tZ i m s pc=some s'->oV i m s' r->oV i m s r
theorem oV.det {i:iK} {m:jN} {s:St} {r r':Option St} (h:oV i m s r) (h':oV i m s r'):r=r':=by
 induction h generalizing r' with
 | done h1=>cases h' with
  | done _=>rfl
  | fail h2 _=>rw [h1] at h2;cases h2
  | go h2 _ _=>rw [h1] at h2;cases h2
 | fail h1 h2=>cases h' with
  | done h3=>rw [h1] at h3;cases h3
  | fail _ _=>rfl
  | go h3 h4 _=>rw [h1] at h3;cases h3;rw [h2] at h4;cases h4
 | go h1 h2 _ ih=>cases h' with
  | done h3=>rw [h1] at h3;cases h3
  | fail h3 h4=>rw [h1] at h3;cases h3;rw [h2] at h4;cases h4
  | go h3 h4 h5=>rw [h1] at h3;cases h3;rw [h2] at h4;cases h4;exact ih h5
def St.first (n:Nat):St:=⟨(List.replicate n []).set 0 [],(List.replicate n false).set 0 true,(List.replicate n false).set 0 true⟩
def rY (i:iK) (m:jN) (r:Option St):Prop:=((∃ x∈m.code,¬ fD i m x)/\r=none)\/((∀ x∈m.code,fD i m x)/\oV i m (St.first m.code.length) r)
theorem rY.det {i:iK} {m:jN} {r r':Option St} (h:rY i m r) (h':rY i m r'):r=r':=by
 rcases h with ⟨⟨x,h1,h2⟩,rfl⟩|⟨h1,h2⟩
 ·rcases h' with ⟨_,rfl⟩|⟨h3,_⟩
  ·rfl
  ·exact absurd (h3 x h1) h2
 ·rcases h' with ⟨⟨x,h3,h4⟩,rfl⟩|⟨_,h4⟩
  ·exact absurd (h1 x h3) h4
  ·exact h2.det h4
def mU (i:iK):Prop:=i.right/\∀ m∈i.methods,∃ s,rY i m (some s)
theorem lZ {α:Type} (l:List α) (k j:Nat) (v d:α):(l.set k v).getD j d=if j=k/\k < l.length then v else l.getD j d:=by
 simp only [List.getD_eq_getElem?_getD,List.getElem?_set];by_cases h:k=j
 ·subst h;by_cases hk:k < l.length
  iterate 2
   ·simp [hk]
 ·have:¬ j=k:=λe=>h e.symm;simp [h,this]
theorem tF {l:List Bool} {k:Nat} (h:l.getD k false=true):k < l.length:=by
 by_cases hk:k < l.length
 ·exact hk
 ·rw [List.getD_eq_getElem?_getD,List.getElem?_eq_none (by omega)] at h;cases h
theorem uM:∀ {l:List Bool} {k:Nat},nG l=some k->l.getD k false=true/\∀ j,j < k->l.getD j false=false
 | [],_,h=>by cases h
 | true::_,k,h=>by cases h;exact ⟨rfl,λj hj=>absurd hj (Nat.not_lt_zero _)⟩
 | false::l,k,h=>by
  simp only [nG,Option.map_eq_some_iff] at h;obtain ⟨q,hq,rfl⟩:=h;obtain ⟨h1,h2⟩:=uM hq;refine ⟨h1,λj hj=>?_⟩;cases j with
  | zero=>rfl
  | succ j=>exact h2 j (by omega)
theorem AU:∀ {l:List Bool},nG l=none->∀ j,l.getD j false=false
 | [],_,j=>rfl
 | true::_,h,_=>by cases h
 | false::l,h,j=>by
  simp only [nG,Option.map_eq_none_iff] at h;cases j with
  | zero=>rfl
  | succ j=>exact AU h j
theorem zU:∀ {l:List Bool} {k:Nat},l.getD k false=true->(∀ j,j < k->l.getD j false=false)->nG l=some k
 | [],k,h,_=>by cases h
 | true::l,k,h,h2=>by
  cases k with
  | zero=>rfl
  | succ k=>have:=h2 0 (by omega);cases this
 | false::l,k,h,h2=>by
  cases k with
  | zero=>cases h
  | succ k=>
   have:=zU (l:=l) (k:=k) h λj hj=>h2 (j+1) (by omega);simp [nG,this]
theorem wM:∀ {l:List Bool},(∀ j,j < l.length->l.getD j false=false)->nG l=none
 | [],_=>rfl
 | true::l,h=>by have:=h 0 (by simp);cases this
 | false::l,h=>by
  have:=wM (l:=l) λj hj=>h (j+1) (by simpa using hj);simp [nG,this]
theorem aHg {a b k:Int} (ha:Kd a) (hb:Kd b) (h:AO a b=some k):Kd k/\(k=a\/(a=1/\k=2)):=by
 obtain ⟨a1,a2⟩:=ha;obtain ⟨b1,b2⟩:=hb;have ea:a=1\/a=2\/a=3\/a=4:=by omega
 have eb:b=1\/b=2\/b=3\/b=4:=by omega
 unfold Kd;rcases ea with rfl|rfl|rfl|rfl<;>rcases eb with rfl|rfl|rfl|rfl<;>simp [AO,dX,fR,rF] at h<;>subst h<;>simp
def AZ (l:List Int):Nat:=l.countP (· == 1)
theorem aPn (l:List Int):AZ l<=l.length:=List.countP_le_length
theorem MH:∀ {a b j:List Int},sA a->sA b->lX a b=some j->sA j/\j.length=a.length/\(j=a\/AZ j < AZ a)/\AZ j<=AZ a
 | [],[],j,_,_,h=>by cases h;exact ⟨λ_ h=>(List.not_mem_nil h).elim,rfl,.inl rfl,Nat.le_refl _⟩
 | [],_::_,_,_,_,h=>by cases h
 | _::_,[],_,_,_,h=>by cases h
 | x::a,y::b,j,ha,hb,h=>by
  simp only [lX,Option.bind_eq_some_iff,Option.map_eq_some_iff] at h;obtain ⟨k,hk,l,hl,rfl⟩:=h;obtain ⟨h1,h2⟩:=aHg (ha x (by simp)) (hb y (by simp)) hk;obtain ⟨h3,h4,h5,h6⟩:=MH (λq hq=>ha q (by simp [hq])) (λq hq=>hb q (by simp [hq])) hl;refine ⟨λq hq=>?_,by simp [h4],?_,?_⟩
  ·rcases List.mem_cons.1 hq with rfl|hq
   ·exact h1
   ·exact h3 q hq
  ·rcases h2 with rfl|⟨rfl,rfl⟩
   ·rcases h5 with rfl|h5
    ·exact .inl rfl
    ·right;simp only [AZ,List.countP_cons] at h5 ⊢;omega
   ·right;simp only [AZ,List.countP_cons] at h6 ⊢;simp;omega
  ·rcases h2 with rfl|⟨rfl,rfl⟩
   ·simp only [AZ,List.countP_cons] at h6 ⊢;omega
   ·simp only [AZ,List.countP_cons] at h6 ⊢;simp;omega
theorem HF:∀ {a b j:List Int},lX a b=some j->j.length=a.length/\j.length=b.length
 | [],[],j,h=>by cases h;exact ⟨rfl,rfl⟩
 | [],_::_,_,h=>by cases h
 | _::_,[],_,h=>by cases h
 | x::a,y::b,j,h=>by
  simp only [lX,Option.bind_eq_some_iff,Option.map_eq_some_iff] at h;obtain ⟨k,hk,l,hl,rfl⟩:=h;obtain ⟨h1,h2⟩:=HF hl;simp only [List.length_cons];omega
theorem sZ {l:List Int} (h:sA l) {k:Nat} (hk:k < l.length):Kd (l.getD k 0):=by
 rw [List.getD_eq_getElem?_getD,List.getElem?_eq_getElem hk];exact h _ (List.getElem_mem hk)
theorem JG {m:jN} (h:m.right):sA m.locs:=λk hk=>by
 rcases List.mem_append.1 hk with h1|h1
 ·exact h.1.1 k h1
 ·exact h.2.2.1.1 k h1
theorem iK.meth_mem {i:iK} {k:Int} (h0:0<=k) (hk:k < i.methods.length):i.meth k∈i.methods:=by
 unfold iK.meth;rw [List.getD_eq_getElem?_getD,List.getElem?_eq_getElem (by omega)];exact List.getElem_mem _
theorem iK.imp_mem {i:iK} {k:Int} (h0:0<=k) (hk:k < i.imports.length):i.imp k∈i.imports:=by
 unfold iK.imp;rw [List.getD_eq_getElem?_getD,List.getElem?_eq_getElem (by omega)];exact List.getElem_mem _
theorem DB {r:Int} (h:0<=r/\r<=4):sA (mL r):=λk hk=>by
 unfold mL at hk;split at hk
 ·exact (List.not_mem_nil hk).elim
 ·rw [List.mem_singleton] at hk;subst hk;unfold Kd;omega
theorem DA (r:Int):(mL r).length<=1:=by unfold mL;split<;>simp
structure BE (i:iK) (m:jN) (x:kJ):Prop where
 ir:i.right
 mr:m.right
 xr:x.right
 nm:fD i m x
theorem XL {a b:Int}:Kd (rF a b):=by unfold rF Kd;split<;>omega
theorem zP:∀ {t l:List Int} {n:Nat},n < t.length->n < l.length->jS t l=true->tQ (cI l n) (cI t n)=true
 | [],_,_,h,_,_=>by simp at h
 | _::_,[],_,_,h,_=>by simp at h
 | a::t,k::l,0,_,_,h=>by simp only [jS,Bool.and_eq_true] at h;exact h.1
 | a::t,k::l,n+1,h1,h2,h=>by
  simp only [jS,Bool.and_eq_true] at h;exact zP (n:=n) (by simpa using h1) (by simpa using h2) h.2
theorem oH {l:List Int} (h:sA l) {n:Nat} (hn:n < l.length):Kd (cI l n):=sZ h hn
theorem aCq {k:Int}:fR k=true↔k=3\/k=4:=by simp [fR]
theorem aCv {i:iK} {m:jN} {x:kJ} {l:List Int} (h:BE i m x) (hl:sA l) (hn:l.length=(aT i m x).length) (hk:mM x (aT i m x) l=true):sA (iX i m x l):=by
 obtain ⟨hi,hm,hx,hs⟩:=h;obtain ⟨op,a,b⟩:=x;obtain ⟨⟨o1,o2⟩,a1,a2,_⟩:=hx;dsimp only at o1 o2 a1 a2
 have hop:op=1\/op=2\/op=3\/op=4\/op=5\/kH op\/op=15\/op=16\/op=17\/op=18\/op=22\/op=23\/op=24\/op=25\/op=26\/op=27\/op=28\/op=29\/op=30\/op=31\/op=32\/op=33\/op=34\/op=35\/op=36\/op=37\/op=38\/op=39:=by
  unfold kH;omega
 have one:∀ {k:Int},Kd k->sA [k]:=λhk q hq=>by rw [List.mem_singleton] at hq;subst hq;exact hk
 have nil:sA []:=λ_ h=>(List.not_mem_nil h).elim;have mi:sA m.locs:=JG hm;rcases hop with rfl|rfl|rfl|rfl|rfl|hb|rfl|rfl|rfl|rfl|rfl|rfl|rfl|rfl|rfl|rfl|rfl|rfl|rfl|rfl|rfl|rfl|rfl|rfl|rfl|rfl|rfl|rfl
 case _=>exact one (by unfold Kd;omega)
 case _=>
  have hs:a < (m.locs.length:Int):=hs;have a1:0<=a:=a1;exact one (sZ mi (by dsimp only;omega))
 case _=>exact nil
 case _=>exact nil
 case _=>
  have hn:l.length=1:=hn;have h0:Kd (cI l 0):=oH hl (by omega);intro q hq;simp [iX] at hq;subst hq;exact h0
 case _=>
  have e:iX i m ⟨op,a,b⟩ l=[rF (cI l 0) (cI l 1)]:=by
   unfold kH at hb;simp only [iX];rw [if_neg (by omega),if_neg (by omega),if_neg (by omega),if_neg (by omega),if_pos (by unfold kH;omega)]
  rw [e];exact one XL
 case _=>have hn:l.length=1:=hn;exact one (oH hl (by omega))
 case _=>have hn:l.length=1:=hn;exact one (oH hl (by omega))
 case _=>exact one (by unfold Kd;omega)
 case _=>exact one (by unfold Kd;omega)
 case _=>
  have e:iX i m ⟨22,a,b⟩ l=[AH l]:=rfl;have hn:l.length=3:=hn;rw [e];refine one ?_;unfold AH;split
  ·exact oH hl (by omega)
  ·exact XL
 case _=>exact nil
 case _=>exact nil
 case _=>have a1:3<=a:=a1;have a2:a<=4:=a2;exact one (by unfold Kd;dsimp only;omega)
 case _=>exact one (by unfold Kd;omega)
 case _=>have a1:3<=a:=a1;have a2:a<=4:=a2;exact one (by unfold Kd;dsimp only;omega)
 case _=>exact one (by unfold Kd;omega)
 case _=>
  have e:iX i m ⟨29,a,b⟩ l=[ofK (cI l 0)]:=rfl;rw [e];simp only [mM,Bool.and_eq_true] at hk;have hn:l.length=2:=hn;have:=zP (t:=[-4,-3]) (l:=l) (n:=0) (show 0 < 2 by decide) (by omega) hk.1;have h2:fR (cI l 0)=true:=this;rw [aCq] at h2;refine one ?_;rcases h2 with h2|h2<;>rw [h2]<;>(unfold Kd ofK;simp)
 case _=>exact nil
 case _=>exact nil
 case _=>
  have e:iX i m ⟨32,a,b⟩ l=if cI l 0=4\/cI l 2=4 then [2] else [1]:=rfl
  rw [e];split<;>exact one (by unfold Kd;omega)
 case _=>
  have hs:a < (i.fields.length:Int):=hs;have a1:0<=a:=a1;exact one (sZ hi.1.1 (by dsimp only;omega))
 case _=>exact nil
 case _=>have a1:1<=a:=a1;have a2:a<=2:=a2;exact one (by unfold Kd;dsimp only;omega)
 case _=>exact nil
 case _=>
  exact DB (hi.2.2.1.2.1 _ (iK.meth_mem a1 hs)).2.1
 case _=>
  exact DB (hi.2.1.2 _ (iK.imp_mem a1 hs)).2.2
 case _=>exact nil
theorem ES {i:iK} {m:jN} {x:kJ} {s out:List Int} (h:BE i m x) (hs:sA s) (ho:BU i m x s=some out):sA out/\out.length<=8/\(aT i m x).length<=s.length/\out.length=s.length - (aT i m x).length+hgt i m x:=by
 simp only [BU] at ho;split at ho
 ·cases ho
 rename_i hn
 split at ho
 ·rename_i hk
  cases ho;have hsub:sA (s.drop (s.length - (aT i m x).length)):=λk hk=>hs k (List.mem_of_mem_drop hk);have hlen:(s.drop (s.length - (aT i m x).length)).length=(aT i m x).length:=by rw [List.length_drop];omega
  refine ⟨λk hk'=>?_,?_,by omega,?_⟩
  ·rcases List.mem_append.1 hk' with h1|h1
   ·exact hs k (List.mem_of_mem_take h1)
   ·exact aCv h hsub hlen hk.1 k h1
  iterate 2
   ·rw [List.length_append,List.length_take,JX];omega
 ·cases ho
structure WF (m:jN) (s:St):Prop where
 l1:s.st.length=m.code.length
 l2:s.has.length=m.code.length
 l3:s.todo.length=m.code.length
 kd:∀ k,s.h k=true->sA (s.s k)/\(s.s k).length<=8
 no:∀ k,s.h k=false->s.s k=[]/\s.t k=false
def wt (s:St) (k:Nat):Nat:=(if s.t k then 1 else 0)+(if s.h k then 2*AZ (s.s k) else 20)
def msr (n:Nat) (s:St):Nat:=((List.range n).map (wt s)).sum
theorem aEj {l:List Nat} {f g:Nat->Nat} (h:∀ k∈l,f k<=g k):(l.map f).sum<=(l.map g).sum:=by
 induction l with
 | nil=>exact Nat.le_refl _
 | cons a l ih=>
  simp only [List.map_cons,List.sum_cons];have:=ih λk hk=>h k (List.mem_cons_of_mem _ hk);have:=h a List.mem_cons_self;omega
theorem IU {l:List Nat} {f g:Nat->Nat} (h:∀ k∈l,f k<=g k) {a:Nat} (ha:a∈l) (hl:f a < g a):(l.map f).sum < (l.map g).sum:=by
 induction l with
 | nil=>exact (List.not_mem_nil ha).elim
 | cons b l ih=>
  simp only [List.map_cons,List.sum_cons];have h1:=h b List.mem_cons_self;have h2:=aEj λk hk=>h k (List.mem_cons_of_mem _ hk);rcases List.mem_cons.1 ha with rfl|ha
  ·omega
  ·have:=ih (λk hk=>h k (List.mem_cons_of_mem _ hk)) ha;omega
structure Fur (m:jN) (s s':St):Prop where
 has:∀ k,s.h k=true->s'.h k=true
 len:∀ k,s.h k=true->(s'.s k).length=(s.s k).length
 same:∀ k,s'.t k=false->s.h k=true->s'.s k=s.s k
 new:∀ k,s'.t k=false->s'.h k=true->s.h k=true
 wt:∀ k,k < m.code.length->wt s' k<=wt s k
 todo:∀ k,s.t k=true->s'.t k=true
theorem Fur.refl (m:jN) (s:St):Fur m s s:=⟨λ_ h=>h,λ_ _=>rfl,λ_ _ _=>rfl,λ_ _ h=>h,λ_ _=>Nat.le_refl _,λ_ h=>h⟩
theorem Fur.trans {m:jN} {a b c:St} (h:Fur m a b) (k:Fur m b c):Fur m a c where
 has q hq:=k.has q (h.has q hq)
 len q hq:=(k.len q (h.has q hq)).trans (h.len q hq)
 same q h1 h2:=by
  have hb:b.t q=false:=by cases hb:b.t q with
   | false=>rfl
   | true=>rw [k.todo q hb] at h1;cases h1
  exact (k.same q h1 (h.has q h2)).trans (h.same q hb h2)
 new q h1 h2:=by
  have hb:b.t q=false:=by cases hb:b.t q with
   | false=>rfl
   | true=>rw [k.todo q hb] at h1;cases h1
  exact h.new q hb (k.new q h1 h2)
 wt q hq:=Nat.le_trans (k.wt q hq) (h.wt q hq)
 todo q hq:=k.todo q (h.todo q hq)
theorem aQv {m:jN} {s s':St} {to:Int} {stack:List Int} (hw:WF m s) (h0:0<=to) (hs:sA stack) (hl:stack.length<=8) (h:nX m.code.length s to stack=some s') :
  WF m s'/\Fur m s s'/\to < m.code.length/\s'.h to.toNat=true/\(s'.s to.toNat).length=stack.length:=by
 unfold nX at h;split at h
 ·cases h
 rename_i hto
 obtain ⟨k,rfl⟩:∃ k:Nat,to=k:=⟨to.toNat,by omega⟩;simp only [Int.toNat_natCast] at h ⊢;have hk:k < m.code.length:=by omega
 obtain ⟨w1,w2,w3,w4,w5⟩:=hw;split at h
 ·rename_i hh
  obtain ⟨j,hj,h⟩:=Option.bind_eq_some_iff.1 h;obtain ⟨c1,c2⟩:=w4 k hh;obtain ⟨j1,j2,j3,j4⟩:=MH c1 hs hj;have j5:=(HF hj).2;split at h
  ·rename_i he
   cases h;exact ⟨⟨w1,w2,w3,w4,w5⟩,Fur.refl _ _,by omega,hh,by rw [<- he];exact j5⟩
  ·rename_i hne
   cases h;have j3:AZ j < AZ (s.s k):=j3.resolve_left hne
   have eS:∀ q,St.s { s with st:=s.st.set k j,todo:=s.todo.set k true } q=if q=k then j else s.s q:=λq=>by
    simp only [St.s,lZ];by_cases hq:q=k
    ·rw [if_pos ⟨hq,by omega⟩,if_pos hq]
    ·rw [if_neg (λh=>hq h.1),if_neg hq]
   have eT:∀ q,St.t { s with st:=s.st.set k j,todo:=s.todo.set k true } q=if q=k then true else s.t q:=λq=>by
    simp only [St.t,lZ];by_cases hq:q=k
    ·rw [if_pos ⟨hq,by omega⟩,if_pos hq]
    ·rw [if_neg (λh=>hq h.1),if_neg hq]
   have eH:∀ q,St.h { s with st:=s.st.set k j,todo:=s.todo.set k true } q=s.h q:=λq=>rfl;refine ⟨⟨by simpa using w1,w2,by simpa using w3,λq hq=>?_,λq hq=>?_⟩,⟨λq hq=>hq,λq hq=>?_,λq h1 h2=>?_,λq _ h2=>h2,λq hq=>?_,λq hq=>?_⟩,by omega,hh,?_⟩
   ·rw [eS];by_cases hqk:q=k
    ·rw [if_pos hqk];exact ⟨j1,by omega⟩
    ·rw [if_neg hqk];exact w4 q hq
   ·have hqk:q≠k:=λe=>by subst e;rw [eH] at hq;rw [hh] at hq;cases hq
    rw [eS,eT,if_neg hqk,if_neg hqk];exact w5 q hq
   ·rw [eS];by_cases hqk:q=k
    ·rw [if_pos hqk,hqk];exact j2
    ·rw [if_neg hqk]
   ·rw [eT] at h1;by_cases hqk:q=k
    ·rw [if_pos hqk] at h1;cases h1
    ·rw [eS,if_neg hqk]
   ·unfold wt;rw [eS,eT,eH];by_cases hqk:q=k
    ·subst hqk;rw [if_pos rfl,if_pos rfl];simp only [hh,if_true];split<;>omega
    ·rw [if_neg hqk,if_neg hqk];exact Nat.le_refl _
   ·rw [eT];by_cases hqk:q=k
    ·rw [if_pos hqk]
    ·rw [if_neg hqk];exact hq
   ·rw [eS,if_pos rfl];exact j5
 ·rename_i hh
  have hh:s.h k=false:=by simpa using hh
  cases h
  have eS:∀ q,St.s ⟨s.st.set k stack,s.has.set k true,s.todo.set k true⟩ q=if q=k then stack else s.s q:=λq=>by
   simp only [St.s,lZ];by_cases hq:q=k
   ·rw [if_pos ⟨hq,by omega⟩,if_pos hq]
   ·rw [if_neg (λh=>hq h.1),if_neg hq]
  have eT:∀ q,St.t ⟨s.st.set k stack,s.has.set k true,s.todo.set k true⟩ q=if q=k then true else s.t q:=λq=>by
   simp only [St.t,lZ];by_cases hq:q=k
   ·rw [if_pos ⟨hq,by omega⟩,if_pos hq]
   ·rw [if_neg (λh=>hq h.1),if_neg hq]
  have eH:∀ q,St.h ⟨s.st.set k stack,s.has.set k true,s.todo.set k true⟩ q=if q=k then true else s.h q:=λq=>by
   simp only [St.h,lZ];by_cases hq:q=k
   ·rw [if_pos ⟨hq,by omega⟩,if_pos hq]
   ·rw [if_neg (λh=>hq h.1),if_neg hq]
  refine ⟨⟨by simpa using w1,by simpa using w2,by simpa using w3,λq hq=>?_,λq hq=>?_⟩,⟨λq hq=>?_,λq hq=>?_,λq h1 h2=>?_,λq h1 h2=>?_,λq hq=>?_,λq hq=>?_⟩,by omega,?_,?_⟩
  ·rw [eS];by_cases hqk:q=k
   ·rw [if_pos hqk];exact ⟨hs,hl⟩
   ·rw [if_neg hqk];rw [eH,if_neg hqk] at hq;exact w4 q hq
  ·rw [eH] at hq;by_cases hqk:q=k
   ·rw [if_pos hqk] at hq;cases hq
   ·rw [if_neg hqk] at hq;rw [eS,eT,if_neg hqk,if_neg hqk];exact w5 q hq
  ·rw [eH];split
   ·rfl
   ·exact hq
  ·have hqk:q≠k:=λe=>by subst e;rw [hh] at hq;cases hq
   rw [eS,if_neg hqk]
  ·have hqk:q≠k:=λe=>by subst e;rw [hh] at h2;cases h2
   rw [eS,if_neg hqk]
  ·have hqk:q≠k:=λe=>by rw [eT,if_pos e] at h1;cases h1
   rw [eH,if_neg hqk] at h2;exact h2
  ·unfold wt;rw [eS,eT,eH];by_cases hqk:q=k
   ·subst hqk;rw [if_pos rfl,if_pos rfl,if_pos rfl];have:=aPn stack;simp only [hh,if_true,Bool.false_eq_true,if_false];omega
   ·rw [if_neg hqk,if_neg hqk,if_neg hqk];exact Nat.le_refl _
  ·rw [eT];split
   ·rfl
   ·exact hq
  ·rw [eH,if_pos rfl]
  ·rw [eS,if_pos rfl]
theorem yD {m:jN} {stack:List Int} (hs:sA stack) (hl:stack.length<=8):∀ {l:List Int} {s s':St},WF m s->(∀ to∈l,0<=to)->lY m.code.length stack l s=some s' ->
  WF m s'/\Fur m s s'/\∀ to∈l,to < m.code.length/\s'.h to.toNat=true/\(s'.s to.toNat).length=stack.length
 | [],s,s',hw,_,h=>by cases h;exact ⟨hw,Fur.refl _ _,λ_ h=>(List.not_mem_nil h).elim⟩
 | to::l,s,s',hw,h0,h=>by
  simp only [lY,Option.bind_eq_some_iff] at h;obtain ⟨s1,h1,h2⟩:=h;obtain ⟨a1,a2,a3,a4,a5⟩:=aQv hw (h0 to (by simp)) hs hl h1;obtain ⟨b1,b2,b3⟩:=yD hs hl a1 (λq hq=>h0 q (by simp [hq])) h2;refine ⟨b1,a2.trans b2,λq hq=>?_⟩;rcases List.mem_cons.1 hq with rfl|hq
  ·exact ⟨a3,b2.has _ a4,(b2.len _ a4).trans a5⟩
  ·exact b3 q hq
def Led (i:iK) (m:jN) (s:St) (k:Nat):Prop:=∃ out,BU i m (m.ins k) (s.s k)=some out/\∀ to∈fO (m.ins k) k,0<=to/\to < m.code.length/\s.h to.toNat=true/\(s.s to.toNat).length=out.length
def Inv (i:iK) (m:jN) (s:St):Prop:=s.h 0=true/\s.s 0=[]/\∀ k,s.h k=true->s.t k=false->Led i m s k
theorem WE {i:iK} {m:jN} {x:kJ} (h:BE i m x) {pc:Nat}:∀ to∈fO x pc,0<=to:=by
 obtain ⟨_,_,hx,_⟩:=h;obtain ⟨op,a,b⟩:=x;intro to ht;unfold fO at ht;dsimp only at ht;have h1:(lim op).1<=a:=hx.2.1;split at ht
 ·rename_i e;subst e;rw [List.mem_singleton] at ht;subst ht;exact h1
 split at ht
 ·rename_i e;subst e
  rcases List.mem_cons.1 ht with rfl|ht
  ·omega
  ·rw [List.mem_singleton] at ht;subst ht;exact h1
 split at ht
 ·exact (List.not_mem_nil ht).elim
 ·rw [List.mem_singleton] at ht;subst ht;omega
theorem WK {m:jN} {k:Nat} (h:k < m.code.length):m.ins k∈m.code:=by
 unfold jN.ins;rw [List.getD_eq_getElem?_getD,List.getElem?_eq_getElem h];exact List.getElem_mem h
theorem IV {i:iK} {m:jN} {s s':St} {pc:Nat} (hx:∀ x∈m.code,BE i m x) (hw:WF m s) (hi:Inv i m s) (hf:nG s.todo=some pc) (h:tZ i m s pc=some s') :
  WF m s'/\Inv i m s'/\msr m.code.length s' < msr m.code.length s:=by
 obtain ⟨f1,_⟩:=uM hf;have hpc:pc < m.code.length:=by have:=tF f1;have:=hw.l3;omega
 have hh:s.h pc=true:=by
  cases e:s.h pc with
  | true=>rfl
  | false=>have:=(hw.no pc e).2;rw [St.t,f1] at this;cases this
 simp only [tZ,Option.bind_eq_some_iff] at h;obtain ⟨stack,hd,hg⟩:=h;have ox:=hx _ (WK hpc);obtain ⟨d1,d2,_,_⟩:=ES ox (hw.kd pc hh).1 hd
 have eT:∀ q,St.t { s with todo:=s.todo.set pc false } q=if q=pc then false else s.t q:=λq=>by
  simp only [St.t,lZ];by_cases hq:q=pc
  ·rw [if_pos ⟨hq,by have:=hw.l3;omega⟩,if_pos hq]
  ·rw [if_neg (λh=>hq h.1),if_neg hq]
 have hw1:WF m { s with todo:=s.todo.set pc false }:=⟨hw.l1,hw.l2,by simpa using hw.l3,hw.kd,λq hq=>⟨(hw.no q hq).1,by rw [eT];split;rfl;exact (hw.no q hq).2⟩⟩;obtain ⟨g1,g2,g3⟩:=yD d1 d2 hw1 (WE ox) hg;refine ⟨g1,⟨g2.has 0 hi.1,?_,λk h1 h2=>?_⟩,?_⟩
 ·have:=g2.len 0 hi.1;have e0:St.s { s with todo:=s.todo.set pc false } 0=[]:=hi.2.1;rw [e0] at this;exact List.eq_nil_of_length_eq_zero this
 ·have h3:s.h k=true:=g2.new k h2 h1;have h4:s'.s k=s.s k:=g2.same k h2 h3;by_cases hk:k=pc
  ·subst hk;exact ⟨stack,by rw [h4];exact hd,λto ht=>⟨WE ox to ht,g3 to ht⟩⟩
  ·have h5:s.t k=false:=by
    cases e:s.t k with
    | false=>rfl
    | true=>have:=g2.todo k (by rw [eT,if_neg hk];exact e);rw [this] at h2;cases h2
   obtain ⟨out,o1,o2⟩:=hi.2.2 k h3 h5;refine ⟨out,by rw [h4];exact o1,λto ht=>?_⟩;obtain ⟨p1,p2,p3,p4⟩:=o2 to ht;exact ⟨p1,p2,g2.has _ p3,(g2.len _ p3).trans p4⟩
 ·refine Nat.lt_of_le_of_lt (aEj (g:=wt { s with todo:=s.todo.set pc false }) λk hk=>g2.wt k (List.mem_range.1 hk)) ?_;refine IU (λk _=>?_) (List.mem_range.2 hpc) ?_
  ·unfold wt;rw [eT];by_cases hk:k=pc
   ·rw [if_pos hk];exact Nat.add_le_add (by simp) (Nat.le_refl _)
   ·rw [if_neg hk];exact Nat.le_refl _
  ·unfold wt;rw [eT,if_pos rfl];have e:s.t pc=true:=f1;rw [e];exact Nat.add_lt_add_of_lt_of_le (by simp) (Nat.le_refl _)
theorem EM {i:iK} {m:jN} (h:1<=m.code.length):WF m (St.first m.code.length)/\Inv i m (St.first m.code.length):=by
 have eH:∀ q,(St.first m.code.length).h q=decide (q=0):=λq=>by
  simp only [St.first,St.h,lZ];by_cases hq:q=0
  ·rw [if_pos ⟨hq,by simp;omega⟩];simp [hq]
  ·rw [if_neg (λh=>hq h.1)];simp only [hq,decide_false,List.getD_eq_getElem?_getD,List.getElem?_replicate];split<;>rfl
 have eT:∀ q,(St.first m.code.length).t q=decide (q=0):=eH
 have eS:∀ q,(St.first m.code.length).s q=[]:=λq=>by
  simp only [St.first,St.s,lZ];split
  ·rfl
  ·simp only [List.getD_eq_getElem?_getD,List.getElem?_replicate];split<;>rfl
 refine ⟨⟨by simp [St.first],by simp [St.first],by simp [St.first],λk _=>?_,λk hk=>?_⟩,by rw [eH];rfl,eS 0,λk h1 h2=>?_⟩
 ·rw [eS];exact ⟨λ_ h=>(List.not_mem_nil h).elim,by simp⟩
 ·refine ⟨eS k,?_⟩;rw [eT,<- eH k];exact hk
 ·rw [eT] at h2;rw [eH] at h1;rw [h1] at h2;cases h2
theorem oV.ok {i:iK} {m:jN} (hx:∀ x∈m.code,BE i m x) {s:St} {r:Option St} (h:oV i m s r):∀ s',r=some s'->WF m s->Inv i m s->WF m s'/\Inv i m s'/\∀ k,s'.t k=false:=by
 induction h with
 | done h1=>intro s' he hw hi;cases he;exact ⟨hw,hi,AU h1⟩
 | fail _ _=>intro s' he;cases he
 | go h1 h2 _ ih=>
  intro s' he hw hi;obtain ⟨a,b,_⟩:=IV hx hw hi h1 h2;exact ih s' he a b
theorem rY.led {i:iK} {m:jN} {s:St} (hi:i.right) (hm:m.right) (h:rY i m (some s)):(∀ x∈m.code,BE i m x)/\WF m s/\s.h 0=true/\s.s 0=[]/\∀ k,s.h k=true->Led i m s k:=by
 rcases h with ⟨_,h⟩|⟨h1,h2⟩
 ·cases h
 have hx:∀ x∈m.code,BE i m x:=λx hx=>⟨hi,hm,hm.2.2.2.2 x hx,h1 x hx⟩;obtain ⟨a,b⟩:=EM (i:=i) hm.2.2.2.1.1;obtain ⟨c,d,e⟩:=h2.ok hx s rfl a b;exact ⟨hx,c,d.1,d.2.1,λk hk=>d.2.2 k hk (e k)⟩
end Go.Tc
namespace Go.Vc
theorem bLf {w:O} {C:O->Prop}:(∃ J:NP 0,J w/\∀ w':O,J w'->∀ _f:bM,C w')↔C w:=
 ⟨λ⟨_,h,k⟩=>k w h λ_=>undef,λh=>⟨λw'=>w'=w,rfl,λ_ e _=>e▸h⟩⟩
theorem bLe {a:Y} {w:O} {C:Y->O->Prop}:(∃ J:NP 1,J a w/\∀ (t:Y) (w':O),J t w'->∀ _f:bM,C t w')↔C a w:=
 ⟨λ⟨_,h,k⟩=>k a w h λ_=>undef,λh=>⟨λt w'=>t=a/\w'=w,⟨rfl,rfl⟩,λ_ _ e _=>e.1▸e.2▸h⟩⟩
theorem bLd {a b:Y} {w:O} {C:Y->Y->O->Prop}:(∃ J:NP 2,J a b w/\∀ (t u:Y) (w':O),J t u w'->∀ _f:bM,C t u w')↔C a b w:=
 ⟨λ⟨_,h,k⟩=>k a b w h λ_=>undef,λh=>⟨λt u w'=>t=a/\u=b/\w'=w,⟨rfl,rfl,rfl⟩,λ_ _ _ e _=>e.1▸e.2.1▸e.2.2▸h⟩⟩
theorem aQi {P:Program} {w:O} {K:Y->O->Prop} {t s f o ft sz:Nat} {v:Y} {n:Nat} {cs:List Y} {k:IntKind} {i:Int} {u:Y} (h:XA P t sz) (hf:FA P s f o) (hl:L1 P ft) (hs:aA w v sz n cs) (h0:0<=i) (h1:i < n)
  (hu:cs[i.toNat*sz+o]?=some u) (hk:K u w) :
  V P (Instr.indexAt t v (.int k i)) w λp w1=>V P (Instr.fieldAt s p f) w1 λq w2=>V P (Instr.loadAt ft q) w2 K:=by
 obtain ⟨e,z,b',hte,hi⟩:=h;obtain ⟨d,hd,ha⟩:=hl;obtain ⟨b,off,cap,rfl,hcell⟩:=hs.there (by omega);refine V.ok (iL hte hi h0 h1) (V.ok (hf.ex w b _) (V.ok (jD hd ha ?_) hk));have:=hcell _ _ hu;rw [<- Nat.add_assoc] at this;exact this
theorem aR:((¬True)=False)/\((¬False)=True)/\(∀ {α:Type} {a b:α},(a≠b)=¬(a=b))/\((false=true)=False)/\((!true)=false)/\((!false)=true)/\(∀ {h:Decidable True},@decide True h=true)/\(∀ {h:Decidable False},@decide False h=false)/\(∀ {α:Type} {h:Decidable True} {a b:α},(@ite α True h a b)=a)/\(∀ {α:Type} {h:Decidable False} {a b:α},(@ite α False h a b)=b)/\(∀ {P:Program} {w:O} {K:Y->O->Prop} {k:IntKind} {t:TypeId} {a b:Int},V P (binOp BinOp.lss t (Value.int k a) (Value.int k b)) w K↔K (Value.bool (decide (a < b))) w)/\(∀ {P:Program} {w:O} {K:Y->O->Prop} {k:IntKind} {t:TypeId} {a b:Int},V P (binOp BinOp.leq t (Value.int k a) (Value.int k b)) w K↔K (Value.bool (decide (a<=b))) w)/\(∀ {P:Program} {w:O} {K:Y->O->Prop} {k:IntKind} {t:TypeId} {a b:Int},V P (binOp BinOp.gtr t (Value.int k a) (Value.int k b)) w K↔K (Value.bool (decide (a > b))) w)/\(∀ {P:Program} {w:O} {K:Y->O->Prop} {k:IntKind} {t:TypeId} {a b:Int},V P (binOp BinOp.geq t (Value.int k a) (Value.int k b)) w K↔K (Value.bool (decide (a>=b))) w)/\(∀ {P:Program} {w:O} {K:Y->O->Prop} {k:IntKind} {t:TypeId} {x y:Operand} {a b:Int},V P (do eqGuard BinOp.eql t x y (Value.int k a) (Value.int k b);binOp BinOp.eql t (Value.int k a) (Value.int k b)) w K↔K (Value.bool (decide (a=b))) w)/\(∀ {P:Program} {w:O} {K:Y->O->Prop} {k:IntKind} {t:TypeId} {x y:Operand} {a b:Int},V P (do eqGuard BinOp.neq t x y (Value.int k a) (Value.int k b);binOp BinOp.neq t (Value.int k a) (Value.int k b)) w K↔K (Value.bool (decide (a≠b))) w)/\(∀ {P:Program} {w:O} {K:Y->O->Prop} {b:Bool},V P (Op.unary UnOp.not (Value.bool b)) w K↔K (Value.bool !b) w)/\(∀ {w:O} {K:Y->O->Prop} {step:(Y->O->Prop)->Prop},gd (Value.bool true) true step w K↔step K)/\(∀ {w:O} {K:Y->O->Prop} {step:(Y->O->Prop)->Prop},gd (Value.bool false) false step w K↔step K)/\(∀ {w:O} {K:Y->O->Prop} {step:(Y->O->Prop)->Prop},gd (Value.bool true) false step w K↔K undef w)/\(∀ {w:O} {K:Y->O->Prop} {step:(Y->O->Prop)->Prop},gd (Value.bool false) true step w K↔K undef w)/\(∀ {w:O} {K:Y->O->Prop} {want:Bool} {step:(Y->O->Prop)->Prop},gd undef want step w K↔K undef w)/\(∀ {step:(Y->Prop)->Prop} {L:Y->Prop},FV (Value.bool true) true step L↔step L)/\(∀ {step:(Y->Prop)->Prop} {L:Y->Prop},FV (Value.bool false) false step L↔step L)/\(∀ {step:(Y->Prop)->Prop} {L:Y->Prop},FV (Value.bool true) false step L↔L undef)/\(∀ {step:(Y->Prop)->Prop} {L:Y->Prop},FV (Value.bool false) true step L↔L undef)/\(∀ {want:Bool} {step:(Y->Prop)->Prop} {L:Y->Prop},FV undef want step L↔L undef)/\(∀ {b:Bool} {x y:Y} {L:Y->Prop},aF (Value.bool b) x y L↔L (if b=true then x else y))/\(∀ {x y:Prop},aI (Value.bool true) x y↔x)/\(∀ {x y:Prop},aI (Value.bool false) x y↔y)/\(∀ {w:O} {C:O->Prop},(∃ J:NP 0,J w/\∀ (w':O),J w'->∀ (_f:bM),C w')↔C w)/\(∀ {a:Y} {w:O} {C:Y->O->Prop},(∃ J:NP 1,J a w/\∀ (t:Y) (w':O),J t w'->∀ (_f:bM),C t w')↔C a w)/\∀ {a b:Y} {w:O} {C:Y->Y->O->Prop},(∃ J:NP 2,J a b w/\∀ (t u:Y) (w':O),J t u w'->∀ (_f:bM),C t u w')↔C a b w:=
  And.intro (not_true_eq_false) <| And.intro (not_false_eq_true) <| And.intro (λ{_ a b}=>ne_eq a b) <| And.intro (Bool.false_eq_true) <| And.intro (Bool.not_true) <| And.intro (Bool.not_false) <| And.intro (λ{_}=>decide_true _) <| And.intro (λ{_}=>decide_false _) <| And.intro (λ{_ _ _ _}=>if_pos trivial) <| And.intro (λ{_ _ _ _}=>if_neg id) <| And.intro @aW <| And.intro @rH <| And.intro @iH <| And.intro @kO <| And.intro @aH <| And.intro @cH <| And.intro @dC <| And.intro @lO <| And.intro @pK <| And.intro @tP <| And.intro @lG <| And.intro @rA <| And.intro @WV <| And.intro @WW <| And.intro @TY <| And.intro @JY <| And.intro @HP <| And.intro @aV <| And.intro @bJ <| And.intro @aP <| And.intro @bLf <| And.intro @bLe @bLd
end Go.Vc
namespace Go.Proofs.YtjcmcfidblhnnaaGreatDoor
open Tryz
open Go.Vc Go.Tc
variable {w:O} {K:Y->O->Prop}
variable {a k op:Int} {α:Type} {i sz:Nat} {x:kJ} {φ:Prop} {w':O} {fv:Y}
theorem tD (h:K (.bool (fR k)) w):aC prog 148 #[i64 k] w K:=by
 apply aXl;unfold QG;by_cases h1:k=3
 ·subst h1;simp only [aR];exact h
 ·by_cases h2:k=4
  ·subst h2;simp only [aR,Int.reduceEq];exact h
  ·simp only [h1,h2,aR];rwa [show fR k=false by simp [fR,h1,h2]] at h
theorem tC (h:K (.bool (dX k)) w):aC prog 149 #[i64 k] w K:=by
 apply aXk;unfold QF;by_cases h1:k=1
 ·subst h1;simp only [aR];exact h
 ·by_cases h2:k=2
  ·subst h2;simp only [aR,Int.reduceEq];exact h
  ·simp only [h1,h2,aR];rwa [show dX k=false by simp [dX,h1,h2]] at h
def DU (k:Int):Bool:=k == 2||k == 4
theorem BQ (h:K (.bool (DU k)) w):aC prog 150 #[i64 k] w K:=by
 apply aXj;unfold QE;by_cases h1:k=2
 ·subst h1;simp only [aR];exact h
 ·by_cases h2:k=4
  ·subst h2;simp only [aR,Int.reduceEq];exact h
  ·simp only [h1,h2,aR];rwa [show DU k=false by simp [DU,h1,h2]] at h
theorem sK (h:K (.bool (fR k)) w):aC prog 206 #[i64 k] w K:=by
 apply aVc;unfold OE;by_cases h1:k=3
 ·subst h1;simp only [aR];exact h
 ·by_cases h2:k=4
  ·subst h2;simp only [aR,Int.reduceEq];exact h
  ·simp only [h1,h2,aR];rwa [show fR k=false by simp [fR,h1,h2]] at h
theorem xZ (h:K (.bool (dX k)) w):aC prog 205 #[i64 k] w K:=by
 apply aVd;unfold OG;by_cases h1:k=1
 ·subst h1;simp only [aR];exact h
 ·by_cases h2:k=2
  ·subst h2;simp only [aR,Int.reduceEq];exact h
  ·simp only [h1,h2,aR];rwa [show dX k=false by simp [dX,h1,h2]] at h
theorem KR (h:Kd k):k=1\/k=2\/k=3\/k=4:=by obtain ⟨h1,h2⟩:=h;omega
theorem BX {b:Int} (h:K (i64 (rF a b)) w):aC prog 193 #[i64 a,i64 b] w K:=by
 apply aVq;unfold OS;by_cases h1:a=2
 ·subst h1;simp only [aR];simpa [rF] using h
 ·by_cases h2:b=2
  ·subst h2;simp only [h1,aR];simpa [rF] using h
  ·simp only [h1,h2,aR];simpa [rF,h1,h2] using h
theorem yM {b:Int} (h:K (i64 (rF a b)) w):aC prog 208 #[i64 a,i64 b] w K:=by
 apply aVa;unfold OC;by_cases h1:a=2
 ·subst h1;simp only [aR];simpa [rF] using h
 ·by_cases h2:b=2
  ·subst h2;simp only [h1,aR];simpa [rF] using h
  ·simp only [h1,h2,aR];simpa [rF,h1,h2] using h
theorem bJb (h:K (i64 (ofK a)) w):aC prog 194 #[i64 a] w K:=by
 apply aVp;unfold OR;by_cases h1:a=3
 ·subst h1;simp only [aR,Int.reduceEq];exact h
 ·by_cases h2:a=4
  ·subst h2;simp only [aR,Int.reduceEq];exact h
  ·simp only [h1,h2,aR];simpa [ofK,h1,h2] using h
theorem bJa (h:K (i64 (ofK a)) w):aC prog 210 #[i64 a] w K:=by
 apply aUx;unfold OA;by_cases h1:a=3
 ·subst h1;simp only [aR,Int.reduceEq];exact h
 ·by_cases h2:a=4
  ·subst h2;simp only [aR,Int.reduceEq];exact h
  ·simp only [h1,h2,aR];simpa [ofK,h1,h2] using h
def fits (f t:Int):Bool:=f == t||(f == 1&&t == 2)
theorem aQx {b:Int} (ha:Kd a) (hb:Kd b) (h:K (.bool (fits a b)) w):aC prog 192 #[i64 a,i64 b] w K:=by
 apply aVr;unfold OT
 rcases KR ha with rfl|rfl|rfl|rfl<;>rcases KR hb with rfl|rfl|rfl|rfl <;>
  (repeat (first|simp only [aR,Int.reduceEq]|(refine tC ?_;simp only [dX,Int.reduceBEq,Bool.or_false,Bool.or_true])|(refine tD ?_;simp only [fR,Int.reduceBEq,Bool.or_false,Bool.or_true])|exact h))
def WJ (a b:Int):Y:=match AO a b with
 | some k=>.tuple #[i64 k,.bool true]
 | none=>.tuple #[i64 0,.bool false]
theorem aQp {b:Int} (ha:Kd a) (hb:Kd b) (h:K (WJ a b) w):aC prog 154 #[i64 a,i64 b] w K:=by
 apply aXf;unfold QA
 rcases KR ha with rfl|rfl|rfl|rfl<;>rcases KR hb with rfl|rfl|rfl|rfl <;>
  (repeat (first|simp only [aR,Int.reduceEq]|(refine tC ?_;simp only [dX,Int.reduceBEq,Bool.or_false,Bool.or_true])|(refine tD ?_;simp only [fR,Int.reduceBEq,Bool.or_false,Bool.or_true])|exact h))
theorem aQo {b:Int} (ha:Kd a) (hb:Kd b) (h:K (WJ a b) w):aC prog 201 #[i64 a,i64 b] w K:=by
 apply aVh;unfold OK
 rcases KR ha with rfl|rfl|rfl|rfl<;>rcases KR hb with rfl|rfl|rfl|rfl <;>
  (repeat (first|simp only [aR,Int.reduceEq]|(refine xZ ?_;simp only [dX,Int.reduceBEq,Bool.or_false,Bool.or_true])|(refine sK ?_;simp only [fR,Int.reduceBEq,Bool.or_false,Bool.or_true])|(refine yM ?_;simp only [rF,Int.reduceEq,or_self,or_true,or_false,reduceIte])|exact h))
def bJn (a b:Int):Int:=if dX a≠dX b\/(fR a=true/\a≠b) then 11 else if fits a b then 0 else 12
theorem DV {b:Int} (ha:Kd a) (hb:Kd b) (h:K (i64 (bJn a b)) w):aC prog 152 #[i64 a,i64 b] w K:=by
 apply aXh;unfold QC
 rcases KR ha with rfl|rfl|rfl|rfl<;>rcases KR hb with rfl|rfl|rfl|rfl <;>
  (repeat (first|simp only [aJj,aR,Int.reduceEq,bne_self_eq_false,Bool.bne_false,Bool.bne_true]|(refine tC ?_;simp only [dX,Int.reduceBEq,Bool.or_false,Bool.or_true])|(refine tD ?_;simp only [fR,Int.reduceBEq,Bool.or_false,Bool.or_true])|(refine aQx ha hb ?_;simp only [fits,Int.reduceBEq,Bool.or_false,Bool.or_true,Bool.and_true,Bool.and_false])|exact h))
def Ask (a:Int):Prop:=a=-1\/a=-2\/a=-3\/a=-4\/Kd a
theorem aRd (hk:Kd k) (ha:Ask a) (h:K (.bool (tQ k a)) w):aC prog 204 #[i64 k,i64 a] w K:=by
 apply aVe;unfold OH
 have ha:a=-1\/a=-2\/a=-3\/a=-4\/a=1\/a=2\/a=3\/a=4:=by
  rcases ha with h|h|h|h|h
  iterate 4
   ·omega
  ·have:=KR h;omega
 rcases KR hk with rfl|rfl|rfl|rfl<;>rcases ha with rfl|rfl|rfl|rfl|rfl|rfl|rfl|rfl <;>
  (repeat (first|simp only [aR,Int.reduceEq,Int.reduceNeg]|(refine xZ ?_;simp only [dX,Int.reduceBEq,Bool.or_false,Bool.or_true])|(refine sK ?_;simp only [fR,Int.reduceBEq,Bool.or_false,Bool.or_true])|exact h))
theorem aEo (hk:Kd k) (ha:Ask a) (h:K (.bool (vW k a)) w):aC prog 207 #[i64 k,i64 a] w K:=by
 apply aVb;unfold OD
 have ha:a=-1\/a=-2\/a=-3\/a=-4\/a=1\/a=2\/a=3\/a=4:=by
  rcases ha with h|h|h|h|h
  iterate 4
   ·omega
  ·have:=KR h;omega
 rcases KR hk with rfl|rfl|rfl|rfl<;>rcases ha with rfl|rfl|rfl|rfl|rfl|rfl|rfl|rfl<;>(repeat (first|simp only [aR,Int.reduceEq,Int.reduceNeg]|exact h))
theorem wY {n lo hi:Int} (h:K (.bool (decide (lo<=n/\n<=hi))) w):aC prog 145 #[i64 n,i64 lo,i64 hi] w K:=by
 apply aXo;unfold QJ;simp only [kO,ge_iff_le];by_cases h1:lo<=n
 ·simp only [h1,true_and,aR] at h ⊢;exact h
 ·simp only [h1,false_and,aR] at h ⊢;exact h
def LR (op:Int):Int:=if op=27 then 2 else if op=1\/op=2\/op=3\/op=23\/op=24\/op=25\/op=33\/op=34\/op=35\/op=36\/op=37\/op=38 then 1 else 0
theorem BB (h:1<=op/\op<=39):op=1\/op=2\/op=3\/op=4\/op=5\/op=6\/op=7\/op=8\/op=9\/op=10\/op=11\/op=12\/op=13\/op=14\/op=15\/op=16\/op=17\/op=18\/op=19\/op=20\/op=21\/op=22\/op=23\/op=24\/op=25\/op=26\/op=27\/op=28\/op=29\/op=30\/op=31\/op=32\/op=33\/op=34\/op=35\/op=36\/op=37\/op=38\/op=39:=by omega
theorem VY (ho:1<=op/\op<=39) (h:K (i64 (LR op)) w):aC prog 144 #[i64 op] w K:=by
 apply aXp;unfold QK;rcases BB ho with rfl|rfl|rfl|rfl|rfl|rfl|rfl|rfl|rfl|rfl|rfl|rfl|rfl|rfl|rfl|rfl|rfl|rfl|rfl|rfl|rfl|rfl|rfl|rfl|rfl|rfl|rfl|rfl|rfl|rfl|rfl|rfl|rfl|rfl|rfl|rfl|rfl|rfl|rfl<;>(simp only [aR,Int.reduceEq];exact h)
theorem aCk (h:K (.tuple #[i64 (lim op).1,i64 (lim op).2]) w):aC prog 200 #[i64 op] w K:=by
 apply aVi;unfold OL;by_cases ho:op=1\/op=2\/op=3\/op=23\/op=24\/op=25\/op=27\/op=33\/op=34\/op=35\/op=36\/op=37\/op=38
 ·rcases ho with rfl|rfl|rfl|rfl|rfl|rfl|rfl|rfl|rfl|rfl|rfl|rfl|rfl<;>(simp only [aR,Int.reduceEq,Int.reduceNeg];exact h)
 ·simp only [not_or] at ho;obtain ⟨h1,h2,h3,h4,h5,h6,h7,h8,h9,h10,h11,h12,h13⟩:=ho;have e:lim op=(0,0):=by unfold lim;simp [*]
  rw [e] at h;simp only [h1,h2,h3,h4,h5,h6,h7,h8,h9,h10,h11,h12,h13,aR,Int.reduceNeg];exact h
def iI (l:List kJ):List Y:=l.flatMap λx=>[i64 x.op,i64 x.a,i64 x.b]
def lT (w:O) (v:Y) (l:List kJ):Prop:=aA w v 3 l.length (iI l)
theorem sL:∀ {l:List kJ} {k:Nat} {x:kJ},l[k]?=some x->((iI l).drop (k*3)).take 3=[i64 x.op,i64 x.a,i64 x.b]
 | [],_,_,h=>by simp at h
 | y::l,0,x,h=>by simp at h;subst h;simp [iI]
 | y::l,k+1,x,h=>by
  have:=sL (l:=l) (k:=k) (by simpa using h);simp only [iI,List.flatMap_cons] at this ⊢;rw [show (k+1)*3=k*3+3 by omega,<- List.drop_drop];simpa [List.drop_append] using this
theorem lT.ext {w':O} {v:Y} {l:List kJ} (h:lT w v l) (hx:aE w w'):lT w' v l:=aA.ext h hx
def cA {α:Type} (T:O->List Y->α->Prop) (sz:Nat) (w:O) (v:Y) (l:List α):Prop:=
 ∃ cs,aA w v sz l.length cs/\∀ (k:Nat) x,l[k]?=some x->∃ row,(cs.drop (k*sz)).take sz=row/\T w row x
theorem cA.ext {α:Type} {T:O->List Y->α->Prop} (hT:∀ {w w' row x},T w row x->aE w w'->T w' row x) {sz:Nat} {w':O} {v:Y} {l:List α} (h:cA T sz w v l) (hx:aE w w'):cA T sz w' v l:=by
 obtain ⟨cs,h1,h2⟩:=h;refine ⟨cs,h1.ext hx,λk x hk=>?_⟩;obtain ⟨row,h3,h4⟩:=h2 k x hk;exact ⟨row,h3,hT h4 hx⟩
def lH (w:O) (row:List Y) (m:jN):Prop:=∃ pv lv cv,row=[pv,i64 m.result,lv,cv]/\aN w pv m.params/\aN w lv m.locals/\lT w cv m.code
theorem lH.ext {w w':O} {row:List Y} {m:jN} (h:lH w row m) (hx:aE w w'):lH w' row m:=by
 obtain ⟨pv,lv,cv,h1,h2,h3,h4⟩:=h;exact ⟨pv,lv,cv,h1,h2.ext hx,h3.ext hx,h4.ext hx⟩
def vS (w:O) (row:List Y) (x:IF):Prop:=∃ pv,row=[.string x.name,i64 x.exp,pv,i64 x.result]/\aN w pv x.params
theorem vS.ext {w w':O} {row:List Y} {x:IF} (h:vS w row x) (hx:aE w w'):vS w' row x:=by
 obtain ⟨pv,h1,h2⟩:=h;exact ⟨pv,h1,h2.ext hx⟩
def rO (w:O) (v:Y) (l:List jN):Prop:=cA lH 4 w v l
def rP (w:O) (v:Y) (l:List IF):Prop:=cA vS 4 w v l
theorem rO.ext {w':O} {v:Y} {l:List jN} (h:rO w v l) (hx:aE w w'):rO w' v l:=cA.ext (λh k=>h.ext k) h hx
theorem rP.ext {w':O} {v:Y} {l:List IF} (h:rP w v l) (hx:aE w w'):rP w' v l:=cA.ext (λh k=>h.ext k) h hx
structure jO where
 fv:Y
 iv:Y
 mv:Y
 xv:Y
structure kP (w:O) (p:jO) (i:iK):Prop where
 fl:aN w p.fv i.fields
 im:rP w p.iv i.imports
 mt:rO w p.mv i.methods
 ex:aN w p.xv i.exports
def jO.val (p:jO) (i:iK):Y:=.agg #[.string i.name,p.fv,p.iv,p.mv,p.xv]
theorem kP.ext {w':O} {p:jO} {i:iK} (h:kP w p i) (hx:aE w w'):kP w' p i:=⟨h.fl.ext hx,h.im.ext hx,h.mt.ext hx,h.ex.ext hx⟩
theorem cA.sl {T:O->List Y->α->Prop} {v:Y} {l:List α} (h:cA T sz w v l):∃ cs,aA w v sz l.length cs:=⟨_,h.choose_spec.1⟩
theorem ldS {T:O->List Y->α->Prop} {t x:TypeId} {v:Y} {l:List α} {e:α} (h:XA prog t sz) (ht:∃ d z by_,Program.underlying prog x=some d/\mA d=true/\dD prog x z sz by_) (hs:cA T sz w v l) (hi:l[i]?=some e) (hT:∀ w row e,T w row e->row.length=sz)
  (hk:∀ row,T w row e->K (.agg row.toArray) w):V prog (Instr.indexAt t v (i64 i)) w λp w1=>V prog (Instr.loadAt x p) w1 K:=by
 obtain ⟨cs,h1,h2⟩:=hs;obtain ⟨row,h3,h4⟩:=h2 i e hi;have hlt:i < l.length:=(List.getElem?_eq_some_iff.1 hi).1;exact uI h ht h1 (by omega) (by omega) (by simpa using h3) (hT _ _ _ h4) (hk row h4)
theorem qL (w:O) (row:List Y) (m:jN) (h:lH w row m):row.length=4:=by obtain ⟨_,_,_,rfl,_⟩:=h;rfl
theorem BR (w:O) (row:List Y) (m:IF) (h:vS w row m):row.length=4:=by obtain ⟨_,rfl,_⟩:=h;rfl
theorem oT {T:O->List Y->α->Prop} {t s f o ft:Nat} {v:Y} {l:List α} {e:α} (h:XA prog t sz) (hf:FA prog s f o) (hl:L1 prog ft) (hs:cA T sz w v l) (hi:l[i]?=some e)
  (hk:∀ row,T w row e->∃ u,row[o]?=some u/\o < sz/\K u w):V prog (Instr.indexAt t v (i64 i)) w λp w1=>V prog (Instr.fieldAt s p f) w1 λq w2=>V prog (Instr.loadAt ft q) w2 K:=by
 obtain ⟨cs,h1,h2⟩:=hs;obtain ⟨row,h3,h4⟩:=h2 i e hi;have hlt:i < l.length:=(List.getElem?_eq_some_iff.1 hi).1;obtain ⟨u,hu,ho,hK⟩:=hk row h4;refine aQi h hf hl h1 (by omega) (by omega) ?_ hK;rw [<- h3,List.getElem?_take,if_pos ho,List.getElem?_drop] at hu;simpa using hu
theorem yY {T:O->List Y->α->Prop} {t ty:Nat} {v:Y} {l:List α} (h:XA prog t sz) (hs:cA T sz w v l) (hk:K (i64 l.length) w):V prog (Builtin.len_ #[t] ty #[v]) w K:=by
 obtain ⟨cs,h1,_⟩:=hs;exact fQ h h1 hk
theorem ldI {v:Y} {l:List kJ} (hs:lT w v l) (hi:l[i]?=some x) (hk:K (.agg #[i64 x.op,i64 x.a,i64 x.b]) w):V prog (Instr.indexAt 36 v (i64 i)) w λp w1=>V prog (Instr.loadAt 88 p) w1 K:=by
 have hlt:i < l.length:=(List.getElem?_eq_some_iff.1 hi).1;exact uI jY iG hs (by omega) (by omega) (l:=[i64 x.op,i64 x.a,i64 x.b]) (by simpa using sL hi) rfl hk
def nmL:List Y:=[.string { data:=#[] },.string { data:=#[112,117,115,104] },.string { data:=#[108,111,97,100] },.string { data:=#[115,116,111,114,101] },.string { data:=#[112,111,112] },.string { data:=#[100,117,112] },.string { data:=#[97,100,100] },.string { data:=#[115,117,98] },.string { data:=#[109,117,108] },.string { data:=#[97,110,100] },.string { data:=#[111,114] },.string { data:=#[120,111,114] },.string { data:=#[115,104,108] },.string { data:=#[115,104,114] },.string { data:=#[115,97,114] },.string { data:=#[110,101,103] },.string { data:=#[110,111,116] },.string { data:=#[100,105,118] },.string { data:=#[114,101,109] },.string { data:=#[101,113] },.string { data:=#[108,116] },.string { data:=#[98,101,108,111,119] },.string { data:=#[112,105,99,107] },.string { data:=#[106,117,109,112] },.string { data:=#[106,117,109,112,105,102] },.string { data:=#[110,117,108,108] },.string { data:=#[105,115,110,117,108,108] },.string { data:=#[110,101,119] },.string { data:=#[108,101,110] },.string { data:=#[103,101,116] },.string { data:=#[112,117,116] },.string { data:=#[99,111,112,121] },.string { data:=#[115,97,109,101] },.string { data:=#[103,101,116,102] },.string { data:=#[112,117,116,102] },.string { data:=#[98,117,102] },.string { data:=#[115,101,110,100] },.string { data:=#[99,97,108,108] },.string { data:=#[99,97,108,108,120] },.string { data:=#[114,101,116] }]
theorem aGh (h:∀ v w',aA w' v 1 40 nmL->aE w w'->K v w'):aC prog 191 #[] w K:=by
 apply aVs;unfold OU;exact jX bAt nmL (by kernel_rfl) (by kernel_rfl) (by decide) (by kernel_rfl) λv w' ho hx=>h v w' (aA.of_own ho) hx
theorem bJc {op:Nat} (h1:1<=op) (h2:op<=39):∃ s:ByteArray,nmL[op]?=some (.string s)/\(s.toList == ({ data:=#[] }:ByteArray).toList)=false:=by
 have:∀ k:Fin 40,k.val=0\/(match nmL[k.val]? with|some (.string s)=>s.toList == ({ data:=#[] }:ByteArray).toList|_=>true)=false:=by decide +kernel
 rcases this ⟨op,by omega⟩ with h|h
 ·simp only at h;omega
 ·simp only at h;split at h
  ·rename_i s hs;exact ⟨s,hs,h⟩
  ·cases h
theorem bBy (h:∀ (s:ByteArray) w',((s.toList == ({ data:=#[] }:ByteArray).toList)=decide (¬ (1<=op/\op<=39)))->aE w w'->K (.string s) w'):aC prog 143 #[i64 op] w K:=by
 apply aXq;unfold QM;refine aGh λv w1 hs x1=>?_;refine aW.2 ?_;by_cases h1:op < 1
 ·simp only [h1,aR];exact h _ _ (by simp;omega) x1
 ·simp only [h1,aR];refine fQ aEa hs ?_;refine kO.2 ?_;by_cases h2:op>=((40:Nat):Int)
  ·simp only [h2,aR];exact h _ _ (by simp;omega) x1
  ·simp only [h2,aR];obtain ⟨k,rfl⟩:∃ k:Nat,op=k:=⟨op.toNat,by omega⟩;obtain ⟨s,hs1,hs2⟩:=bJc (op:=k) (by omega) (by omega);refine lV aEa aHd hs (by omega) (by omega) (by simpa using hs1) (h _ _ ?_ x1);rw [hs2];simp;omega
theorem aQm {lv:Y} {l:List Int} {most:Int} (hs:aN w lv l) (h:∀ b,(b=true↔rW l most)->K (.bool b) w):aC prog 91 #[lv,i64 most] w K:=by
 apply bFc;unfold YL;refine ⟨λv w'=>∃ j:Nat,v=i64 j/\j<=l.length/\w'=w/\sA (l.take j),λv _=>l.length - (RowKit.intOf v).toNat,⟨0,rfl,Nat.zero_le _,rfl,λ_ h=>by simp at h⟩,?_⟩;rintro _ _ ⟨j,rfl,hj,rfl,hk⟩ _;have hno:∀ {k:Int},l[j]?=some k->¬ Kd k->K (.bool false) _:=λhk hn=>h false ⟨λh=>(by cases h),λhr=>absurd (hr.1 _ (List.mem_of_getElem? hk)) hn⟩
 have hcap:l.length<=maxLen:=by
  rcases hs.2 with ⟨_,h0⟩|⟨_,_,_,_,h1,h2,_⟩
  ·rw [h0];exact Nat.zero_le _
  ·omega
 refine fQ aQ hs (aW.2 (aB (λhlt=>?_) λhge=>?_))
 ·have hj':j < l.length:=by omega
  obtain ⟨k,hk1⟩:=bE hj';refine lV aQ aG hs (by omega) (by omega) (cK hk1) (aW.2 ?_);by_cases h1:k < 1
  ·simp only [h1,aR];exact hno hk1 λh=>by unfold Kd at h;omega
  ·simp only [h1,aR];refine lV aQ aG hs (by omega) (by omega) (cK hk1) (iH.2 ?_);by_cases h2:k > 4
   ·simp only [h2,aR];exact hno hk1 λh=>by unfold Kd at h;omega
   ·simp only [h2,aR];refine bA.2 ?_;rw [lI (by omega) (by unfold maxLen at hcap;omega),bK];refine ⟨⟨j+1,rfl,by omega,rfl,λq hq=>?_⟩,by simp only [aL];omega⟩;rw [List.take_add_one,hk1] at hq;rcases List.mem_append.1 hq with hq|hq
    ·exact hk q hq
    ·simp at hq;subst hq;exact ⟨by omega,by omega⟩
 ·have hjl:j=l.length:=by omega
  subst hjl;rw [List.take_length] at hk;refine fQ aQ hs (rH.2 ?_);exact h _ (by simp [rW,hk])
theorem aPf (h:∀ b w',(b=true↔x.right)->aE w w'->K (.bool b) w'):aC prog 92 #[.agg #[i64 x.op,i64 x.a,i64 x.b]] w K:=by
 obtain ⟨op,a,b⟩:=x;apply bFb;unfold YK;refine bx λb1 w1 hb x1=>?_;refine bC hb bH aG rfl ?_;refine bBy λs w2 hs x2=>?_;have hb:=hb.ext x2;have xx:=x1.trans x2;refine V.ok VR ?_;rw [hs];have no:∀ {w'},aE w w'->¬ kJ.right ⟨op,a,b⟩->K (.bool false) w':=λhx hn=>h false _ ⟨λh=>(by cases h),λhr=>absurd hr hn⟩ hx;by_cases ho:1<=op/\op<=39
 ·simp only [ho,and_self,aR,Int.reduceNeg];refine bC hb bH aG rfl (cH.2 ?_);by_cases h27:op=27
  ·subst h27;simp only [aR,Int.reduceNeg];refine bC hb bH aG rfl ?_;refine VY ho ?_;simp only [LR,aR,Int.reduceEq,Int.reduceNeg];refine bC hb bH aG rfl ?_;simp only [aR,Int.reduceEq,Int.reduceNeg];refine bC hb bD aG rfl ?_;refine wY ?_;by_cases ha:(3:Int)<=a/\a<=4
   ·simp only [ha,and_self,aR];refine bC hb tG aG rfl ?_;refine wY ?_;by_cases hb1:(0:Int)<=b/\b<=2
    ·simp only [hb1,and_self,aR];exact h true _ ⟨λ_=>⟨ho,ha.1,ha.2,.inl hb1⟩,λ_=>rfl⟩ xx
    ·simp only [hb1,aR];refine bC hb tG aG rfl ?_;refine wY ?_;refine h _ _ ⟨λhd=>⟨ho,ha.1,ha.2,.inr (of_decide_eq_true hd)⟩,λhr=>decide_eq_true (hr.2.2.2.resolve_left hb1)⟩ xx
   ·simp only [ha,aR];exact no xx λhr=>ha ⟨hr.2.1,hr.2.2.1⟩
  ·simp only [h27,aR,Int.reduceNeg];refine bC hb tG aG rfl (cH.2 ?_)
   have hbr:kJ.right ⟨op,a,b⟩->b=0:=λhr=>by
    have:=hr.2.2.2;dsimp only at this
    rwa [if_neg h27] at this
   by_cases hb0:b=0
   ·subst hb0;simp only [aR,Int.reduceNeg];refine bC hb bH aG rfl ?_;refine VY ho (aH.2 ?_)
    have fin:∀ {lo hi:Int} {w'},lim op=(lo,hi)->aE w w'->K (.bool (decide (lo<=a/\a<=hi))) w':=λ{lo hi w'} hl hx=>by
     refine h _ _ ⟨λhd=>?_,λhr=>?_⟩ hx
     ·have:=of_decide_eq_true hd;refine ⟨ho,?_,?_,?_⟩
      ·rw [hl];exact this.1
      ·rw [hl];exact this.2
      ·dsimp only;rw [if_neg h27]
     ·have h1:=hr.2.1;have h2:=hr.2.2.1;rw [hl] at h1 h2;exact decide_eq_true ⟨h1,h2⟩
    by_cases hop:op=1\/op=2\/op=3\/op=23\/op=24\/op=25\/op=33\/op=34\/op=35\/op=36\/op=37\/op=38
    ·rcases hop with rfl|rfl|rfl|rfl|rfl|rfl|rfl|rfl|rfl|rfl|rfl|rfl <;>
      (simp only [LR,Int.reduceEq,or_self,or_true,or_false,aR,Int.reduceEq,Int.reduceNeg]
       refine bC hb (by first|exact dB|exact dA|exact cF|exact cZ|exact cQ|exact cP|exact cE|exact cY|exact cX|exact cW|exact cO|exact cN|exact cM|exact bV|exact cV|exact bU|exact dI|exact cU|exact cT|exact dH|exact dG|exact dL|exact dF|exact dK|exact dV|exact dU|exact eG|exact eW|exact eF|exact eE|exact eV|exact eD|exact eU|exact bR|exact dT|exact dS|exact dR|exact eC|exact dJ|exact bX|exact cD|exact eR|exact eB|exact dQ|exact cC|exact dP|exact eZ|exact dO|exact fL|exact eQ|exact aZ|exact eO|exact cB|exact eA|exact eN|exact fK|exact cS|exact fI|exact gD|exact fU|exact iD|exact iU|exact dN|exact gC|exact iT|exact gW|exact gV|exact gU|exact iC|exact iB|exact gA|exact bQ|exact fT|exact fZ|exact dZ|exact dY|exact kC|exact kB|exact kZ|exact jI|exact fH|exact bP|exact kF|exact kY|exact gK|exact eI|exact dM|exact fW|exact kX|exact cG|exact nN|exact oP|exact lS|exact lR|exact nM|exact pU|exact lQ|exact mH|exact mG|exact lP|exact qN|exact nA|exact mF|exact qM|exact bH) (by first|exact gZ|exact gJ|exact gY|exact iR|exact kK|exact iQ|exact iP|exact iO|exact bF|exact jF|exact iN|exact dE|exact aG) rfl ?_;simp only [aR,Int.reduceEq,Int.reduceNeg]
       refine bC hb (by first|exact dB|exact dA|exact cF|exact cZ|exact cQ|exact cP|exact cE|exact cY|exact cX|exact cW|exact cO|exact cN|exact cM|exact bV|exact cV|exact bU|exact dI|exact cU|exact cT|exact dH|exact dG|exact dL|exact dF|exact dK|exact dV|exact dU|exact eG|exact eW|exact eF|exact eE|exact eV|exact eD|exact eU|exact bR|exact dT|exact dS|exact dR|exact eC|exact dJ|exact bX|exact cD|exact eR|exact eB|exact dQ|exact cC|exact dP|exact eZ|exact dO|exact fL|exact eQ|exact aZ|exact eO|exact cB|exact eA|exact eN|exact fK|exact cS|exact fI|exact gD|exact fU|exact iD|exact iU|exact dN|exact gC|exact iT|exact gW|exact gV|exact gU|exact iC|exact iB|exact gA|exact bQ|exact fT|exact fZ|exact dZ|exact dY|exact kC|exact kB|exact kZ|exact jI|exact fH|exact bP|exact kF|exact kY|exact gK|exact eI|exact dM|exact fW|exact kX|exact cG|exact nN|exact oP|exact lS|exact lR|exact nM|exact pU|exact lQ|exact mH|exact mG|exact lP|exact qN|exact nA|exact mF|exact qM|exact bH|exact bD) (by first|exact gZ|exact gJ|exact gY|exact iR|exact kK|exact iQ|exact iP|exact iO|exact bF|exact jF|exact iN|exact dE|exact aG) rfl ?_;exact wY (fin rfl xx))
    ·simp only [not_or] at hop;obtain ⟨n1,n2,n3,n4,n5,n6,n7,n8,n9,n10,n11,n12⟩:=hop;have e0:LR op=0:=by unfold LR;simp [*]
     have el:lim op=(0,0):=by unfold lim;simp [*]
     simp only [e0,aR,Int.reduceNeg];refine bC hb bD aG rfl (cH.2 ?_);by_cases ha:a=0
     ·subst ha;simp only [aR,Int.reduceNeg];refine bC hb bH aG rfl ?_;simp only [n1,n2,n3,n4,n5,n6,n7,n8,n9,n10,n11,n12,h27,aR,Int.reduceNeg];have:=fin el xx;simpa using this
     ·simp only [ha,aR,Int.reduceNeg];refine no xx λhr=>ha ?_;have h1:=hr.2.1;have h2:=hr.2.2.1;rw [el] at h1 h2;dsimp only at h1 h2;omega
   ·simp only [hb0,aR,Int.reduceNeg];exact no xx λhr=>hb0 (hbr hr)
 ·simp only [ho,aR,Int.reduceNeg];exact no xx λhr=>ho hr.1
def cR (φ:Prop) (w:O) (v:Y) (w':O):Prop:=∃ b,v=.bool b/\(b=true↔φ)/\aE w w'
theorem cR.yes (h:φ) (hx:aE w w'):cR φ w (.bool true) w':=⟨true,rfl,⟨λ_=>h,λ_=>rfl⟩,hx⟩
theorem cR.no (h:¬ φ) (hx:aE w w'):cR φ w (.bool false) w':=⟨false,rfl,⟨λe=>(by cases e),λe=>absurd e h⟩,hx⟩
theorem ldP {t b:Nat} {u:Y} {cs:List Y} (hl:L1 prog t) (hb:aY w b cs) (hu:cs[0]?=some u) (hk:K u w):V prog (Instr.loadAt t (.pointer (some ⟨b,0,none⟩))) w K:=by
 obtain ⟨d,hd,ha⟩:=hl;exact V.ok (jD hd ha (by have:=hb 0 u hu;simpa using this)) hk
def KM (_:O) (row:List Y) (x:kJ):Prop:=row=[i64 x.op,i64 x.a,i64 x.b]
theorem lT.strs {v:Y} {l:List kJ} (h:lT w v l):cA KM 3 w v l:=⟨_,h,λ_ _ hk=>⟨_,sL hk,rfl⟩⟩
theorem WL (w:O) (row:List Y) (x:kJ) (h:KM w row x):row.length=3:=by cases h;rfl
theorem KM.ext {row:List Y} (h:KM w row x) (_:aE w w'):KM w' row x:=h
theorem CM {T:O->List Y->α->Prop} {v:Y} {l:List α} (h:cA T sz w v l):l.length<=maxLen:=by
 obtain ⟨cs,h,_⟩:=h;rcases h.2 with ⟨_,h0⟩|⟨_,_,_,_,h1,h2,_⟩
 ·rw [h0];exact Nat.zero_le _
 ·omega
theorem uJ {v:Y} {l:List Int} (hs:aN w v l):l.length<=maxLen:=by
 rcases hs.2 with ⟨_,h0⟩|⟨_,_,_,_,h1,h2,_⟩
 ·rw [h0];exact Nat.zero_le _
 ·omega
theorem bDb {lv:Y} {l:List Int} {q:Int->Prop} (hs:aN w lv l) (hf:∀ x∈l,∀ w',aE w w'->rD prog fv #[i64 x] w' (cR (q x) w')) (hk:∀ r w',aE w w'->(0<=r↔∃ x∈l,q x)->K (i64 r) w') :
  aC prog 195 #[lv,fv] w K:=by
 apply aVo;unfold OQ;have hcap:=uJ hs;refine fQ aQ hs ?_;refine ⟨λv w'=>∃ j:Nat,v=i64 j/\j<=l.length/\aE w w'/\∀ x∈l.take j,¬ q x,λv _=>l.length - (RowKit.intOf v).toNat,⟨0,rfl,Nat.zero_le _,aE.refl _,λ_ h=>by simp at h⟩,?_⟩;rintro _ w1 ⟨j,rfl,hj,x1,hno⟩ _;refine aW.2 (aB (λhlt=>?_) λhge=>?_)
 ·obtain ⟨x,hx⟩:=bE (l:=l) (j:=j) (by omega);refine lV aQ aG (hs.ext x1) (by omega) (by omega) (cK hx) ?_;refine (hf x (List.mem_of_getElem? hx) w1 x1).mono λv w2 ⟨b,hv,hb,x2⟩=>?_;subst hv;cases b with
  | true=>rw [bJ];exact hk _ _ (x1.trans x2) ⟨λ_=>⟨x,List.mem_of_getElem? hx,hb.1 rfl⟩,λ_=>by omega⟩
  | false=>
   rw [aP];refine bA.2 ?_;rw [lI (by omega) (by unfold maxLen at hcap;omega),bK];refine ⟨⟨j+1,rfl,by omega,x1.trans x2,λy hy=>?_⟩,by simp only [aL];omega⟩;rw [List.take_add_one,hx] at hy;rcases List.mem_append.1 hy with hy|hy
   ·exact hno y hy
   ·simp at hy;subst hy;exact λh=>by have:=hb.2 h;cases this
 ·have hjl:j=l.length:=by omega
  subst hjl;rw [List.take_length] at hno;exact hk _ _ x1 ⟨λh=>by omega,λ⟨x,h1,h2⟩=>absurd h2 (hno x h1)⟩
theorem bAi {lv:Y} {l:List Int} {q:Int->Prop} (hs:aN w lv l) (hf:∀ x∈l,∀ w',aE w w'->rD prog fv #[i64 x] w' (cR (q x) w')):aC prog 156 #[lv,fv] w (cR (∃ x∈l,q x) w):=by
 apply aXd;unfold PY;refine bDb hs hf λr w1 x1 hr=>kO.2 ?_;exact ⟨_,rfl,decide_eq_true_iff.trans hr,x1⟩
theorem HH (h:K (.bool (decide (Kd k))) w):aC prog 158 #[i64 k] w K:=by
 apply aXb;unfold PW;refine kO.2 ?_;unfold Kd at h;by_cases h1:k>=1
 ·have h1':1<=k:=h1;simp only [h1,true_and,aR] at h ⊢;exact h
 ·have h1':¬ 1<=k:=h1;simp only [h1,false_and,aR] at h ⊢;exact h
theorem AP (h:K (.bool (decide (0<=k/\k<=4))) w):aC prog 161 #[i64 k] w K:=by
 apply aWx;unfold PT;by_cases h0:k=0
 ·subst h0;simp only [aR];exact h
 ·simp only [h0,aR];refine HH ?_;have e:(Kd k)↔(0<=k/\k<=4):=by unfold Kd;omega
  simp only [e];exact h
theorem xY {lv:Y} {l:List Int} {most:Int} (hs:aN w lv l):aC prog 107 #[lv,i64 most] w (cR (rW l most) w):=by
 apply aZa;unfold RS;refine fQ aQ hs (rH.2 ?_);by_cases h1:(l.length:Int)<=most
 ·simp only [h1,aR];refine (bAi (q:=λk=>¬ Kd k) hs λx _ w' _=>⟨_,_,rfl,?_⟩).mono λv w1 ⟨b,hv,hb,x1⟩=>?_
  ·show aC prog _ #[i64 x] w' _;apply aXc;unfold PX;refine HH (dC.2 ?_);exact ⟨_,rfl,by simp,aE.refl _⟩
  ·subst hv;refine dC.2 ⟨_,rfl,?_,x1⟩;unfold rW sA;rw [Bool.not_eq_true',Bool.eq_false_iff,ne_eq,hb];constructor
   ·intro h;exact ⟨λk hk=>Classical.byContradiction λhn=>h ⟨k,hk,hn⟩,h1⟩
   ·rintro ⟨h,_⟩ ⟨k,hk,hn⟩;exact hn (h k hk)
 ·simp only [h1,aR];exact cR.no (λh=>h1 h.2) (aE.refl _)
theorem MP {lv:Y} {l:List IF} {q:IF->Prop} (hs:cA vS 4 w lv l) (hf:∀ x∈l,∀ row w',vS w' row x->aE w w'->rD prog fv #[.agg row.toArray] w' (cR (q x) w')) (hk:∀ r w',aE w w'->(0<=r↔∃ x∈l,q x)->K (i64 r) w') :
  aC prog 196 #[lv,fv] w K:=by
 apply aVn;unfold OP;have hcap:=CM hs;refine yY nQ hs ?_;refine ⟨λv w'=>∃ j:Nat,v=i64 j/\j<=l.length/\aE w w'/\∀ x∈l.take j,¬ q x,λv _=>l.length - (RowKit.intOf v).toNat,⟨0,rfl,Nat.zero_le _,aE.refl _,λ_ h=>by simp at h⟩,?_⟩;rintro _ w1 ⟨j,rfl,hj,x1,hno⟩ _;refine aW.2 (aB (λhlt=>?_) λhge=>?_)
 ·obtain ⟨x,hx⟩:=bE (l:=l) (j:=j) (by omega);refine ldS nQ JP (cA.ext (λh k=>h.ext k) hs x1) hx BR λrow hrow=>?_;refine (hf x (List.mem_of_getElem? hx) row w1 hrow x1).mono λv w2 ⟨b,hv,hb,x2⟩=>?_;subst hv;cases b with
  | true=>rw [bJ];exact hk _ _ (x1.trans x2) ⟨λ_=>⟨x,List.mem_of_getElem? hx,hb.1 rfl⟩,λ_=>by omega⟩
  | false=>
   rw [aP];refine bA.2 ?_;rw [lI (by omega) (by unfold maxLen at hcap;omega),bK];refine ⟨⟨j+1,rfl,by omega,x1.trans x2,λy hy=>?_⟩,by simp only [aL];omega⟩;rw [List.take_add_one,hx] at hy;rcases List.mem_append.1 hy with hy|hy
   ·exact hno y hy
   ·simp at hy;subst hy;exact λh=>by have:=hb.2 h;cases this
 ·have hjl:j=l.length:=by omega
  subst hjl;rw [List.take_length] at hno;exact hk _ _ x1 ⟨λh=>by omega,λ⟨x,h1,h2⟩=>absurd h2 (hno x h1)⟩
theorem aDq {lv:Y} {l:List IF} {q:IF->Prop} {g:Nat} (hs:cA vS 4 w lv l) (hf:∀ x∈l,∀ row w',vS w' row x->aE w w'->aC prog g #[.agg row.toArray] w' (cR (q x) w')) :
  aC prog 108 #[lv,.func (.func g) #[] #[]] w (cR (∀ x∈l,q x) w):=by
 apply aYz;unfold RR;refine bx λb w1 hb x1=>fnK ?_;refine aC.mono (R:=cR (∃ x∈l,¬ q x) w1) ?_ λv w2 ⟨t,hv,ht,x2⟩=>?_
 ·apply aXa;unfold PV;refine MP (q:=λx=>¬ q x) (cA.ext (λh k=>h.ext k) hs x1) (λx hx row w2 hrow x2=>⟨_,_,rfl,?_⟩) λr w2 x2 hr=>kO.2 ⟨_,rfl,decide_eq_true_iff.trans hr,x2⟩;show aC prog _ #[.agg row.toArray,_] w2 _;apply aWy;unfold PU;refine bx λb2 w3 hb2 x3=>?_;refine ldP iQ ((hb.ext x2).ext x3) rfl ?_;have hl:=BR w2 row x hrow;have hb2:aY w3 b2 row:=hb2;refine iF hb2 JP hl ?_;refine ⟨_,_,rfl,?_⟩;refine (hf x hx row w3 (hrow.ext x3) ((x1.trans x2).trans x3)).mono λv w4 ⟨t,hv,ht,x4⟩=>?_;subst hv;refine dC.2 ⟨_,rfl,?_,x3.trans x4⟩;rw [Bool.not_eq_true',Bool.eq_false_iff,ne_eq,ht]
 ·subst hv;refine dC.2 ⟨_,rfl,?_,x1.trans x2⟩;rw [Bool.not_eq_true',Bool.eq_false_iff,ne_eq,ht];constructor
  ·intro h x hx;exact Classical.byContradiction λhn=>h ⟨x,hx,hn⟩
  ·rintro h ⟨x,hx,hn⟩;exact hn (h x hx)
theorem MO {lv:Y} {l:List jN} {q:jN->Prop} (hs:cA lH 4 w lv l) (hf:∀ x∈l,∀ row w',lH w' row x->aE w w'->rD prog fv #[.agg row.toArray] w' (cR (q x) w')) (hk:∀ r w',aE w w'->(0<=r↔∃ x∈l,q x)->K (i64 r) w') :
  aC prog 197 #[lv,fv] w K:=by
 apply aVm;unfold OO;have hcap:=CM hs;refine yY gO hs ?_;refine ⟨λv w'=>∃ j:Nat,v=i64 j/\j<=l.length/\aE w w'/\∀ x∈l.take j,¬ q x,λv _=>l.length - (RowKit.intOf v).toNat,⟨0,rfl,Nat.zero_le _,aE.refl _,λ_ h=>by simp at h⟩,?_⟩;rintro _ w1 ⟨j,rfl,hj,x1,hno⟩ _;refine aW.2 (aB (λhlt=>?_) λhge=>?_)
 ·obtain ⟨x,hx⟩:=bE (l:=l) (j:=j) (by omega);refine ldS gO oK (cA.ext (λh k=>h.ext k) hs x1) hx qL λrow hrow=>?_;refine (hf x (List.mem_of_getElem? hx) row w1 hrow x1).mono λv w2 ⟨b,hv,hb,x2⟩=>?_;subst hv;cases b with
  | true=>rw [bJ];exact hk _ _ (x1.trans x2) ⟨λ_=>⟨x,List.mem_of_getElem? hx,hb.1 rfl⟩,λ_=>by omega⟩
  | false=>
   rw [aP];refine bA.2 ?_;rw [lI (by omega) (by unfold maxLen at hcap;omega),bK];refine ⟨⟨j+1,rfl,by omega,x1.trans x2,λy hy=>?_⟩,by simp only [aL];omega⟩;rw [List.take_add_one,hx] at hy;rcases List.mem_append.1 hy with hy|hy
   ·exact hno y hy
   ·simp at hy;subst hy;exact λh=>by have:=hb.2 h;cases this
 ·have hjl:j=l.length:=by omega
  subst hjl;rw [List.take_length] at hno;exact hk _ _ x1 ⟨λh=>by omega,λ⟨x,h1,h2⟩=>absurd h2 (hno x h1)⟩
theorem aDp {lv:Y} {l:List jN} {q:jN->Prop} {g:Nat} (hs:cA lH 4 w lv l) (hf:∀ x∈l,∀ row w',lH w' row x->aE w w'->aC prog g #[.agg row.toArray] w' (cR (q x) w')) :
  aC prog 110 #[lv,.func (.func g) #[] #[]] w (cR (∀ x∈l,q x) w):=by
 apply aYx;unfold RQ;refine bx λb w1 hb x1=>fnK ?_;refine aC.mono (R:=cR (∃ x∈l,¬ q x) w1) ?_ λv w2 ⟨t,hv,ht,x2⟩=>?_
 ·apply aWw;unfold PS;refine MO (q:=λx=>¬ q x) (cA.ext (λh k=>h.ext k) hs x1) (λx hx row w2 hrow x2=>⟨_,_,rfl,?_⟩) λr w2 x2 hr=>kO.2 ⟨_,rfl,decide_eq_true_iff.trans hr,x2⟩;show aC prog _ #[.agg row.toArray,_] w2 _;apply aWv;unfold PR;refine bx λb2 w3 hb2 x3=>?_;refine ldP iP ((hb.ext x2).ext x3) rfl ?_;have hl:=qL w2 row x hrow;have hb2:aY w3 b2 row:=hb2;refine iF hb2 oK hl ?_;refine ⟨_,_,rfl,?_⟩;refine (hf x hx row w3 (hrow.ext x3) ((x1.trans x2).trans x3)).mono λv w4 ⟨t,hv,ht,x4⟩=>?_;subst hv;refine dC.2 ⟨_,rfl,?_,x3.trans x4⟩;rw [Bool.not_eq_true',Bool.eq_false_iff,ne_eq,ht]
 ·subst hv;refine dC.2 ⟨_,rfl,?_,x1.trans x2⟩;rw [Bool.not_eq_true',Bool.eq_false_iff,ne_eq,ht];constructor
  ·intro h x hx;exact Classical.byContradiction λhn=>h ⟨x,hx,hn⟩
  ·rintro h ⟨x,hx,hn⟩;exact hn (h x hx)
theorem TS {lv:Y} {l:List kJ} {q:kJ->Prop} (hs:cA KM 3 w lv l) (hf:∀ x∈l,∀ row w',KM w' row x->aE w w'->rD prog fv #[.agg row.toArray] w' (cR (q x) w')) (hk:∀ r w',aE w w'->(0<=r↔∃ x∈l,q x)->K (i64 r) w') :
  aC prog 219 #[lv,fv] w K:=by
 apply aUo;unfold NR;have hcap:=CM hs;refine yY jY hs ?_;refine ⟨λv w'=>∃ j:Nat,v=i64 j/\j<=l.length/\aE w w'/\∀ x∈l.take j,¬ q x,λv _=>l.length - (RowKit.intOf v).toNat,⟨0,rfl,Nat.zero_le _,aE.refl _,λ_ h=>by simp at h⟩,?_⟩;rintro _ w1 ⟨j,rfl,hj,x1,hno⟩ _;refine aW.2 (aB (λhlt=>?_) λhge=>?_)
 ·obtain ⟨x,hx⟩:=bE (l:=l) (j:=j) (by omega);refine ldS jY iG (cA.ext (λh k=>h.ext k) hs x1) hx WL λrow hrow=>?_;refine (hf x (List.mem_of_getElem? hx) row w1 hrow x1).mono λv w2 ⟨b,hv,hb,x2⟩=>?_;subst hv;cases b with
  | true=>rw [bJ];exact hk _ _ (x1.trans x2) ⟨λ_=>⟨x,List.mem_of_getElem? hx,hb.1 rfl⟩,λ_=>by omega⟩
  | false=>
   rw [aP];refine bA.2 ?_;rw [lI (by omega) (by unfold maxLen at hcap;omega),bK];refine ⟨⟨j+1,rfl,by omega,x1.trans x2,λy hy=>?_⟩,by simp only [aL];omega⟩;rw [List.take_add_one,hx] at hy;rcases List.mem_append.1 hy with hy|hy
   ·exact hno y hy
   ·simp at hy;subst hy;exact λh=>by have:=hb.2 h;cases this
 ·have hjl:j=l.length:=by omega
  subst hjl;rw [List.take_length] at hno;exact hk _ _ x1 ⟨λh=>by omega,λ⟨x,h1,h2⟩=>absurd h2 (hno x h1)⟩
theorem aJb {lv:Y} {l:List kJ} {q:kJ->Prop} {g:Nat} (hs:cA KM 3 w lv l) (hf:∀ x∈l,∀ row w',KM w' row x->aE w w'->aC prog g #[.agg row.toArray] w' (cR (q x) w')) :
  aC prog 164 #[lv,.func (.func g) #[] #[]] w (cR (∀ x∈l,q x) w):=by
 apply aWu;unfold PQ;refine bx λb w1 hb x1=>fnK ?_;refine aC.mono (R:=cR (∃ x∈l,¬ q x) w1) ?_ λv w2 ⟨t,hv,ht,x2⟩=>?_
 ·apply aVl;unfold ON;refine TS (q:=λx=>¬ q x) (cA.ext (λh k=>h.ext k) hs x1) (λx hx row w2 hrow x2=>⟨_,_,rfl,?_⟩) λr w2 x2 hr=>kO.2 ⟨_,rfl,decide_eq_true_iff.trans hr,x2⟩;show aC prog _ #[.agg row.toArray,_] w2 _;apply aVk;unfold OM;refine bx λb2 w3 hb2 x3=>?_;refine ldP iR ((hb.ext x2).ext x3) rfl ?_;have hl:=WL w2 row x hrow;have hb2:aY w3 b2 row:=hb2;refine iF hb2 iG hl ?_;refine ⟨_,_,rfl,?_⟩;refine (hf x hx row w3 (hrow.ext x3) ((x1.trans x2).trans x3)).mono λv w4 ⟨t,hv,ht,x4⟩=>?_;subst hv;refine dC.2 ⟨_,rfl,?_,x3.trans x4⟩;rw [Bool.not_eq_true',Bool.eq_false_iff,ne_eq,ht]
 ·subst hv;refine dC.2 ⟨_,rfl,?_,x1.trans x2⟩;rw [Bool.not_eq_true',Bool.eq_false_iff,ne_eq,ht];constructor
  ·intro h x hx;exact Classical.byContradiction λhn=>h ⟨x,hx,hn⟩
  ·rintro h ⟨x,hx,hn⟩;exact hn (h x hx)
end Go.Proofs.YtjcmcfidblhnnaaGreatDoor
namespace Go.Tc
def kJ.rg (x:kJ):Prop:=-9223372036854775808<=x.b/\x.b<=9223372036854775807
def iK.rg (i:iK):Prop:=∀ m∈i.methods,∀ x∈m.code,x.rg
theorem aRp {b:Int} (h0:0<=b) (h1:b<=9223372036854775807):IntKind.i64.wrap (BitVec.ofInt IntKind.i64.bits b &&& ~~~ BitVec.ofInt IntKind.i64.bits 4).toNat<=2↔(0<=b/\b<=2)\/(4<=b/\b<=6):=by
 obtain ⟨n,rfl⟩:∃ n:Nat,b=n:=⟨b.toNat,by omega⟩
 have e:(BitVec.ofInt IntKind.i64.bits (n:Int) &&& ~~~ BitVec.ofInt IntKind.i64.bits 4).toNat=n &&& 18446744073709551611:=by
  have hb:IntKind.i64.bits=64:=rfl;rw [BitVec.toNat_and,BitVec.toNat_not]
  have e1:(BitVec.ofInt IntKind.i64.bits (n:Int)).toNat=n:=by
   rw [hb,BitVec.ofInt_natCast,BitVec.toNat_ofNat];exact Nat.mod_eq_of_lt (by omega)
  have e2:(BitVec.ofInt IntKind.i64.bits 4).toNat=4:=by decide
  rw [e1,e2,hb]
 rw [e];have hle:n &&& 18446744073709551611<=n:=Nat.and_le_left
 have hw:IntKind.i64.wrap ((n &&& 18446744073709551611:Nat):Int)=((n &&& 18446744073709551611:Nat):Int):=by
  simp only [IntKind.wrap_i64];omega
 rw [hw];by_cases h8:n < 8
 ·have:n=0\/n=1\/n=2\/n=3\/n=4\/n=5\/n=6\/n=7:=by omega
  rcases this with rfl|rfl|rfl|rfl|rfl|rfl|rfl|rfl<;>decide
 ·have e3:(n &&& 18446744073709551611) >>> 3=n >>> 3:=by
   rw [Nat.shiftRight_and_distrib];have e4:18446744073709551611 >>> 3=2 ^ 61 - 1:=by decide
   rw [e4,Nat.and_two_pow_sub_one_eq_mod];refine Nat.mod_eq_of_lt ?_;rw [Nat.shiftRight_eq_div_pow];omega
  rw [Nat.shiftRight_eq_div_pow,Nat.shiftRight_eq_div_pow] at e3;constructor
  iterate 2
   ·intro h;omega
end Go.Tc
namespace Go.Proofs.YtjcmcfidblhnnaaGreatDoor
open Tryz
open Go.Vc Go.Tc
variable {w:O} {K:Y->O->Prop}
variable {P:Program} {a op:Int} {x:kJ} {w':O} {m:jN} {i:iK} {p:jO}
theorem DC {t:TypeId} {k:IntKind} {b:Int}:(binOp .andNot t (.int k a) (.int k b)).run P w=.ok (.int k (k.wrap (BitVec.ofInt k.bits a &&& ~~~ BitVec.ofInt k.bits b).toNat)) w:=by simp [binOp,Op.intBits]
theorem aFa (hr:x.rg):aC prog 165 #[.agg #[i64 x.op,i64 x.a,i64 x.b]] w (cR x.right w):=by
 obtain ⟨op,a,b⟩:=x;apply aWt;suffices key:∀ R:Y->O->Prop,(∀ v w',cR (kJ.right ⟨op,a,b⟩) w v w'->R v w')->FG (.agg #[i64 op,i64 a,i64 b]) w R from key _ λ_ _ h=>h;intro R hR;unfold FG;refine bx λb1 w1 hb x1=>?_;refine bC hb bH aG rfl ?_;refine aCk ?_;refine hU.2 (hO.2 ?_);have no:¬ kJ.right ⟨op,a,b⟩->R (.bool false) w1:=λhn=>hR _ _ (cR.no hn x1);refine bC hb bH aG rfl (aW.2 ?_);by_cases h1:op < 1
 ·simp only [h1,aR];exact no λh=>by have:=h.1.1;dsimp only at this;omega
 simp only [h1,aR];refine bC hb bH aG rfl (iH.2 ?_);by_cases h2:op > 39
 ·simp only [h2,aR];exact no λh=>by have:=h.1.2;dsimp only at this;omega
 simp only [h2,aR];refine bC hb bD aG rfl (aW.2 ?_);by_cases h3:a < (lim op).1
 ·simp only [h3,aR];exact no λh=>by have:=h.2.1;dsimp only at this;omega
 simp only [h3,aR];refine bC hb bD aG rfl (iH.2 ?_);by_cases h4:a > (lim op).2
 ·simp only [h4,aR];exact no λh=>by have:=h.2.2.1;dsimp only at this;omega
 simp only [h4,aR];refine bC hb bH aG rfl (aH.2 ?_);have base:(1<=op/\op<=39)/\(lim op).1<=a/\a<=(lim op).2:=⟨by omega,by omega,by omega⟩;by_cases h5:op=27
 ·simp only [h5,aR]
  have hright:kJ.right ⟨op,a,b⟩↔(0<=b/\b<=2)\/(4<=b/\b<=6):=by
   unfold kJ.right;dsimp only;rw [if_pos h5];exact ⟨λh=>h.2.2.2,λh=>⟨base.1,base.2.1,base.2.2,h⟩⟩
  refine bC hb tG aG rfl (kO.2 ?_);by_cases h6:b>=0
  ·simp only [h6,aR];refine bC hb tG aG rfl (V.ok DC (rH.2 ?_));exact hR _ _ ⟨_,rfl,decide_eq_true_iff.trans ((aRp h6 hr.2).trans hright.symm),x1⟩
  ·simp only [h6,aR];exact no λh=>by rw [hright] at h;omega
 ·simp only [h5,aR];refine bC hb tG aG rfl (aH.2 ?_);refine hR _ _ ⟨_,rfl,decide_eq_true_iff.trans ?_,x1⟩;unfold kJ.right;dsimp only;rw [if_neg h5];exact ⟨λh=>⟨base.1,base.2.1,base.2.2,h⟩,λh=>h.2.2.2⟩
def uS (w0:O) (nm:ByteArray):Prop:=∀ w,aE w0 w->aC prog 90 #[.string nm] w (cR True w)/\aC prog 106 #[.string nm] w (cR True w)
def lA (w0:O) (i:iK):Prop:=uS w0 i.name/\∀ x∈i.imports,uS w0 x.name
theorem uS.ext {nm:ByteArray} (h:uS w nm) (hx:aE w w'):uS w' nm:=λw2 hx2=>h w2 (hx.trans hx2)
theorem lA.ext {w w':O} {i:iK} (h:lA w i) (hx:aE w w'):lA w' i:=⟨h.1.ext hx,λx hm=>(h.2 x hm).ext hx⟩
theorem cR.T {v:Y} (h:cR True w v w'):v=.bool true/\aE w w':=by
 obtain ⟨b,hv,hb,x⟩:=h;rw [hb.2 trivial] at hv;exact ⟨hv,x⟩
theorem aCs {row:List Y} {x:IF} (hrow:vS w row x) (hn:uS w x.name):aC prog 109 #[.agg row.toArray] w (cR x.right w):=by
 obtain ⟨pv,rfl,hp⟩:=hrow;apply aYy;suffices key:∀ R:Y->O->Prop,(∀ v w',cR x.right w v w'->R v w')->FM (.agg [.string x.name,i64 x.exp,pv,i64 x.result].toArray) w R from key _ λ_ _ h=>h;intro R hR;unfold FM;refine bx λb1 w1 hb x1=>?_;refine bC hb eC aHd rfl ?_;refine (hn w1 x1).2.mono λv w2 hv=>?_;obtain ⟨rfl,x2⟩:=hv.T;have hb:=hb.ext x2;have xx:=x1.trans x2;simp only [aR];refine bC hb dJ aG rfl (kO.2 ?_);by_cases h1:x.exp>=0
 case neg=>simp only [h1,aR];exact hR _ _ (cR.no (λh=>h1 h.1.1) xx)
 simp only [h1,aR];refine bC hb dJ aG rfl (aW.2 ?_);by_cases h2:x.exp < 4
 case neg=>simp only [h2,aR];exact hR _ _ (cR.no (λh=>h2 h.1.2) xx)
 simp only [h2,aR];refine bC hb bX bF rfl ?_;refine (xY (hp.ext xx)).mono λv w3 ⟨b,hv,hbk,x3⟩=>?_;subst hv;have hb:=hb.ext x3;have xx:=xx.trans x3;cases b with
 | false=>simp only [aR];exact hR _ _ (cR.no (λh=>by have:=hbk.2 h.2.1;cases this) xx)
 | true=>
  simp only [aR];refine bC hb cD aG rfl (AP ?_);exact hR _ _ ⟨_,rfl,decide_eq_true_iff.trans ⟨λh=>⟨⟨h1,h2⟩,hbk.1 rfl,h⟩,λh=>h.2.2⟩,xx⟩
theorem aCh {row:List Y} (hrow:lH w row m) (hr:∀ x∈m.code,x.rg):aC prog 111 #[.agg row.toArray] w (cR m.right w):=by
 obtain ⟨pv,lv,cv,rfl,hp,hl,hc⟩:=hrow;have cp:=uJ hp;apply aYw;suffices key:∀ R:Y->O->Prop,(∀ v w',cR m.right w v w'->R v w')->FL (.agg [pv,i64 m.result,lv,cv].toArray) w R from key _ λ_ _ h=>h;intro R hR;unfold FL;refine bx λb1 w1 hb x1=>?_;refine bC hb dM bF rfl ?_;refine (xY (hp.ext x1)).mono λv w2 ⟨b,hv,hk1,x2⟩=>?_;subst hv;have hb:=hb.ext x2;have xx:=x1.trans x2;cases b with
 | false=>simp only [aR];exact hR _ _ (cR.no (λh=>by have:=hk1.2 h.1;cases this) xx)
 | true=>
 simp only [aR];refine bC hb fW aG rfl (AP ?_);by_cases h2:0<=m.result/\m.result<=4
 case neg=>simp only [h2,aR];exact hR _ _ (cR.no (λh=>h2 h.2.1) xx)
 simp only [h2,and_self,aR];refine bC hb kX bF rfl ?_;refine bC hb dM bF rfl (fQ aQ (hp.ext xx) (eY.2 ?_));rw [lI (by unfold maxLen at cp;omega) (by omega)];refine (xY (hl.ext xx)).mono λv w3 ⟨b,hv,hk3,x3⟩=>?_;subst hv;have hb:=hb.ext x3;have xx:=xx.trans x3;cases b with
 | false=>simp only [aR];exact hR _ _ (cR.no (λh=>by have:=hk3.2 h.2.2.1;cases this) xx)
 | true=>
 simp only [aR];refine bC hb cG iM rfl (fQ jY (hc.ext xx) (kO.2 ?_));by_cases h4:(m.code.length:Int)>=1
 case neg=>simp only [h4,aR];exact hR _ _ (cR.no (λh=>h4 (by have:=h.2.2.2.1.1;omega)) xx)
 simp only [h4,aR];refine bC hb cG iM rfl (fQ jY (hc.ext xx) (rH.2 ?_));by_cases h5:(m.code.length:Int)<=120
 case neg=>simp only [h5,aR];exact hR _ _ (cR.no (λh=>h5 (by have:=h.2.2.2.1.2;omega)) xx)
 simp only [h5,aR];refine bC hb cG iM rfl ?_;refine (aJb (q:=λx=>x.right) (hc.ext xx).strs λx hx row w' hrow _=>?_).mono λv w4 ⟨b,hv,hk6,x4⟩=>?_
 ·cases hrow;exact aFa (hr x hx)
 ·subst hv;refine hR _ _ ⟨b,rfl,?_,xx.trans x4⟩;rw [hk6];exact ⟨λh=>⟨hk1.1 rfl,h2,hk3.1 rfl,⟨by omega,by omega⟩,h⟩,λh=>h.2.2.2.2⟩
theorem aZu (h:1<=i.methods.length):i.methods[0]?=some (i.meth 0):=by
 unfold iK.meth;rw [Int.toNat_zero,List.getD_eq_getElem?_getD,List.getElem?_eq_getElem (by omega)];rfl
theorem aFb (h:kP w p i) (hr:i.rg) (hn:lA w i):aC prog 56 #[p.val i] w (cR i.right w):=by
 apply bGh;suffices key:∀ R:Y->O->Prop,(∀ v w',cR i.right w v w'->R v w')->KP (p.val i) w R from key _ λ_ _ h=>h;intro R hR;unfold KP jO.val;refine bx λb1 w1 hb x1=>?_;refine bC hb kZ aHd rfl ?_;refine (hn.1 w1 x1).2.mono λv w2 hv=>?_;obtain ⟨rfl,x2⟩:=hv.T;have hb:=hb.ext x2;have xx:=x1.trans x2;simp only [aR];refine bC hb jI bF rfl ?_;refine (xY (h.ext xx).fl).mono λv w3 ⟨b,hv,hk1,x3⟩=>?_;subst hv;have hb:=hb.ext x3;have xx:=xx.trans x3;cases b with
 | false=>simp only [aR];exact hR _ _ (cR.no (λh=>by have:=hk1.2 h.1;cases this) xx)
 | true=>
 simp only [aR];refine bC hb fH iN rfl (yY nQ (h.ext xx).im (iH.2 ?_));by_cases h2:(i.imports.length:Int) > 4
 ·simp only [h2,aR];exact hR _ _ (cR.no (λh=>by have:=h.2.1.1;omega) xx)
 simp only [h2,aR];refine bC hb fH iN rfl ?_;refine (aDq (q:=λx=>x.right) (h.ext xx).im λx hx row w' hrow xw=>aCs hrow ((hn.2 x hx).ext (xx.trans xw))).mono λv w4 ⟨b,hv,hk3,x4⟩=>?_;subst hv;have hb:=hb.ext x4;have xx:=xx.trans x4;cases b with
 | false=>simp only [aR];exact hR _ _ (cR.no (λh=>by have:=hk3.2 h.2.1.2;cases this) xx)
 | true=>
 simp only [aR];refine bC hb bP dE rfl (yY gO (h.ext xx).mt (aW.2 ?_));by_cases h4:(i.methods.length:Int) < 1
 ·simp only [h4,aR];exact hR _ _ (cR.no (λh=>by have:=h.2.2.1.1.1;omega) xx)
 simp only [h4,aR];refine bC hb bP dE rfl (yY gO (h.ext xx).mt (iH.2 ?_));by_cases h5:(i.methods.length:Int) > 8
 ·simp only [h5,aR];exact hR _ _ (cR.no (λh=>by have:=h.2.2.1.1.2;omega) xx)
 simp only [h5,aR];refine bC hb bP dE rfl ?_;refine (aDp (q:=λx=>x.right) (h.ext xx).mt λx hx row w' hrow _=>aCh hrow (hr x hx)).mono λv w5 ⟨b,hv,hk6,x5⟩=>?_;subst hv;have hb:=hb.ext x5;have xx:=xx.trans x5;cases b with
 | false=>simp only [aR];exact hR _ _ (cR.no (λh=>by have:=hk6.2 h.2.2.1.2.1;cases this) xx)
 | true=>
 simp only [aR];have h0:=aZu (i:=i) (by omega);refine bC hb bP dE rfl ?_;refine oT (i:=0) gO dM bF (h.ext xx).mt h0 λrow hrow=>?_;obtain ⟨pv,lv,cv,rfl,hp,_,_⟩:=hrow;refine ⟨pv,rfl,by decide,fQ aQ hp (iH.2 ?_)⟩;by_cases h7:((i.meth 0).params.length:Int) > ((0:Nat):Int)
 ·have h7':((i.meth 0).params.length:Int) > 0:=h7;simp only [h7',aR];exact hR _ _ (cR.no (λh=>by rw [h.2.2.1.2.2.1] at h7;simp at h7) xx)
 have h7':¬ ((i.meth 0).params.length:Int) > 0:=h7;simp only [h7',aR];refine bC hb bP dE rfl ?_;refine oT (i:=0) gO fW aG (h.ext xx).mt h0 λrow hrow=>?_;obtain ⟨pv,lv,cv,rfl,_,_,_⟩:=hrow;refine ⟨i64 (i.meth 0).result,rfl,by decide,cH.2 ?_⟩;by_cases h8:(i.meth 0).result=0
 case neg=>simp only [h8,aR];exact hR _ _ (cR.no (λh=>h8 h.2.2.1.2.2.2) xx)
 simp only [h8,aR];refine bC hb kF bF rfl (fQ aQ (h.ext xx).ex (rH.2 ?_));by_cases h9:(i.exports.length:Int)<=4
 case neg=>simp only [h9,aR];exact hR _ _ (cR.no (λh=>h9 (by have:=h.2.2.2.1;omega)) xx)
 simp only [h9,aR];refine bC hb kF bF rfl (fnK ?_)
 have fin:aC prog 112 #[p.xv,.func (.func 113) #[] #[.pointer (some ⟨b1,0,none⟩)]] w5 (cR (∀ n∈i.exports,0<=n/\n < (i.methods.length:Int)) w5):=by
  have hb5:=hb;have h5':=h.ext xx;apply aYv;unfold RP;refine bx λb2 w6 hb2 x6=>fnK ?_;refine (bAi (q:=λn=>¬ (0<=n/\n < (i.methods.length:Int))) (h5'.ext x6).ex λn _ w7 x7=>⟨_,_,rfl,?_⟩).mono λv w8 ⟨t,hv,ht,x8⟩=>?_
  ·show aC prog _ #[i64 n,_] w7 _;apply aWs;unfold PP;refine ldP iO (hb2.ext x7) rfl ?_;refine ⟨_,_,rfl,?_⟩;show aC prog _ #[i64 n,_] w7 _;apply aYu;suffices key:∀ R:Y->O->Prop,(∀ b,(b=true↔(0<=n/\n < (i.methods.length:Int)))->R (.bool b) w7)->FK (i64 n) (.pointer (some ⟨b1,0,none⟩)) w7 R from key _ λb hb=>dC.2 ⟨_,rfl,by rw [Bool.not_eq_true',Bool.eq_false_iff,ne_eq,hb],aE.refl _⟩;intro R hR;unfold FK;refine kO.2 ?_;by_cases hn0:n>=0
   ·simp only [hn0,aR];refine bC ((hb5.ext x6).ext x7) bP dE rfl (yY gO ((h5'.ext x6).ext x7).mt (aW.2 ?_));exact hR _ (by simp;omega)
   ·simp only [hn0,aR];exact hR _ ⟨λh=>(by cases h),λh=>absurd h.1 hn0⟩
  ·subst hv;refine dC.2 ⟨_,rfl,?_,x6.trans x8⟩;rw [Bool.not_eq_true',Bool.eq_false_iff,ne_eq,ht];constructor
   ·intro hh x hx;exact Classical.byContradiction λhn=>hh ⟨x,hx,hn⟩
   ·rintro hh ⟨x,hx,hn⟩;exact hn (hh x hx)
 refine fin.mono λv w6 ⟨b,hv,hk,x6⟩=>?_;subst hv;refine hR _ _ ⟨b,rfl,?_,xx.trans x6⟩;rw [hk];exact ⟨λhh=>⟨hk1.1 rfl,⟨by omega,hk3.1 rfl⟩,⟨⟨by omega,by omega⟩,hk6.1 rfl,List.eq_nil_of_length_eq_zero (by omega),h8⟩,by omega,hh⟩,λhh=>hh.2.2.2.2⟩
theorem K53 {lv:Y} {l:List Int} {most:Int} (hs:aN w lv l) (hk:∀ b,(b=true↔rW l most)->K (.bool b) w):aC prog 91 #[lv,i64 most] w K:=aQm hs hk
theorem aPg (h:kP w p i) (hn:lA w i):aC prog 44 #[p.val i] w (cR i.right w):=by
 apply bGt;suffices key:∀ R:Y->O->Prop,(∀ v w',cR i.right w v w'->R v w')->KQ (p.val i) w R from key _ λ_ _ h=>h;intro R hR;unfold KQ jO.val;refine bx λb1 w1 hb x1=>?_;refine bC hb kZ aHd rfl ?_;refine (hn.1 w1 x1).1.mono λv w2 hv=>?_;obtain ⟨rfl,x2⟩:=hv.T;have hb:=hb.ext x2;have xx:=x1.trans x2;simp only [aR];have no:∀ {w'},aE w2 w'->¬ i.right->R (.bool false) w':=λhx hn=>hR _ _ (cR.no hn (xx.trans hx));refine bC hb jI bF rfl (K53 (h.ext xx).fl λb hk1=>?_);cases b with
 | false=>simp only [aR];exact no (aE.refl _) λh=>by have:=hk1.2 h.1;cases this
 | true=>
 simp only [aR];refine bC hb fH iN rfl (yY nQ (h.ext xx).im (iH.2 ?_));by_cases h2:(i.imports.length:Int) > 4
 ·simp only [h2,aR];exact no (aE.refl _) λh=>by have:=h.2.1.1;omega
 simp only [h2,aR];refine bC hb bP dE rfl (yY gO (h.ext xx).mt (aW.2 ?_));by_cases h4:(i.methods.length:Int) < 1
 ·simp only [h4,aR];exact no (aE.refl _) λh=>by have:=h.2.2.1.1.1;omega
 simp only [h4,aR];refine bC hb bP dE rfl (yY gO (h.ext xx).mt (iH.2 ?_));by_cases h5:(i.methods.length:Int) > 8
 ·simp only [h5,aR];exact no (aE.refl _) λh=>by have:=h.2.2.1.1.2;omega
 simp only [h5,aR];refine bC hb kF bF rfl (fQ aQ (h.ext xx).ex (iH.2 ?_));by_cases h9:(i.exports.length:Int) > 4
 ·simp only [h9,aR];exact no (aE.refl _) λh=>by have:=h.2.2.2.1;omega
 simp only [h9,aR];have hw2:=h.ext xx;refine ⟨λv w'=>∃ j:Nat,v=i64 j/\j<=i.imports.length/\aE w2 w'/\∀ x∈i.imports.take j,x.right,λv _=>i.imports.length - (RowKit.intOf v).toNat,⟨0,rfl,Nat.zero_le _,aE.refl _,λ_ h=>by simp at h⟩,?_⟩;rintro _ w3 ⟨j,rfl,hj,x3,hall⟩ _;refine bC (hb.ext x3) fH iN rfl (yY nQ (hw2.ext x3).im (aW.2 (aB (λhlt=>?_) λhge=>?_)))
 ·obtain ⟨x,hx⟩:=bE (l:=i.imports) (j:=j) (by omega);have hxm:x∈i.imports:=List.mem_of_getElem? hx;refine bC (hb.ext x3) fH iN rfl ?_;refine ldS nQ JP (hw2.ext x3).im hx BR λrow hrow=>?_;obtain ⟨pv,rfl,hp⟩:=hrow;obtain ⟨pa,pc,rfl⟩:=hp.shape;refine wV aEs rfl rfl λb2 w4 hb2 x4=>?_;refine bC hb2 eC aHd rfl ?_;refine (hn.2 x hxm w4 ((xx.trans x3).trans x4)).1.mono λv w5 hv=>?_;obtain ⟨rfl,x5⟩:=hv.T;have hb2:=hb2.ext x5;have x35:=(x3.trans x4).trans x5;simp only [aR];have noI:¬ x.right->R (.bool false) w5:=λhn=>no x35 λh=>hn (h.2.1.2 x hxm);refine bC hb2 dJ aG rfl (aW.2 ?_);by_cases g1:x.exp < 0
  ·simp only [g1,aR];exact noI λh=>by have:=h.1.1;omega
  simp only [g1,aR];refine bC hb2 dJ aG rfl (kO.2 ?_);by_cases g2:x.exp>=4
  ·simp only [g2,aR];exact noI λh=>by have:=h.1.2;omega
  simp only [g2,aR];refine bC hb2 bX bF rfl (K53 (hp.ext (x4.trans x5)) λb hk3=>?_);cases b with
  | false=>simp only [aR];exact noI λh=>by have:=hk3.2 h.2.1;cases this
  | true=>
  simp only [aR];refine bC hb2 cD aG rfl (aW.2 ?_);by_cases g3:x.result < 0
  ·simp only [g3,aR];exact noI λh=>by have:=h.2.2.1;omega
  simp only [g3,aR];refine bC hb2 cD aG rfl (iH.2 ?_);by_cases g4:x.result > 4
  ·simp only [g4,aR];exact noI λh=>by have:=h.2.2.2;omega
  simp only [g4,aR];refine kQ (by omega) ?_;refine ⟨⟨j+1,rfl,by omega,x35,λy hy=>?_⟩,by simp only [aL];omega⟩;rw [List.take_add_one,hx] at hy;rcases List.mem_append.1 hy with hy|hy
  ·exact hall y hy
  ·simp at hy;subst hy;exact ⟨⟨by omega,by omega⟩,hk3.1 rfl,by omega,by omega⟩
 have hjl:j=i.imports.length:=by omega
 subst hjl;rw [List.take_length] at hall;refine ⟨λv w'=>∃ j:Nat,v=i64 j/\j<=i.methods.length/\aE w2 w'/\∀ x∈i.methods.take j,x.right,λv _=>i.methods.length - (RowKit.intOf v).toNat,⟨0,rfl,Nat.zero_le _,x3,λ_ h=>by simp at h⟩,?_⟩;rintro _ w4 ⟨j,rfl,hj,x4,hallm⟩ _;refine bC (hb.ext x4) bP dE rfl (yY gO (hw2.ext x4).mt (aW.2 (aB (λhlt=>?_) λhge=>?_)))
 ·obtain ⟨m,hm⟩:=bE (l:=i.methods) (j:=j) (by omega);have hmm:m∈i.methods:=List.mem_of_getElem? hm;refine bC (hb.ext x4) bP dE rfl ?_;refine ldS gO oK (hw2.ext x4).mt hm qL λrow hrow=>?_;obtain ⟨pv,lv,cv,rfl,hp,hl,hc⟩:=hrow;obtain ⟨pa,pc,rfl⟩:=hp.shape;obtain ⟨la,lc,rfl⟩:=hl.shape;obtain ⟨ca,cc,rfl⟩:=aA.shape hc;refine wV GK rfl rfl λb2 w5 hb2 x5=>?_;have x45:=x4.trans x5;have noM:∀ {w'},aE w5 w'->¬ m.right->R (.bool false) w':=λhx hn=>no (x45.trans hx) λh=>hn (h.2.2.1.2.1 m hmm);refine bC hb2 dM bF rfl (K53 (hp.ext x5) λb hk3=>?_);cases b with
  | false=>simp only [aR];exact noM (aE.refl _) λh=>by have:=hk3.2 h.1;cases this
  | true=>
  simp only [aR];refine bC hb2 fW aG rfl (aW.2 ?_);by_cases g3:m.result < 0
  ·simp only [g3,aR];exact noM (aE.refl _) λh=>by have:=h.2.1.1;omega
  simp only [g3,aR];refine bC hb2 fW aG rfl (iH.2 ?_);by_cases g4:m.result > 4
  ·simp only [g4,aR];exact noM (aE.refl _) λh=>by have:=h.2.1.2;omega
  simp only [g4,aR];have cp:=uJ hp;refine bC hb2 kX bF rfl ?_;refine bC hb2 dM bF rfl (fQ aQ (hp.ext x5) (eY.2 ?_));rw [lI (by unfold maxLen at cp;omega) (by omega)];refine K53 (hl.ext x5) λb hk5=>?_;cases b with
  | false=>simp only [aR];exact noM (aE.refl _) λh=>by have:=hk5.2 h.2.2.1;cases this
  | true=>
  simp only [aR];refine bC hb2 cG iM rfl (fQ jY (hc.ext x5) (aW.2 ?_));by_cases g6:(m.code.length:Int) < 1
  ·simp only [g6,aR];exact noM (aE.refl _) λh=>by have:=h.2.2.2.1.1;omega
  simp only [g6,aR];refine bC hb2 cG iM rfl (fQ jY (hc.ext x5) (iH.2 ?_));by_cases g7:(m.code.length:Int) > 120
  ·simp only [g7,aR];exact noM (aE.refl _) λh=>by have:=h.2.2.2.1.2;omega
  simp only [g7,aR];refine ⟨λv w'=>∃ q:Nat,v=i64 q/\q<=m.code.length/\aE w5 w'/\∀ x∈m.code.take q,x.right,λv _=>m.code.length - (RowKit.intOf v).toNat,⟨0,rfl,Nat.zero_le _,aE.refl _,λ_ h=>by simp at h⟩,?_⟩;rintro _ w6 ⟨q,rfl,hq,x6,hallc⟩ _;have hc6:=(hc.ext x5).ext x6;refine bC (hb2.ext x6) cG iM rfl (fQ jY hc6 (aW.2 (aB (λhlt2=>?_) λhge2=>?_)))
  ·obtain ⟨x,hx⟩:=bE (l:=m.code) (j:=q) (by omega);have hxm:x∈m.code:=List.mem_of_getElem? hx;refine bC (hb2.ext x6) cG iM rfl (ldI hc6 hx ?_);refine aPf λb w7 hbr x7=>?_;cases b with
   | false=>simp only [aR];exact noM (x6.trans x7) λh=>by have:=hbr.2 (h.2.2.2.2 x hxm);cases this
   | true=>
   simp only [aR];refine kQ (by omega) ?_;refine ⟨⟨q+1,rfl,by omega,x6.trans x7,λy hy=>?_⟩,by simp only [aL];omega⟩;rw [List.take_add_one,hx] at hy;rcases List.mem_append.1 hy with hy|hy
   ·exact hallc y hy
   ·simp at hy;subst hy;exact hbr.1 rfl
  ·have hql:q=m.code.length:=by omega
   subst hql;rw [List.take_length] at hallc;refine kQ (by omega) ?_;refine ⟨⟨j+1,rfl,by omega,x45.trans x6,λy hy=>?_⟩,by simp only [aL];omega⟩;rw [List.take_add_one,hm] at hy;rcases List.mem_append.1 hy with hy|hy
   ·exact hallm y hy
   ·simp at hy;subst hy;exact ⟨hk3.1 rfl,⟨by omega,by omega⟩,hk5.1 rfl,⟨by omega,by omega⟩,hallc⟩
 have hjl:j=i.methods.length:=by omega
 subst hjl;rw [List.take_length] at hallm;refine ⟨λv w'=>∃ j:Nat,v=i64 j/\j<=i.exports.length/\aE w2 w'/\∀ x∈i.exports.take j,0<=x/\x < (i.methods.length:Int),λv _=>i.exports.length - (RowKit.intOf v).toNat,⟨0,rfl,Nat.zero_le _,x4,λ_ h=>by simp at h⟩,?_⟩;rintro _ w5 ⟨j,rfl,hj,x5,halle⟩ _;have h5':=hw2.ext x5;refine bC (hb.ext x5) kF bF rfl (fQ aQ h5'.ex (aW.2 (aB (λhlt=>?_) λhge=>?_)))
 ·obtain ⟨x,hx⟩:=bE (l:=i.exports) (j:=j) (by omega);have hxm:x∈i.exports:=List.mem_of_getElem? hx;have D1:aE w5 w5.drew:=(aE.refl _).drew;have hbS:∀ w',aE w5 w'->aY w' b1 _:=λw' hx=>(hb.ext x5).ext hx;obtain ⟨mcs,hms⟩:=h5'.mt.sl;refine aK.mk' (λw'=>aE w5 w') D1 ?_;refine jG hbS kF bF rfl ?_;refine oE aQ aG h5'.ex (λ_ h=>h) (by omega) (by omega) (cK hx) (aBc ?_);by_cases g1:x < 0
  ·simp only [g1,aR];exact no (x5.trans D1) λh=>by have:=(h.2.2.2.2 x hxm).1;omega
  simp only [g1,aR];refine jG hbS kF bF rfl ?_;refine oE aQ aG h5'.ex (λ_ h=>h) (by omega) (by omega) (cK hx) ?_;refine jG hbS bP dE rfl (sS gO hms (bKq ?_));by_cases g2:x>=((i.methods.length:Nat):Int)
  ·simp only [g2,aR];exact no (x5.trans D1) λh=>by have:=(h.2.2.2.2 x hxm).2;omega
  simp only [g2,aR];refine kQ (by omega) ?_;refine ⟨⟨j+1,rfl,by omega,x5.trans D1,λy hy=>?_⟩,by simp only [aL];omega⟩;rw [List.take_add_one,hx] at hy;rcases List.mem_append.1 hy with hy|hy
  ·exact halle y hy
  ·simp at hy;subst hy;exact ⟨by omega,by omega⟩
 have hjl:j=i.exports.length:=by omega
 subst hjl;rw [List.take_length] at halle;have h0:=aZu (i:=i) (by omega);have fin:∀ b,(b=true↔(i.meth 0).params=[]/\(i.meth 0).result=0)->R (.bool b) w5:=λb hbb=>hR _ _ ⟨b,rfl,hbb.trans ⟨λhh=>⟨hk1.1 rfl,⟨by omega,hall⟩,⟨⟨by omega,by omega⟩,hallm,hh.1,hh.2⟩,by omega,halle⟩,λhh=>hh.2.2.1.2.2⟩,xx.trans x5⟩;refine bC (hb.ext x5) bP dE rfl ?_;refine oT (i:=0) gO dM bF h5'.mt h0 λrow hrow=>?_;obtain ⟨pv,lv,cv,rfl,hp,_,_⟩:=hrow;refine ⟨pv,rfl,by decide,fQ aQ hp (aH.2 ?_)⟩;by_cases h7:(((i.meth 0).params.length:Nat):Int)=0
 case neg=>
  simp only [h7,aR];exact fin _ ⟨λh=>(by cases h),λh=>by rw [h.1] at h7;simp at h7⟩
 simp only [h7,aR];refine bC (hb.ext x5) bP dE rfl ?_;refine oT (i:=0) gO fW aG h5'.mt h0 λrow hrow=>?_;obtain ⟨pv,lv,cv,rfl,_,_,_⟩:=hrow;refine ⟨i64 (i.meth 0).result,rfl,by decide,aH.2 ?_⟩;exact fin _ (decide_eq_true_iff.trans ⟨λh=>⟨List.eq_nil_of_length_eq_zero (by omega),h⟩,λh=>h.2⟩)
theorem fG {l:List Int} {a:Nat} (h:a < l.length):l[a]?=some (l.getD a 0):=by
 rw [List.getD_eq_getElem?_getD,List.getElem?_eq_getElem h];rfl
theorem aGs {a:Nat}:m.locs.getD a 0=if a < m.params.length then m.params.getD a 0 else m.locals.getD (a - m.params.length) 0:=by
 unfold jN.locs;simp only [List.getD_eq_getElem?_getD,List.getElem?_append];split<;>rfl
theorem JL {row:List Y} (hm:lH w row m) (hr:m.right) (h0:0<=a) (hk:∀ w',aE w w'->K (.tuple #[i64 (m.locs.getD a.toNat 0),.bool (decide (a < (m.locs.length:Int)))]) w') :
  aC prog 146 #[.agg row.toArray,i64 a] w K:=by
 obtain ⟨pv,lv,cv,rfl,hp,hl,hc⟩:=hm;obtain ⟨k,rfl⟩:∃ k:Nat,a=k:=⟨a.toNat,by omega⟩;have c1:=hr.1.2;have c2:=hr.2.2.1.2;have hlen:m.locs.length=m.params.length+m.locals.length:=by simp [jN.locs]
 apply aXn;unfold QI;refine bx λb1 w1 hb x1=>?_;have hk:=hk _ x1;rw [aGs] at hk;simp only [Int.toNat_natCast,hlen] at hk;refine bC hb dM bF rfl (fQ aQ (hp.ext x1) (aW.2 (aB (λhlt=>?_) λhge=>?_)))
 ·refine bC hb dM bF rfl ?_;refine lV aQ aG (hp.ext x1) (by omega) (by omega) (cK (fG (by omega))) ?_;rw [if_pos (by omega),decide_eq_true (by omega)] at hk;exact hk
 ·rw [if_neg (by omega)] at hk;refine bC hb dM bF rfl (fQ aQ (hp.ext x1) ?_);refine bC hb kX bF rfl (fQ aQ (hl.ext x1) (bA.2 ?_));rw [aM (by omega)];refine aW.2 (aB (λhlt2=>?_) λhge2=>?_)
  ·refine bC hb kX bF rfl ?_;refine bC hb dM bF rfl (fQ aQ (hp.ext x1) (eY.2 ?_));rw [aM (by omega),show (k:Int) - (m.params.length:Int)=((k - m.params.length:Nat):Int) by omega];refine lV aQ aG (hl.ext x1) (by omega) (by omega) (cK (fG (by omega))) ?_;rw [decide_eq_true (by omega)] at hk;exact hk
  ·rw [decide_eq_false (by omega)] at hk;have:m.locals.getD (k - m.params.length) 0=0:=by rw [List.getD_eq_getElem?_getD,List.getElem?_eq_none (by omega)];rfl
   rw [this] at hk;exact hk
theorem fY (h0:0<=a) (h:a < i.methods.length):i.methods[a.toNat]?=some (i.meth a):=by
 unfold iK.meth;rw [List.getD_eq_getElem?_getD,List.getElem?_eq_getElem (by omega)];rfl
theorem tE (h0:0<=a) (h:a < i.imports.length):i.imports[a.toNat]?=some (i.imp a):=by
 unfold iK.imp;rw [List.getD_eq_getElem?_getD,List.getElem?_eq_getElem (by omega)];rfl
theorem aQc {row:List Y} (h:kP w p i) (hm:lH w row m) (hr:m.right) (hx:x.right) :
  aC prog 93 #[p.val i,.agg row.toArray,.agg #[i64 x.op,i64 x.a,i64 x.b]] w (cR (fD i m x) w):=by
 obtain ⟨op,a,b⟩:=x;obtain ⟨ho,a1,a2,_⟩:=hx;have hm0:=hm;obtain ⟨pv,lv,cv,rfl,hp,hl,hc⟩:=hm;apply bFa;suffices key:∀ R:Y->O->Prop,(∀ v w',cR (fD i m ⟨op,a,b⟩) w v w'->R v w')->KN (p.val i) (.agg [pv,i64 m.result,lv,cv].toArray) (.agg #[i64 op,i64 a,i64 b]) w R from key _ λ_ _ h=>h;intro R hR;unfold KN jO.val;refine bx λb1 w1 hb1 x1=>?_;refine bx λb2 w2 hb2 x2=>?_;refine bx λb3 w3 hb3 x3=>?_;have hb1:=(hb1.ext x2).ext x3;have hb2:aY w3 b2 [pv,i64 m.result,lv,cv]:=hb2.ext x3;have xx:=(x1.trans x2).trans x3;have h':=h.ext xx;refine bC hb3 bH aG rfl ?_;by_cases c1:op=2\/op=3
 ·have hs:fD i m ⟨op,a,b⟩↔a < (m.locs.length:Int):=by unfold fD;dsimp only;rw [if_pos c1]
  have ha:0<=a:=by rcases c1 with rfl|rfl<;>exact a1
  rcases c1 with rfl|rfl
  all_goals
   simp only [aR,Int.reduceEq];refine iF hb2 oK rfl ?_;refine bC hb3 (by first|exact dB|exact dA|exact cF|exact cZ|exact cQ|exact cP|exact cE|exact cY|exact cX|exact cW|exact cO|exact cN|exact cM|exact bV|exact cV|exact bU|exact dI|exact cU|exact cT|exact dH|exact dG|exact dL|exact dF|exact dK|exact dV|exact dU|exact eG|exact eW|exact eF|exact eE|exact eV|exact eD|exact eU|exact bR|exact dT|exact dS|exact dR|exact eC|exact dJ|exact bX|exact cD|exact eR|exact eB|exact dQ|exact cC|exact dP|exact eZ|exact dO|exact fL|exact eQ|exact aZ|exact eO|exact cB|exact eA|exact eN|exact fK|exact cS|exact fI|exact gD|exact fU|exact iD|exact iU|exact dN|exact gC|exact iT|exact gW|exact gV|exact gU|exact iC|exact iB|exact gA|exact bQ|exact fT|exact fZ|exact dZ|exact dY|exact kC|exact kB|exact kZ|exact jI|exact fH|exact bP|exact kF|exact kY|exact gK|exact eI|exact dM|exact fW|exact kX|exact cG|exact nN|exact oP|exact lS|exact lR|exact nM|exact pU|exact lQ|exact mH|exact mG|exact lP|exact qN|exact nA|exact mF|exact qM|exact bH|exact bD) (by first|exact gZ|exact gJ|exact gY|exact iR|exact kK|exact iQ|exact iP|exact iO|exact bF|exact jF|exact iN|exact dE|exact aG) rfl ?_
   refine JL (hm0.ext xx) hr ha λw4 x4=>?_;refine hU.2 (hO.2 ?_);exact hR _ _ ⟨_,rfl,decide_eq_true_iff.trans hs.symm,xx.trans x4⟩
 by_cases c2:op=33\/op=34
 ·have hs:fD i m ⟨op,a,b⟩↔a < (i.fields.length:Int):=by unfold fD;dsimp only;rw [if_neg c1,if_pos c2]
  rcases c2 with rfl|rfl
  all_goals
   simp only [aR,Int.reduceEq];refine bC hb3 (by first|exact dB|exact dA|exact cF|exact cZ|exact cQ|exact cP|exact cE|exact cY|exact cX|exact cW|exact cO|exact cN|exact cM|exact bV|exact cV|exact bU|exact dI|exact cU|exact cT|exact dH|exact dG|exact dL|exact dF|exact dK|exact dV|exact dU|exact eG|exact eW|exact eF|exact eE|exact eV|exact eD|exact eU|exact bR|exact dT|exact dS|exact dR|exact eC|exact dJ|exact bX|exact cD|exact eR|exact eB|exact dQ|exact cC|exact dP|exact eZ|exact dO|exact fL|exact eQ|exact aZ|exact eO|exact cB|exact eA|exact eN|exact fK|exact cS|exact fI|exact gD|exact fU|exact iD|exact iU|exact dN|exact gC|exact iT|exact gW|exact gV|exact gU|exact iC|exact iB|exact gA|exact bQ|exact fT|exact fZ|exact dZ|exact dY|exact kC|exact kB|exact kZ|exact jI|exact fH|exact bP|exact kF|exact kY|exact gK|exact eI|exact dM|exact fW|exact kX|exact cG|exact nN|exact oP|exact lS|exact lR|exact nM|exact pU|exact lQ|exact mH|exact mG|exact lP|exact qN|exact nA|exact mF|exact qM|exact bH|exact bD) (by first|exact gZ|exact gJ|exact gY|exact iR|exact kK|exact iQ|exact iP|exact iO|exact bF|exact jF|exact iN|exact dE|exact aG) rfl ?_
   refine bC hb1 (by first|exact dB|exact dA|exact cF|exact cZ|exact cQ|exact cP|exact cE|exact cY|exact cX|exact cW|exact cO|exact cN|exact cM|exact bV|exact cV|exact bU|exact dI|exact cU|exact cT|exact dH|exact dG|exact dL|exact dF|exact dK|exact dV|exact dU|exact eG|exact eW|exact eF|exact eE|exact eV|exact eD|exact eU|exact bR|exact dT|exact dS|exact dR|exact eC|exact dJ|exact bX|exact cD|exact eR|exact eB|exact dQ|exact cC|exact dP|exact eZ|exact dO|exact fL|exact eQ|exact aZ|exact eO|exact cB|exact eA|exact eN|exact fK|exact cS|exact fI|exact gD|exact fU|exact iD|exact iU|exact dN|exact gC|exact iT|exact gW|exact gV|exact gU|exact iC|exact iB|exact gA|exact bQ|exact fT|exact fZ|exact dZ|exact dY|exact kC|exact kB|exact kZ|exact jI) (by first|exact gZ|exact gJ|exact gY|exact iR|exact kK|exact iQ|exact iP|exact iO|exact bF) rfl (fQ aQ h'.fl (aW.2 ?_));exact hR _ _ ⟨_,rfl,decide_eq_true_iff.trans hs.symm,xx⟩
 by_cases c3:op=37
 ·have hs:fD i m ⟨op,a,b⟩↔a < (i.methods.length:Int):=by unfold fD;dsimp only;rw [if_neg c1,if_neg c2,if_pos c3]
  subst c3;simp only [aR,Int.reduceEq];refine bC hb3 bD aG rfl ?_;refine bC hb1 bP dE rfl (yY gO h'.mt (aW.2 ?_));exact hR _ _ ⟨_,rfl,decide_eq_true_iff.trans hs.symm,xx⟩
 by_cases c4:op=38
 ·have hs:fD i m ⟨op,a,b⟩↔a < (i.imports.length:Int):=by unfold fD;dsimp only;rw [if_neg c1,if_neg c2,if_neg c3,if_pos c4]
  subst c4;simp only [aR,Int.reduceEq];refine bC hb3 bD aG rfl ?_;refine bC hb1 fH iN rfl (yY nQ h'.im (aW.2 ?_));exact hR _ _ ⟨_,rfl,decide_eq_true_iff.trans hs.symm,xx⟩
 by_cases c5:op=23\/op=24
 ·have hs:fD i m ⟨op,a,b⟩↔a < (m.code.length:Int):=by unfold fD;dsimp only;rw [if_neg c1,if_neg c2,if_neg c3,if_neg c4,if_pos c5]
  rcases c5 with rfl|rfl
  all_goals
   simp only [aR,Int.reduceEq];refine bC hb3 (by first|exact dB|exact dA|exact cF|exact cZ|exact cQ|exact cP|exact cE|exact cY|exact cX|exact cW|exact cO|exact cN|exact cM|exact bV|exact cV|exact bU|exact dI|exact cU|exact cT|exact dH|exact dG|exact dL|exact dF|exact dK|exact dV|exact dU|exact eG|exact eW|exact eF|exact eE|exact eV|exact eD|exact eU|exact bR|exact dT|exact dS|exact dR|exact eC|exact dJ|exact bX|exact cD|exact eR|exact eB|exact dQ|exact cC|exact dP|exact eZ|exact dO|exact fL|exact eQ|exact aZ|exact eO|exact cB|exact eA|exact eN|exact fK|exact cS|exact fI|exact gD|exact fU|exact iD|exact iU|exact dN|exact gC|exact iT|exact gW|exact gV|exact gU|exact iC|exact iB|exact gA|exact bQ|exact fT|exact fZ|exact dZ|exact dY|exact kC|exact kB|exact kZ|exact jI|exact fH|exact bP|exact kF|exact kY|exact gK|exact eI|exact dM|exact fW|exact kX|exact cG|exact nN|exact oP|exact lS|exact lR|exact nM|exact pU|exact lQ|exact mH|exact mG|exact lP|exact qN|exact nA|exact mF|exact qM|exact bH|exact bD) (by first|exact gZ|exact gJ|exact gY|exact iR|exact kK|exact iQ|exact iP|exact iO|exact bF|exact jF|exact iN|exact dE|exact aG) rfl ?_
   refine bC hb2 (by first|exact dB|exact dA|exact cF|exact cZ|exact cQ|exact cP|exact cE|exact cY|exact cX|exact cW|exact cO|exact cN|exact cM|exact bV|exact cV|exact bU|exact dI|exact cU|exact cT|exact dH|exact dG|exact dL|exact dF|exact dK|exact dV|exact dU|exact eG|exact eW|exact eF|exact eE|exact eV|exact eD|exact eU|exact bR|exact dT|exact dS|exact dR|exact eC|exact dJ|exact bX|exact cD|exact eR|exact eB|exact dQ|exact cC|exact dP|exact eZ|exact dO|exact fL|exact eQ|exact aZ|exact eO|exact cB|exact eA|exact eN|exact fK|exact cS|exact fI|exact gD|exact fU|exact iD|exact iU|exact dN|exact gC|exact iT|exact gW|exact gV|exact gU|exact iC|exact iB|exact gA|exact bQ|exact fT|exact fZ|exact dZ|exact dY|exact kC|exact kB|exact kZ|exact jI|exact fH|exact bP|exact kF|exact kY|exact gK|exact eI|exact dM|exact fW|exact kX|exact cG) (by first|exact gZ|exact gJ|exact gY|exact iR|exact kK|exact iQ|exact iP|exact iO|exact bF|exact jF|exact iN|exact dE|exact aG|exact lF|exact iM) rfl (fQ jY (hc.ext xx) (aW.2 ?_));exact hR _ _ ⟨_,rfl,decide_eq_true_iff.trans hs.symm,xx⟩
 ·have hs:fD i m ⟨op,a,b⟩:=by unfold fD;dsimp only;rw [if_neg c1,if_neg c2,if_neg c3,if_neg c4,if_neg c5];trivial
  simp only [not_or] at c1 c2 c5;simp only [c1.1,c1.2,c2.1,c2.2,c3,c4,c5.1,c5.2,aR];exact hR _ _ (cR.yes hs xx)
theorem aBi {pc:Nat} (hp:pc<=1000) (hk:∀ v w',w'.ownsRow w.heap.size 3 1 v (fO x pc).length ((fO x pc).map i64)->aE w w'->K v w'):aC prog 95 #[.agg #[i64 x.op,i64 x.a,i64 x.b],i64 pc] w K:=by
 obtain ⟨op,a,b⟩:=x;apply bEy;unfold YI;refine bx λb1 w1 hb x1=>?_;refine bC hb bH aG rfl (aH.2 (aB (λc1=>?_) λc1=>aH.2 (aB (λc2=>?_) λc2=>aH.2 (aB (λc3=>?_) λc3=>?_))))
 ·refine bC hb bD aG rfl ?_;refine jX bB [i64 a] rfl rfl (by simp) rfl λv w2 ho x2=>hk _ _ ?_ (x1.trans x2);have e:fO ⟨op,a,b⟩ pc=[a]:=by unfold fO;dsimp only;rw [if_pos c1]
  rw [e];exact aU ho x1.size
 ·refine bA.2 ?_;rw [aM (by omega)];refine bC hb bD aG rfl ?_;refine jX bB [i64 ((pc:Int)+1),i64 a] rfl rfl (by simp) rfl λv w2 ho x2=>hk _ _ ?_ (x1.trans x2);have e:fO ⟨op,a,b⟩ pc=[(pc:Int)+1,a]:=by unfold fO;dsimp only;rw [if_neg c1,if_pos c2]
  rw [e];exact aU ho x1.size
 ·have e:fO ⟨op,a,b⟩ pc=[]:=by unfold fO;dsimp only;rw [if_neg c1,if_neg c2,if_pos c3]
  refine hk _ _ ?_ x1;rw [e];exact World.ownsRow_nil _ _ _ _
 ·refine bA.2 ?_;rw [aM (by omega)];refine jX bB [i64 ((pc:Int)+1)] rfl rfl (by simp) rfl λv w2 ho x2=>hk _ _ ?_ (x1.trans x2);have e:fO ⟨op,a,b⟩ pc=[(pc:Int)+1]:=by unfold fO;dsimp only;rw [if_neg c1,if_neg c2,if_neg c3]
  rw [e];exact aU ho x1.size
def iW (op:Int):List UInt8:=
 if kH op then [105,105] else if op=15\/op=16 then [105] else if op=17\/op=18 then [112,112] else if op=24\/op=27 then [112] else if op=26\/op=28 then [97]
 else if op=29 then [97,112] else if op=30 then [97,112,105] else if op=31\/op=32 then [97,112,97,112,112] else if op=36 then [97,112,112] else []
theorem GO (ho:1<=op/\op<=39) (hk:K (.string ⟨(iW op).toArray⟩) w):aC prog 147 #[i64 op] w K:=by
 apply aXm;unfold QH;rcases BB ho with rfl|rfl|rfl|rfl|rfl|rfl|rfl|rfl|rfl|rfl|rfl|rfl|rfl|rfl|rfl|rfl|rfl|rfl|rfl|rfl|rfl|rfl|rfl|rfl|rfl|rfl|rfl|rfl|rfl|rfl|rfl|rfl|rfl|rfl|rfl|rfl|rfl|rfl|rfl<;>(simp only [aR,Int.reduceEq];exact hk)
theorem aDn {b:Int} (ho:1<=op/\op<=39) (h:op≠3/\op≠4/\op≠5/\op≠34/\op≠22/\op≠37/\op≠38/\op≠39):(aT i m ⟨op,a,b⟩).length=(iW op).length:=by
 obtain ⟨h1,h2,h3,h4,h5,h6,h7,h8⟩:=h;rcases BB ho with rfl|rfl|rfl|rfl|rfl|rfl|rfl|rfl|rfl|rfl|rfl|rfl|rfl|rfl|rfl|rfl|rfl|rfl|rfl|rfl|rfl|rfl|rfl|rfl|rfl|rfl|rfl|rfl|rfl|rfl|rfl|rfl|rfl|rfl|rfl|rfl|rfl|rfl|rfl<;>first|rfl|contradiction
theorem uH {t ty:TypeId} (ht:P.underlying t=some .string) {s:ByteArray}:(Builtin.len_ #[t] ty #[.string s]).run P w=.ok (i64 s.size) w:=by
 simp [Builtin.len_,run_underlying ht,goInt]
theorem aOz {row:List Y} (h:kP w p i) (hm:lH w row m) (hx:BE i m x) (hk:∀ w',aE w w'->K (i64 (aT i m x).length) w') :
  aC prog 126 #[p.val i,.agg row.toArray,.agg #[i64 x.op,i64 x.a,i64 x.b]] w K:=by
 obtain ⟨op,a,b⟩:=x;obtain ⟨_,_,⟨ho,a1,a2,_⟩,hn⟩:=hx;obtain ⟨pv,lv,cv,rfl,hp,hl,hc⟩:=hm;apply aYg;unfold RD jO.val;refine bx λb1 w1 hb1 x1=>?_;refine bx λb2 w2 hb2 x2=>?_;refine bx λb3 w3 hb3 x3=>?_;have hb1:=(hb1.ext x2).ext x3;have hb2:aY w3 b2 [pv,i64 m.result,lv,cv]:=hb2.ext x3;have xx:=(x1.trans x2).trans x3;have h':=h.ext xx;refine bC hb3 bH aG rfl ?_;by_cases c1:op=3\/op=4\/op=5\/op=34
 ·rcases c1 with rfl|rfl|rfl|rfl<;>(simp only [aR,Int.reduceEq];exact hk _ xx)
 by_cases c2:op=22
 ·subst c2;simp only [aR,Int.reduceEq];exact hk _ xx
 by_cases c3:op=37
 ·subst c3;simp only [aR,Int.reduceEq];have ha:a < (i.methods.length:Int):=hn;have a1:0<=a:=a1;refine bC hb1 bP dE rfl ?_;refine bC hb3 bD aG rfl ?_;obtain ⟨k,rfl⟩:∃ k:Nat,a=k:=⟨a.toNat,by omega⟩;refine oT gO dM bF h'.mt (fY a1 ha) λrow hrow=>?_;obtain ⟨pv,lv,cv,rfl,hp,_,_⟩:=hrow;exact ⟨pv,rfl,by decide,fQ aQ hp (hk _ xx)⟩
 by_cases c4:op=38
 ·subst c4;simp only [aR,Int.reduceEq];have ha:a < (i.imports.length:Int):=hn;have a1:0<=a:=a1;refine bC hb1 fH iN rfl ?_;refine bC hb3 bD aG rfl ?_;obtain ⟨k,rfl⟩:∃ k:Nat,a=k:=⟨a.toNat,by omega⟩;refine oT nQ bX bF h'.im (tE a1 ha) λrow hrow=>?_;obtain ⟨pv,rfl,hp⟩:=hrow;exact ⟨pv,rfl,by decide,fQ aQ hp (hk _ xx)⟩
 by_cases c5:op=39
 ·subst c5;simp only [aR,Int.reduceEq];refine bC hb2 fW aG rfl (cH.2 ?_);have e:aT i m ⟨39,a,b⟩=mL m.result:=rfl;rw [e] at hk;by_cases hr:m.result=0
  ·simp only [hr,aR];simp only [mL,hr,reduceIte] at hk;exact hk _ xx
  ·simp only [hr,aR];simp only [mL,hr,reduceIte] at hk;exact hk _ xx
 ·simp only [not_or] at c1;obtain ⟨c11,c12,c13,c14⟩:=c1;simp only [c11,c12,c13,c14,c2,c3,c4,c5,aR];refine bC hb3 bH aG rfl (GO ho ?_);have e:=aDn (i:=i) (m:=m) (a:=a) (b:=b) ho ⟨c11,c12,c13,c14,c2,c3,c4,c5⟩;rw [e] at hk;exact V.ok (uH underlying9) (hk _ xx)
theorem LI {r:Int} (h:0<=r/\r<=4):∀ c,(c=1\/c=r)->c<=1->c<=r->c=((mL r).length:Int):=by
 intro c h1 h2 h3;unfold mL;split<;>simp<;>omega
theorem aRf (h:kP w p i) (hx:BE i m x) (hk:∀ w',aE w w'->K (i64 (hgt i m x)) w') :
  aC prog 127 #[p.val i,.agg #[i64 x.op,i64 x.a,i64 x.b]] w K:=by
 obtain ⟨op,a,b⟩:=x;obtain ⟨ir,_,⟨ho,a1,a2,_⟩,hn⟩:=hx;apply aYf;unfold RB jO.val;refine bx λb1 w1 hb1 x1=>?_;refine bx λb3 w3 hb3 x3=>?_;have hb1:=hb1.ext x3;have xx:=x1.trans x3;have h':=h.ext xx;refine bC hb3 bH aG rfl ?_;by_cases c3:op=37
 ·subst c3;simp only [aR,Int.reduceEq];have ha:a < (i.methods.length:Int):=hn;have a1:0<=a:=a1;refine bC hb1 bP dE rfl ?_;refine bC hb3 bD aG rfl ?_;have hr:=(ir.2.2.1.2.1 _ (iK.meth_mem a1 ha)).2.1;have e:hgt i m ⟨37,a,b⟩=(mL (i.meth a).result).length:=rfl;rw [e] at hk;obtain ⟨k,rfl⟩:∃ k:Nat,a=k:=⟨a.toNat,by omega⟩;refine oT gO fW aG h'.mt (fY a1 ha) λrow hrow=>?_;obtain ⟨pv,lv,cv,rfl,hp,_,_⟩:=hrow;refine ⟨i64 (i.meth (k:Int)).result,rfl,by decide,mn2 λc h1 h2 h3=>?_⟩;rw [LI hr c h1 h2 h3];exact hk _ xx
 by_cases c4:op=38
 ·subst c4;simp only [aR,Int.reduceEq];have ha:a < (i.imports.length:Int):=hn;have a1:0<=a:=a1;refine bC hb1 fH iN rfl ?_;refine bC hb3 bD aG rfl ?_;have hr:=(ir.2.1.2 _ (iK.imp_mem a1 ha)).2.2;have e:hgt i m ⟨38,a,b⟩=(mL (i.imp a).result).length:=rfl;rw [e] at hk;obtain ⟨k,rfl⟩:∃ k:Nat,a=k:=⟨a.toNat,by omega⟩;refine oT nQ cD aG h'.im (tE a1 ha) λrow hrow=>?_;obtain ⟨pv,rfl,hp⟩:=hrow;refine ⟨i64 (i.imp (k:Int)).result,rfl,by decide,mn2 λc h1 h2 h3=>?_⟩;rw [LI hr c h1 h2 h3];exact hk _ xx
 ·rcases BB ho with rfl|rfl|rfl|rfl|rfl|rfl|rfl|rfl|rfl|rfl|rfl|rfl|rfl|rfl|rfl|rfl|rfl|rfl|rfl|rfl|rfl|rfl|rfl|rfl|rfl|rfl|rfl|rfl|rfl|rfl|rfl|rfl|rfl|rfl|rfl|rfl|rfl|rfl|rfl<;>first|contradiction|(simp only [aR,Int.reduceEq];exact hk _ xx)
theorem aHw {row:List Y} {tv:Y} {l:List Int} (h:kP w p i) (hm:lH w row m) (hx:BE i m x) (ht:aN w tv l) (hln:l.length=(aT i m x).length) (hk:∀ v w',aN w' v (iX i m x l)->aE w w'->K v w') :
  aC prog 153 #[p.val i,.agg row.toArray,.agg #[i64 x.op,i64 x.a,i64 x.b],tv] w K:=by
 obtain ⟨op,a,b⟩:=x;obtain ⟨ir,mr,⟨ho,a1,a2,_⟩,hn⟩:=hx;have hm0:=hm;obtain ⟨pv,lv,cv,rfl,hp,hl,hc⟩:=hm;apply aXg;unfold QB jO.val;refine bx λb1 w1 hb1 x1=>?_;refine bx λb2 w2 hb2 x2=>?_;refine bx λb3 w3 hb3 x3=>?_;have hb1:=(hb1.ext x2).ext x3;have hb2:aY w3 b2 [pv,i64 m.result,lv,cv]:=hb2.ext x3;have xx:=(x1.trans x2).trans x3;have h':=h.ext xx;refine bC hb3 bH aG rfl ?_;rcases BB ho with rfl|rfl|rfl|rfl|rfl|rfl|rfl|rfl|rfl|rfl|rfl|rfl|rfl|rfl|rfl|rfl|rfl|rfl|rfl|rfl|rfl|rfl|rfl|rfl|rfl|rfl|rfl|rfl|rfl|rfl|rfl|rfl|rfl|rfl|rfl|rfl|rfl|rfl|rfl<;>simp only [aR,Int.reduceEq]
 ·refine jX bB [i64 (1)] rfl rfl (by simp) rfl λv w4 ho x4=>hk _ _ (aA.of_own ho) (xx.trans x4)
 ·have ha:a < (m.locs.length:Int):=hn;have a1:0<=a:=a1;refine iF hb2 oK rfl ?_;refine bC hb3 bD aG rfl ?_;refine JL (hm0.ext xx) mr a1 λw4 x4=>hU.2 (hO.2 ?_);refine jX bB [i64 (m.locs.getD a.toNat 0)] rfl rfl (by simp) rfl λv w5 ho x5=>hk _ _ (aA.of_own ho) ((xx.trans x4).trans x5)
 iterate 2
  ·exact hk _ _ (aA.nil _ _) xx
 ·have hl1:l.length=1:=hln;have D1:aE w3 w3.drew:=(aE.refl _).drew;refine aK.mk' (λw'=>aE w3 w') D1 ?_;refine oE aQ aG (ht.ext xx) (λ_ h=>h) (by omega) (by omega) (cK (j:=0) (fG (by omega))) ?_;refine oE aQ aG (ht.ext xx) (λ_ h=>h) (by omega) (by omega) (cK (j:=0) (fG (by omega))) ?_;refine jX bB [i64 (cI l 0),i64 (cI l 0)] rfl rfl (by simp) rfl λv w4 ho x4=>⟨D1.trans x4,hk _ _ (aA.of_own ho) ((xx.trans D1).trans x4)⟩
 iterate 9
  ·have hl1:l.length=2:=hln;have D1:aE w3 w3.drew:=(aE.refl _).drew;refine aK.mk' (λw'=>aE w3 w') D1 ?_;refine oE aQ aG (ht.ext xx) (λ_ h=>h) (by omega) (by omega) (cK (j:=0) (fG (by omega))) ?_;refine oE aQ aG (ht.ext xx) (λ_ h=>h) (by omega) (by omega) (cK (j:=1) (fG (by omega))) ?_;refine BX ⟨D1,?_⟩;refine jX bB [i64 (rF (cI l 0) (cI l 1))] rfl rfl (by simp) rfl λv w4 ho x4=>⟨D1.trans x4,hk _ _ (aA.of_own ho) ((xx.trans D1).trans x4)⟩
 iterate 2
  ·have hl1:l.length=1:=hln;refine lV aQ aG (ht.ext xx) (by omega) (by omega) (cK (j:=0) (fG (by omega))) ?_;refine jX bB [i64 (cI l 0)] rfl rfl (by simp) rfl λv w4 ho x4=>hk _ _ (aA.of_own ho) (xx.trans x4)
 iterate 2
  ·refine jX bB [i64 (1)] rfl rfl (by simp) rfl λv w4 ho x4=>hk _ _ (aA.of_own ho) (xx.trans x4)
 iterate 3
  ·have hl1:l.length=2:=hln;have D1:aE w3 w3.drew:=(aE.refl _).drew;refine aK.mk' (λw'=>aE w3 w') D1 ?_;refine oE aQ aG (ht.ext xx) (λ_ h=>h) (by omega) (by omega) (cK (j:=0) (fG (by omega))) ?_;refine oE aQ aG (ht.ext xx) (λ_ h=>h) (by omega) (by omega) (cK (j:=1) (fG (by omega))) ?_;refine BX ⟨D1,?_⟩;refine jX bB [i64 (rF (cI l 0) (cI l 1))] rfl rfl (by simp) rfl λv w4 ho x4=>⟨D1.trans x4,hk _ _ (aA.of_own ho) ((xx.trans D1).trans x4)⟩
 ·have hl1:l.length=3:=hln;have e:∀ v w',aN w' v [AH l]->aE w w'->K v w':=hk;unfold AH at e;refine lV aQ aG (ht.ext xx) (by omega) (by omega) (cK (j:=1) (fG (by omega))) ?_;refine tD ?_;change aI (.bool (fR (cI l 1))) _ _;cases hz:fR (cI l 1)
  ·rw [hz] at e;refine aP.2 ?_;have D1:aE w3 w3.drew:=(aE.refl _).drew;refine aK.mk' (λw'=>aE w3 w') D1 ?_;refine oE aQ aG (ht.ext xx) (λ_ h=>h) (by omega) (by omega) (cK (j:=0) (fG (by omega))) ?_;refine oE aQ aG (ht.ext xx) (λ_ h=>h) (by omega) (by omega) (cK (j:=1) (fG (by omega))) ?_;refine oE aQ aG (ht.ext xx) (λ_ h=>h) (by omega) (by omega) (cK (j:=2) (fG (by omega))) ?_;refine BX ⟨D1,BX ⟨D1,?_⟩⟩;refine jX bB [i64 (rF (cI l 0) (rF (cI l 1) (cI l 2)))] rfl rfl (by simp) rfl λv w4 ho x4=>⟨D1.trans x4,e _ _ (aA.of_own ho) ((xx.trans D1).trans x4)⟩
  ·rw [hz] at e;refine bJ.2 ?_;refine lV aQ aG (ht.ext xx) (by omega) (by omega) (cK (j:=1) (fG (by omega))) ?_;refine jX bB [i64 (cI l 1)] rfl rfl (by simp) rfl λv w4 ho x4=>e _ _ (aA.of_own ho) (xx.trans x4)
 iterate 2
  ·exact hk _ _ (aA.nil _ _) xx
 ·refine bC hb3 bD aG rfl ?_;refine jX bB [i64 (a)] rfl rfl (by simp) rfl λv w4 ho x4=>hk _ _ (aA.of_own ho) (xx.trans x4)
 ·refine jX bB [i64 (1)] rfl rfl (by simp) rfl λv w4 ho x4=>hk _ _ (aA.of_own ho) (xx.trans x4)
 ·refine bC hb3 bD aG rfl ?_;refine jX bB [i64 (a)] rfl rfl (by simp) rfl λv w4 ho x4=>hk _ _ (aA.of_own ho) (xx.trans x4)
 ·refine jX bB [i64 (1)] rfl rfl (by simp) rfl λv w4 ho x4=>hk _ _ (aA.of_own ho) (xx.trans x4)
 ·have hl1:l.length=2:=hln;refine lV aQ aG (ht.ext xx) (by omega) (by omega) (cK (j:=0) (fG (by omega))) ?_;refine bJb ?_;refine jX bB [i64 (ofK (cI l 0))] rfl rfl (by simp) rfl λv w4 ho x4=>hk _ _ (aA.of_own ho) (xx.trans x4)
 iterate 2
  ·exact hk _ _ (aA.nil _ _) xx
 ·have hl1:l.length=5:=hln;have e:∀ v w',aN w' v (if cI l 0=4\/cI l 2=4 then [2] else [1])->aE w w'->K v w':=hk;refine lV aQ aG (ht.ext xx) (by omega) (by omega) (cK (j:=0) (fG (by omega))) ?_;change V _ (do eqGuard .eql _ _ _ (i64 (cI l 0)) _;binOp .eql _ (i64 (cI l 0)) _) _ _;refine aH.2 ?_;by_cases z0:cI l 0=4
  ·simp only [z0,true_or,aR] at e ⊢;refine jX bB [i64 (2)] rfl rfl (by simp) rfl λv w4 ho x4=>e _ _ (aA.of_own ho) (xx.trans x4)
  ·simp only [z0,aR];refine lV aQ aG (ht.ext xx) (by omega) (by omega) (cK (j:=2) (fG (by omega))) ?_;change V _ (do eqGuard .eql _ _ _ (i64 (cI l 2)) _;binOp .eql _ (i64 (cI l 2)) _) _ _;refine aH.2 ?_;by_cases z2:cI l 2=4
   ·simp only [z2,or_true,aR] at e ⊢;refine jX bB [i64 (2)] rfl rfl (by simp) rfl λv w4 ho x4=>e _ _ (aA.of_own ho) (xx.trans x4)
   ·simp only [z0,z2,or_self,aR] at e ⊢;refine jX bB [i64 (1)] rfl rfl (by simp) rfl λv w4 ho x4=>e _ _ (aA.of_own ho) (xx.trans x4)
 ·have ha:a < (i.fields.length:Int):=hn;have a1:0<=a:=a1;refine bC hb1 jI bF rfl ?_;refine bC hb3 bD aG rfl ?_;obtain ⟨k,rfl⟩:∃ k:Nat,a=k:=⟨a.toNat,by omega⟩;refine lV aQ aG h'.fl (by omega) (by omega) (cK (fG (by omega))) ?_;refine jX bB [i64 (i.fields.getD k 0)] rfl rfl (by simp) rfl λv w4 ho x4=>hk _ _ (aA.of_own ho) (xx.trans x4)
 ·exact hk _ _ (aA.nil _ _) xx
 ·have a1:1<=a:=a1;have a2:a<=2:=a2;refine bC hb3 bD aG rfl (bA.2 ?_);rw [lI (by dsimp only;omega) (by dsimp only;omega)];refine eY.2 ?_;rw [lI (by dsimp only;omega) (by dsimp only;omega)];refine jX bB [i64 (3+a - 1)] rfl rfl (by simp) rfl λv w4 ho x4=>hk _ _ (aA.of_own ho) (xx.trans x4)
 ·exact hk _ _ (aA.nil _ _) xx
 ·have ha:a < (i.methods.length:Int):=hn;have a1:0<=a:=a1;refine bC hb1 bP dE rfl ?_;refine bC hb3 bD aG rfl ?_;have e:∀ v w',aN w' v (mL (i.meth a).result)->aE w w'->K v w':=hk;obtain ⟨k,rfl⟩:∃ k:Nat,a=k:=⟨a.toNat,by omega⟩;refine oT gO fW aG h'.mt (fY a1 ha) λrow hrow=>?_;obtain ⟨pv2,lv2,cv2,rfl,_,_,_⟩:=hrow;refine ⟨i64 (i.meth (k:Int)).result,rfl,by decide,cH.2 ?_⟩;by_cases hr:(i.meth (k:Int)).result=0
  ·simp only [hr,aR];refine e _ _ ?_ xx;rw [mL,if_pos hr];exact aA.nil _ _
  ·simp only [hr,aR];refine jX bB [i64 (i.meth (k:Int)).result] rfl rfl (by simp) rfl λv w4 ho x4=>e _ _ ?_ (xx.trans x4);rw [mL,if_neg hr];exact aA.of_own ho
 ·have ha:a < (i.imports.length:Int):=hn;have a1:0<=a:=a1;refine bC hb1 fH iN rfl ?_;refine bC hb3 bD aG rfl ?_;have e:∀ v w',aN w' v (mL (i.imp a).result)->aE w w'->K v w':=hk;obtain ⟨k,rfl⟩:∃ k:Nat,a=k:=⟨a.toNat,by omega⟩;refine oT nQ cD aG h'.im (tE a1 ha) λrow hrow=>?_;obtain ⟨pv2,rfl,_⟩:=hrow;refine ⟨i64 (i.imp (k:Int)).result,rfl,by decide,cH.2 ?_⟩;by_cases hr:(i.imp (k:Int)).result=0
  ·simp only [hr,aR];refine e _ _ ?_ xx;rw [mL,if_pos hr];exact aA.nil _ _
  ·simp only [hr,aR];refine jX bB [i64 (i.imp (k:Int)).result] rfl rfl (by simp) rfl λv w4 ho x4=>e _ _ ?_ (xx.trans x4);rw [mL,if_neg hr];exact aA.of_own ho
 ·exact hk _ _ (aA.nil _ _) xx
end Go.Proofs.YtjcmcfidblhnnaaGreatDoor
namespace Go.Tc
def pF:List UInt8->List Int->Bool
 | c::p,k::l=>(if c=97 then !fR k else !dX k)||pF p l
 | _,_=>false
def qJ:List UInt8->List Int->Bool
 | c::p,k::l=>(c == 112&&(k == 2||k == 4))||qJ p l
 | _,_=>false
def GD (c:UInt8):Int:=if c=97 then -4 else if c=112 then -3 else -2
theorem bIx:∀ {p:List UInt8} {l:List Int},(∀ c∈p,c=97\/c=112\/c=105)->sA l->((pF p l||qJ p l)=false↔jS (p.map GD) l=true/\gI (p.map GD) l=false)
 | [],_,_,_=>by simp [pF,qJ,jS,gI]
 | _::_,[],_,_=>by simp [pF,qJ,jS,gI]
 | c::p,k::l,hp,hl=>by
  have ih:=bIx (p:=p) (l:=l) (λc hc=>hp c (by simp [hc])) λk hk=>hl k (by simp [hk]);have hk:Kd k:=hl k (by simp);have ek:k=1\/k=2\/k=3\/k=4:=by obtain ⟨h1,h2⟩:=hk;omega
  simp only [pF,qJ,jS,gI,List.map_cons];generalize pF p l=A at ih ⊢;generalize qJ p l=B at ih ⊢;generalize jS (p.map GD) l=C at ih ⊢;generalize gI (p.map GD) l=D at ih ⊢
  rcases hp c (by simp) with rfl|rfl|rfl<;>rcases ek with rfl|rfl|rfl|rfl <;>
   (simp [GD,tQ,vW,dX,fR];try (revert ih;cases A<;>cases B<;>cases C<;>cases D<;>simp))
def AQ (a b:Int):Int:=if dX a≠dX b\/(fR a=true/\a≠b) then 11 else if (a == b||(a == 1&&b == 2)) then 0 else 12
def TU:List Int->List Int->Bool
 | a::t,k::l=>(AQ k a == 11)||TU t l
 | _,_=>false
def TT:List Int->List Int->Bool
 | a::t,k::l=>(AQ k a == 12)||TT t l
 | _,_=>false
theorem aHl {k a:Int} (hk:Kd k) (ha:Kd a):((AQ k a == 11)||(AQ k a == 12))=false↔tQ k a=true/\vW k a=false:=by
 have ek:k=1\/k=2\/k=3\/k=4:=by obtain ⟨h1,h2⟩:=hk;omega
 have ea:a=1\/a=2\/a=3\/a=4:=by obtain ⟨h1,h2⟩:=ha;omega
 rcases ek with rfl|rfl|rfl|rfl<;>rcases ea with rfl|rfl|rfl|rfl<;>decide
theorem inA:∀ {t l:List Int},sA t->sA l->((TU t l||TT t l)=false↔jS t l=true/\gI t l=false)
 | [],_,_,_=>by simp [TU,TT,jS,gI]
 | _::_,[],_,_=>by simp [TU,TT,jS,gI]
 | a::t,k::l,ht,hl=>by
  have ih:=inA (t:=t) (l:=l) (λc hc=>ht c (by simp [hc])) λk hk=>hl k (by simp [hk]);have h1:=aHl (hl k (by simp)) (ht a (by simp));simp only [TU,TT,jS,gI];generalize TU t l=A at ih ⊢;generalize TT t l=B at ih ⊢;generalize jS t l=C at ih ⊢;generalize gI t l=D at ih ⊢;generalize (AQ k a == 11)=E at h1 ⊢;generalize (AQ k a == 12)=F at h1 ⊢;generalize tQ k a=G at h1 ⊢;generalize vW k a=H at h1 ⊢;revert ih h1;cases A<;>cases B<;>cases C<;>cases D<;>cases E<;>cases F<;>cases G<;>cases H<;>simp
theorem EG:∀ {t l:List Int} {j:Nat} {a k:Int},t[j]?=some a->l[j]?=some k->TU (t.take (j+1)) (l.take (j+1))=(TU (t.take j) (l.take j)||AQ k a == 11)
 | [],_,_,_,_,h,_=>by simp at h
 | _::_,[],_,_,_,_,h=>by simp at h
 | a::t,k::l,0,_,_,h1,h2=>by simp at h1 h2;subst h1 h2;simp [TU]
 | a::t,k::l,j+1,_,_,h1,h2=>by
  have:=EG (t:=t) (l:=l) (j:=j) (by simpa using h1) (by simpa using h2);simp only [List.take_succ_cons,TU] at this ⊢;rw [this,Bool.or_assoc]
theorem EF:∀ {t l:List Int} {j:Nat} {a k:Int},t[j]?=some a->l[j]?=some k->TT (t.take (j+1)) (l.take (j+1))=(TT (t.take j) (l.take j)||AQ k a == 12)
 | [],_,_,_,_,h,_=>by simp at h
 | _::_,[],_,_,_,_,h=>by simp at h
 | a::t,k::l,0,_,_,h1,h2=>by simp at h1 h2;subst h1 h2;simp [TT]
 | a::t,k::l,j+1,_,_,h1,h2=>by
  have:=EF (t:=t) (l:=l) (j:=j) (by simpa using h1) (by simpa using h2);simp only [List.take_succ_cons,TT] at this ⊢;rw [this,Bool.or_assoc]
theorem GQ:∀ {p:List UInt8} {l:List Int} {j:Nat} {c:UInt8} {k:Int},p[j]?=some c->l[j]?=some k->pF (p.take (j+1)) (l.take (j+1))=(pF (p.take j) (l.take j)||(if c=97 then !fR k else !dX k))
 | [],_,_,_,_,h,_=>by simp at h
 | _::_,[],_,_,_,_,h=>by simp at h
 | a::t,k::l,0,_,_,h1,h2=>by simp at h1 h2;subst h1 h2;simp [pF]
 | a::t,k::l,j+1,_,_,h1,h2=>by
  have:=GQ (p:=t) (l:=l) (j:=j) (by simpa using h1) (by simpa using h2);simp only [List.take_succ_cons,pF] at this ⊢;rw [this,Bool.or_assoc]
theorem GP:∀ {p:List UInt8} {l:List Int} {j:Nat} {c:UInt8} {k:Int},p[j]?=some c->l[j]?=some k->qJ (p.take (j+1)) (l.take (j+1))=(qJ (p.take j) (l.take j)||(c == 112&&(k == 2||k == 4)))
 | [],_,_,_,_,h,_=>by simp at h
 | _::_,[],_,_,_,_,h=>by simp at h
 | a::t,k::l,0,_,_,h1,h2=>by simp at h1 h2;subst h1 h2;simp [qJ]
 | a::t,k::l,j+1,_,_,h1,h2=>by
  have:=GP (p:=t) (l:=l) (j:=j) (by simpa using h1) (by simpa using h2);simp only [List.take_succ_cons,qJ] at this ⊢;rw [this,Bool.or_assoc]
end Go.Tc
namespace Go.Proofs.YtjcmcfidblhnnaaGreatDoor
open Tryz
open Go.Vc Go.Tc
variable {w:O} {K:Y->O->Prop}
abbrev Wr (w:O) (g:Nat) (kf lf:Bool):Prop:=bO w g [.bool kf,.bool lf] 248
theorem yL {g:Nat} {kf lf:Bool} {e:Int} (hb:Wr w g kf lf) (hk:∀ w',Wr w' g (kf||e == 11) (lf||e == 12)->(∀ a,aE a w->a.heap.size<=g->aE a w')->K (.tuple #[]) w') :
  aC prog 151 #[.pointer (some ⟨g,0,none⟩),i64 e] w K:=by
 apply aXi;unfold QD;refine ⟨.inl ⟨_,rfl⟩,?_⟩;refine bC hb.boxed dZ oM rfl ?_
 cases kf<;>cases lf <;>
  (simp only [aR]
   refine ⟨.inl ⟨_,rfl⟩,?_⟩;refine FS (by first|exact dB|exact dA|exact cF|exact cZ|exact cQ|exact cP|exact cE|exact cY|exact cX|exact cW|exact cO|exact cN|exact cM|exact bV|exact cV|exact bU|exact dI|exact cU|exact cT|exact dH|exact dG|exact dL|exact dF|exact dK|exact dV|exact dU|exact eG|exact eW|exact eF|exact eE|exact eV|exact eD|exact eU|exact bR|exact dT|exact dS|exact dR|exact eC|exact dJ|exact bX|exact cD|exact eR|exact eB|exact dQ|exact cC|exact dP|exact eZ|exact dO|exact fL|exact eQ|exact aZ|exact eO|exact cB|exact eA|exact eN|exact fK|exact cS|exact fI|exact gD|exact fU|exact iD|exact iU|exact dN|exact gC|exact iT|exact gW|exact gV|exact gU|exact iC|exact iB|exact gA|exact bQ|exact fT|exact fZ|exact dZ) kS hb (n:=2) rfl (by decide) rfl ⟨.inl ⟨_,rfl⟩,?_⟩;have hb1:=hb.set 0;refine bC (hb1 _).boxed (by first|exact dB|exact dA|exact cF|exact cZ|exact cQ|exact cP|exact cE|exact cY|exact cX|exact cW|exact cO|exact cN|exact cM|exact bV|exact cV|exact bU|exact dI|exact cU|exact cT|exact dH|exact dG|exact dL|exact dF|exact dK|exact dV|exact dU|exact eG|exact eW|exact eF|exact eE|exact eV|exact eD|exact eU|exact bR|exact dT|exact dS|exact dR|exact eC|exact dJ|exact bX|exact cD|exact eR|exact eB|exact dQ|exact cC|exact dP|exact eZ|exact dO|exact fL|exact eQ|exact aZ|exact eO|exact cB|exact eA|exact eN|exact fK|exact cS|exact fI|exact gD|exact fU|exact iD|exact iU|exact dN|exact gC|exact iT|exact gW|exact gV|exact gU|exact iC|exact iB|exact gA|exact bQ|exact fT|exact fZ|exact dZ|exact dY) (by first|exact gZ|exact gJ|exact gY|exact iR|exact kK|exact iQ|exact iP|exact iO|exact bF|exact jF|exact iN|exact dE|exact aG|exact lF|exact iM|exact oM) rfl ?_
   simp only [aR];refine ⟨.inl ⟨_,rfl⟩,?_⟩;refine FS (by first|exact dB|exact dA|exact cF|exact cZ|exact cQ|exact cP|exact cE|exact cY|exact cX|exact cW|exact cO|exact cN|exact cM|exact bV|exact cV|exact bU|exact dI|exact cU|exact cT|exact dH|exact dG|exact dL|exact dF|exact dK|exact dV|exact dU|exact eG|exact eW|exact eF|exact eE|exact eV|exact eD|exact eU|exact bR|exact dT|exact dS|exact dR|exact eC|exact dJ|exact bX|exact cD|exact eR|exact eB|exact dQ|exact cC|exact dP|exact eZ|exact dO|exact fL|exact eQ|exact aZ|exact eO|exact cB|exact eA|exact eN|exact fK|exact cS|exact fI|exact gD|exact fU|exact iD|exact iU|exact dN|exact gC|exact iT|exact gW|exact gV|exact gU|exact iC|exact iB|exact gA|exact bQ|exact fT|exact fZ|exact dZ|exact dY) kS (hb1 _) (n:=2) rfl (by decide) rfl ?_;exact hk _ ((hb1 _).set 1 _) λa ha hg=>(ha.setCell hg _).setCell hg _)
end Go.Proofs.YtjcmcfidblhnnaaGreatDoor
namespace Go.Tc
theorem wJ:∀ {a b acc:List Int} {j:Nat} {x y k:Int},a[j]?=some x->b[j]?=some y->lX (a.take j) (b.take j)=some acc->AO x y=some k->lX (a.take (j+1)) (b.take (j+1))=some (acc++[k])
 | [],_,_,_,_,_,_,h,_,_,_=>by simp at h
 | _::_,[],_,_,_,_,_,_,h,_,_=>by simp at h
 | a::l,b::m,acc,0,x,y,k,h1,h2,h3,h4=>by
  simp at h1 h2;subst h1 h2;simp [lX] at h3;subst h3;simp [lX,h4]
 | a::l,b::m,acc,j+1,x,y,k,h1,h2,h3,h4=>by
  simp only [List.take_succ_cons,lX,Option.bind_eq_some_iff,Option.map_eq_some_iff] at h3;obtain ⟨q,hq,r,hr,rfl⟩:=h3;have:=wJ (a:=l) (b:=m) (by simpa using h1) (by simpa using h2) hr h4;simp only [List.take_succ_cons,lX] at this ⊢;rw [hq,this];rfl
theorem DR:∀ {a b:List Int} {j:Nat} {x y:Int},a[j]?=some x->b[j]?=some y->AO x y=none->lX a b=none
 | [],_,_,_,_,h,_,_=>by simp at h
 | _::_,[],_,_,_,_,h,_=>by simp at h
 | a::l,b::m,0,x,y,h1,h2,h4=>by
  simp at h1 h2;subst h1 h2;simp [lX,h4]
 | a::l,b::m,j+1,x,y,h1,h2,h4=>by
  have:=DR (a:=l) (b:=m) (by simpa using h1) (by simpa using h2) h4;simp [lX,this]
theorem DS:∀ {a b:List Int},a.length≠b.length->lX a b=none
 | [],[],h=>absurd rfl h
 | [],_::_,_=>rfl
 | _::_,[],_=>rfl
 | a::l,b::m,h=>by
  have:=DS (a:=l) (b:=m) (by simpa using h);simp [lX,this]
end Go.Tc
namespace Go.Proofs.YtjcmcfidblhnnaaGreatDoor
open Tryz
open Go.Vc Go.Tc
variable {w:O} {K:Y->O->Prop}
theorem SG {av bv:Y} {a b:List Int} (ha:aN w av a) (hb:aN w bv b) (hk:∀ w',aE w w'->K (.bool (decide (a=b))) w'):aC prog 97 #[av,bv] w K:=by
 have ca:=uJ ha;apply bEw;unfold YG;refine fQ aQ ha (fQ aQ hb (cH.2 (aB (λhne=>?_) λheq=>?_)))
 ·have:¬ a=b:=λe=>hne (by rw [e]);rw [decide_eq_false this] at hk;exact hk _ (aE.refl _)
 have hl:a.length=b.length:=by omega
 refine ⟨λv w'=>∃ j:Nat,v=i64 j/\j<=a.length/\aE w w'/\a.take j=b.take j,λv _=>a.length - (RowKit.intOf v).toNat,⟨0,rfl,Nat.zero_le _,aE.refl _,rfl⟩,?_⟩;rintro _ w1 ⟨j,rfl,hj,x1,hjs⟩ _;refine fQ aQ (ha.ext x1) (aW.2 (aB (λhlt=>?_) λhge=>?_))
 ·obtain ⟨x,hx⟩:=bE (l:=a) (j:=j) (by omega);obtain ⟨y,hy⟩:=bE (l:=b) (j:=j) (by omega);have D1:aE w1 w1.drew:=(aE.refl _).drew;refine aK.mk' (λw'=>aE w1 w') D1 ?_;refine oE aQ aG (ha.ext x1) (λ_ h=>h) (by omega) (by omega) (cK hx) ?_;refine oE aQ aG (hb.ext x1) (λ_ h=>h) (by omega) (by omega) (cK hy) ?_;refine aD.ok (λw' _=>zJ) (aB (λhne=>?_) λheq=>?_)
  ·have:¬ a=b:=λe=>hne (by subst e;rw [hx] at hy;cases hy;rfl);rw [decide_eq_false this] at hk;exact hk _ (x1.trans D1)
  ·have:x=y:=by simpa using heq
   subst this;refine bA.2 ?_;rw [lI (by omega) (by unfold maxLen at ca;omega),bK];exact ⟨⟨j+1,rfl,by omega,x1.trans D1,by rw [List.take_add_one,List.take_add_one,hx,hy,hjs]⟩,by simp only [aL];omega⟩
 ·have hjl:j=a.length:=by omega
  subst hjl
  have:a=b:=by
   rw [List.take_length,hl,List.take_length] at hjs;exact hjs
  rw [decide_eq_true this] at hk;exact hk _ x1
theorem aDr {av bv:Y} {a b:List Int} (ha:aN w av a) (hb:aN w bv b) (ka:sA a) (kb:sA b) (hl8:a.length<=1000)
  (yes:∀ j v w',lX a b=some j->w'.ownsRow w.heap.size 3 1 v j.length (j.map i64)->aE w w'->K (.tuple #[v,.bool true]) w') (no:∀ w',lX a b=none->aE w w'->K (.tuple #[aX,.bool false]) w') :
  aC prog 96 #[av,bv] w K:=by
 apply bEx;unfold YH;refine fQ aQ ha (fQ aQ hb (cH.2 (aB (λhne=>?_) λheq=>?_)))
 ·exact no _ (DS λe=>hne (by rw [e])) (aE.refl _)
 have hl:a.length=b.length:=by omega
 refine ⟨λov v w'=>∃ (j:Nat) (acc:List Int),v=i64 j/\j<=a.length/\aE w w'/\lX (a.take j) (b.take j)=some acc/\acc.length=j/\w'.ownsRow w.heap.size 3 1 ov j (acc.map i64),λ_ v _=>a.length - (RowKit.intOf v).toNat,
  ⟨0,[],rfl,Nat.zero_le _,aE.refl _,rfl,rfl,World.ownsRow_nil _ _ _ _⟩,?_⟩
 rintro ov _ w1 ⟨j,acc,rfl,hj,x1,hacc,hal,ho⟩ _;refine fQ aQ (ha.ext x1) (aW.2 (aB (λhlt=>?_) λhge=>?_))
 ·obtain ⟨x,hx⟩:=bE (l:=a) (j:=j) (by omega);obtain ⟨y,hy⟩:=bE (l:=b) (j:=j) (by omega);have D1:aE w1 w1.drew:=(aE.refl _).drew;have xd:=x1.trans D1;refine aK.mk' (λw'=>aE w1 w') D1 ?_;refine oE aQ aG (ha.ext x1) (λ_ h=>h) (by omega) (by omega) (cK hx) ?_;refine oE aQ aG (hb.ext x1) (λ_ h=>h) (by omega) (by omega) (cK hy) ?_;refine aQp (ka x (List.mem_of_getElem? hx)) (kb y (List.mem_of_getElem? hy)) ⟨D1,?_⟩;unfold WJ;cases hk:AO x y with
  | none=>
   refine aD.ok (λw' _=>nE) (aD.ok (λw' _=>nD) (dC.2 (bJ.2 ?_)));exact no _ (DR hx hy hk) xd
  | some k=>
   refine aD.ok (λw' _=>nE) (aD.ok (λw' _=>nD) (dC.2 (aP.2 ?_)));refine jX bB [i64 k] rfl rfl (by simp) rfl λv2 w2 ho2 x2=>?_;have x12:=D1.trans x2;refine UQ bB (x12.own ho) (aA.of_own ho2) rfl (by omega) (by unfold maxLen;omega) (xd.trans x2).size λv3 w3 ho3 hg3=>?_;refine kQ (by omega) ?_;refine ⟨⟨j+1,acc++[k],rfl,by omega,(xd.trans x2).grown hg3 λq hq=>((x12.own ho).lt q hq).1,wJ hx hy hacc hk,by simp [hal],by simpa using ho3⟩,by simp only [aL];omega⟩
 ·have hjl:j=a.length:=by omega
  subst hjl;rw [List.take_length,hl,List.take_length] at hacc;refine yes acc ov _ hacc ?_ x1;have:=ho;rw [<- hal] at this;exact this
end Go.Proofs.YtjcmcfidblhnnaaGreatDoor
namespace Go.Vc
section
variable {P:Program} {w:O} {S:O->Prop} {L:Y->Prop}
theorem wA {t:TypeId} (ht:P.underlying t=some .string) {s:ByteArray} {j:Nat} {c:UInt8} (h:s[j]?=some c):(Instr.index t (.string s) (i64 j)).run P w=.ok (.int .u8 c.toNat) w:=by
 simp [Instr.index,asIntOf,run_underlying ht,h]
end
end Go.Vc
namespace Go.Tc
theorem aPr {i:iK} {m:jN} {op a b:Int} (ho:1<=op/\op<=39):(∀ c∈Go.Proofs.YtjcmcfidblhnnaaGreatDoor.iW op,c=97\/c=112\/c=105)/\(Go.Proofs.YtjcmcfidblhnnaaGreatDoor.iW op).length<=(aT i m ⟨op,a,b⟩).length/\(¬ (op=3\/op=34\/op=22\/op=37\/op=38\/op=39\/op=4\/op=5)->aT i m ⟨op,a,b⟩=(Go.Proofs.YtjcmcfidblhnnaaGreatDoor.iW op).map GD):=by
 have:op=1\/op=2\/op=3\/op=4\/op=5\/op=6\/op=7\/op=8\/op=9\/op=10\/op=11\/op=12\/op=13\/op=14\/op=15\/op=16\/op=17\/op=18\/op=19\/op=20\/op=21\/op=22\/op=23\/op=24\/op=25\/op=26\/op=27\/op=28\/op=29\/op=30\/op=31\/op=32\/op=33\/op=34\/op=35\/op=36\/op=37\/op=38\/op=39:=by omega
 rcases this with rfl|rfl|rfl|rfl|rfl|rfl|rfl|rfl|rfl|rfl|rfl|rfl|rfl|rfl|rfl|rfl|rfl|rfl|rfl|rfl|rfl|rfl|rfl|rfl|rfl|rfl|rfl|rfl|rfl|rfl|rfl|rfl|rfl|rfl|rfl|rfl|rfl|rfl|rfl<;>refine ⟨by decide,?_,?_⟩<;>first|exact Nat.zero_le _|exact Nat.le_refl _|exact λ_=>rfl|exact λh=>absurd (by omega) h
end Go.Tc
namespace Go.Proofs.YtjcmcfidblhnnaaGreatDoor
open Tryz
open Go.Vc Go.Tc
variable {w:O} {K:Y->O->Prop}
variable {A B S:Bool} {i:iK} {m:jN} {a k0 k1 k2:Int}
theorem ySF {S:O->Prop} {L:Y->Prop} {α:Type} {T:O->List Y->α->Prop} {sz:Nat} {t s f o ft:Nat} {v:Y} {l:List α} {i:Nat} {e:α} (h:XA prog t sz) (hf:FA prog s f o) (hl:L1 prog ft) (hs:cA T sz w v l) (hx:∀ w',S w'->aE w w') (hi:l[i]?=some e)
  (hk:∀ row,T w row e->∃ u,row[o]?=some u/\o < sz/\L u):aD prog S (Instr.indexAt t v (i64 i)) λp=>aD prog S (Instr.fieldAt s p f) λq=>aD prog S (Instr.loadAt ft q) L:=by
 obtain ⟨cs,h1,h2⟩:=hs;obtain ⟨row,h3,h4⟩:=h2 i e hi;have hlt:i < l.length:=(List.getElem?_eq_some_iff.1 hi).1;obtain ⟨u,hu,ho,hK⟩:=hk row h4;obtain ⟨e',z,b',hte,hinf⟩:=h;obtain ⟨d,hd,ha⟩:=hl;obtain ⟨b,off,cap,rfl,hcell⟩:=h1.there (by omega)
 have hu':cs[i*sz+o]?=some u:=by
  rw [<- h3,List.getElem?_take,if_pos ho,List.getElem?_drop] at hu;exact hu
 have hc:=hcell _ _ hu';rw [<- Nat.add_assoc] at hc;refine aD.ok (λw' _=>iL hte hinf (by omega) (by omega)) (aD.ok (λw' _=>hf.ex w' b _) (aD.ok (λw' hw=>jD hd ha ?_) hK));have:=(hx w' hw).cell hc;simpa using this
theorem NG (l:List Int):(l.map i64).all bY=true:=List.all_eq_true.2 λv hv=>by obtain ⟨x,_,rfl⟩:=List.mem_map.1 hv;rfl
theorem aPx {l:List Int} (h:l.length=1):l=[cI l 0]:=by
 match l,h with
 | [a],_=>rfl
theorem bBu {l:List Int} (h:l.length=3):l=[cI l 0,cI l 1,cI l 2]:=by
 match l,h with
 | [a,b,c],_=>rfl
theorem lL {l:List Int} {j:Nat} (h:j < l.length):l[j]?=some (cI l j):=fG h
def uT (i:iK) (m:jN) (x:kJ) (l:List Int):Prop:=mM x (aT i m x) l=true/\kE x (aT i m x) l=false
theorem EH {op b:Int} {l:List Int} (h:op≠22/\op≠30/\op≠31/\op≠36):uT i m ⟨op,a,b⟩ l↔jS (aT i m ⟨op,a,b⟩) l=true/\gI (aT i m ⟨op,a,b⟩) l=false:=by
 unfold uT mM kE;dsimp only;rw [if_neg h.1,if_neg h.1,if_neg h.2.1,if_neg h.2.2.1,if_neg h.2.2.2];simp
theorem TX {D z:Bool} (h:(A||B)=false↔D=true/\S=false):(A||(B||z))=false↔D=true/\(S||z)=false:=by
 revert h;cases A<;>cases B<;>cases D<;>cases S<;>cases z<;>simp
theorem bDe (h0:Kd k0) (h1:Kd k1) (h2:Kd k2):((!dX k0||(dX k1 != dX k2)||(fR k1&&(k1 != k2)))||(fR k1&&DU k0))=false ↔
  (jS [-2,-1,-1] [k0,k1,k2]&&(dX k1&&dX k2||fR k1&&k1 == k2))=true/\(fR k1&&k0 == 2)=false:=by
 rcases KR h0 with rfl|rfl|rfl|rfl<;>rcases KR h1 with rfl|rfl|rfl|rfl<;>rcases KR h2 with rfl|rfl|rfl|rfl<;>decide
theorem bDd (h0:Kd k0) (_:Kd k1) (h2:Kd k2) (h:(A||B)=false↔jS [-4,-3,-2] [k0,k1,k2]=true/\S=false) :
  (A||(B||(decide (k0=3)&&DU k2)))=false↔jS [-4,-3,-2] [k0,k1,k2]=true/\(S||(k0 == 3&&k2 == 2))=false:=by
 rw [TX h];rcases KR h0 with rfl|rfl|rfl|rfl<;>rcases KR h2 with rfl|rfl|rfl|rfl<;>cases S<;>simp [jS,tQ,fR,dX,DU]
theorem LY (h:i.right) (h0:0<=a) (ha:a < i.methods.length):sA (i.meth a).params:=(h.2.2.1.2.1 _ (iK.meth_mem h0 ha)).1.1
theorem WP (h:i.right) (h0:0<=a) (ha:a < i.imports.length):sA (i.imp a).params:=(h.2.1.2 _ (iK.imp_mem h0 ha)).2.1.1
theorem bDn {p:jO} {row:List Y} {x:kJ} {sv:Y} {s:List Int} (h:kP w p i) (hm:lH w row m) (hx:BE i m x) (hs:aN w sv s) (ks:sA s) (h8:s.length<=8)
  (yes:∀ out v w',BU i m x s=some out->w'.ownsRow w.heap.size 3 1 v out.length (out.map i64)->aE w w'->K (.tuple #[v,i64 0]) w') (no:∀ e w',BU i m x s=none->e≠0->aE w w'->K (.tuple #[aX,i64 e]) w') :
  aC prog 94 #[p.val i,.agg row.toArray,.agg #[i64 x.op,i64 x.a,i64 x.b],sv] w K:=by
 obtain ⟨op,a,b⟩:=x;have hx0:=hx;obtain ⟨ir,mr,⟨ho,a1,a2,_⟩,hn⟩:=hx;dsimp only at ho a1 a2;have hm0:=hm;obtain ⟨pv,lv,cv,rfl,hp,hl,hc⟩:=hm;apply bEz;unfold YJ jO.val;refine bx λb1 w1 hb1 x1=>?_;refine bx λb2 w2 hb2 x2=>?_;refine bx λb3 w3 hb3 x3=>?_;have hb1:=(hb1.ext x2).ext x3;have hb2:aY w3 b2 [pv,i64 m.result,lv,cv]:=hb2.ext x3;have xx:=(x1.trans x2).trans x3;refine iF hb1 lM rfl (iF hb2 oK rfl (iF hb3 iG rfl ?_));refine aOz (h.ext xx) (hm0.ext xx) hx0 λw4 x4=>?_;have xx4:=xx.trans x4;refine fQ aQ (hs.ext xx4) (aW.2 (aB (λhlt=>?_) λhge=>?_))
 ·refine no 10 _ ?_ (by decide) xx4;unfold BU;dsimp only;rw [if_pos (.inl (by omega))]
 refine fQ aQ (hs.ext xx4) (eY.2 ?_);rw [aM (by omega),show (s.length:Int) - ((aT i m ⟨op,a,b⟩).length:Int)=((s.length - (aT i m ⟨op,a,b⟩).length:Nat):Int) by omega];obtain ⟨tv,trun,tsl⟩:=aBv underlying23 bW (hs.ext xx4) (lo:=some (.int .i64 ((s.length - (aT i m ⟨op,a,b⟩).length:Nat):Int))) (hi':=none) (a:=s.length - (aT i m ⟨op,a,b⟩).length) (b:=s.length) (.inr rfl) (.inl ⟨rfl,rfl⟩) (by omega) (Nat.le_refl _);refine V.ok (trun _) ?_;refine fQ aQ (hs.ext xx4) (eY.2 ?_);rw [aM (by omega),show (s.length:Int) - ((aT i m ⟨op,a,b⟩).length:Int)=((s.length - (aT i m ⟨op,a,b⟩).length:Nat):Int) by omega];obtain ⟨uv,urun,usl⟩:=aBv underlying23 bW (hs.ext xx4) (lo:=none) (hi':=some (.int .i64 ((s.length - (aT i m ⟨op,a,b⟩).length:Nat):Int))) (a:=0) (b:=s.length - (aT i m ⟨op,a,b⟩).length) (.inl ⟨rfl,rfl⟩) (.inr rfl) (by omega) (by omega);refine V.ok (urun _) ?_
 have hu4:aA w4 uv 1 (s.length - (aT i m ⟨op,a,b⟩).length) ((s.take (s.length - (aT i m ⟨op,a,b⟩).length)).map i64):=by
  have:=usl _ (hs.ext xx4);simpa [List.map_take] using this
 have ht4:aN w4 tv (s.drop (s.length - (aT i m ⟨op,a,b⟩).length)):=by
  have:=tsl _ (hs.ext xx4);unfold aN;rw [List.length_drop,List.map_drop];have e2:((s.map i64).drop (s.length - (aT i m ⟨op,a,b⟩).length)).take (s.length - (s.length - (aT i m ⟨op,a,b⟩).length))=(s.map i64).drop (s.length - (aT i m ⟨op,a,b⟩).length):=List.take_of_length_le (by simp)
  rwa [e2] at this
 refine fQ aQ hu4 ?_;refine iF (hb1.ext x4) lM rfl (iF (hb3.ext x4) iG rfl ?_);refine aRf (h.ext xx4) hx0 λw5 x5=>bA.2 ?_;have xx5:=xx4.trans x5
 have hh2:hgt i m ⟨op,a,b⟩<=2:=by
  unfold hgt;rcases BB ho with rfl|rfl|rfl|rfl|rfl|rfl|rfl|rfl|rfl|rfl|rfl|rfl|rfl|rfl|rfl|rfl|rfl|rfl|rfl|rfl|rfl|rfl|rfl|rfl|rfl|rfl|rfl|rfl|rfl|rfl|rfl|rfl|rfl|rfl|rfl|rfl|rfl|rfl|rfl<;>first|exact Nat.zero_le _|exact Nat.le_succ 1|exact Nat.le_refl _|exact Nat.le_succ_of_le (DA _)
 rw [aM (by omega)];refine iH.2 (aB (λhgt8=>?_) λhle8=>?_)
 ·refine no 10 _ ?_ (by decide) xx5;unfold BU;dsimp only;rw [if_pos (.inr (by omega))]
 have hdo:∀ {l},l=s.drop (s.length - (aT i m ⟨op,a,b⟩).length)->BU i m ⟨op,a,b⟩ s=if mM ⟨op,a,b⟩ (aT i m ⟨op,a,b⟩) l=true/\kE ⟨op,a,b⟩ (aT i m ⟨op,a,b⟩) l=false then some (s.take (s.length - (aT i m ⟨op,a,b⟩).length)++iX i m ⟨op,a,b⟩ l) else none:=by
  rintro _ rfl;unfold BU;dsimp only;rw [if_neg (by omega)]
 have hkl:sA (s.drop (s.length - (aT i m ⟨op,a,b⟩).length)):=λk hk=>ks k (List.mem_of_mem_drop hk);have hll:(s.drop (s.length - (aT i m ⟨op,a,b⟩).length)).length=(aT i m ⟨op,a,b⟩).length:=by rw [List.length_drop];omega
 have ht5:=ht4.ext x5;generalize hL:s.drop (s.length - (aT i m ⟨op,a,b⟩).length)=l at ht5 hkl hll;have hdo:=hdo hL.symm;refine oD bDw [] rfl rfl ?_;refine bxK λw6 hW0 x6=>?_;have x36:=(x4.trans x5).trans x6;have hb1:=hb1.ext x36;have hb2:=hb2.ext x36;have hb3:=hb3.ext x36;have xx6:=xx5.trans x6;have hg0:w5.heap.size<=w5.heap.size:=Nat.le_refl _;generalize hg:w5.heap.size=g at hW0 hg0;have hW0:Wr w6 g false false:=hW0;have f1:=(h.ext xx5);have f2:=hm0.ext xx5;have fb1:∀ {w'},aE w5 w'->aY w' b1 [.string i.name,p.fv,p.iv,p.mv,p.xv]:=λhx=>(((‹aY w3 b1 _›).ext x4).ext x5).ext hx;have fb2:∀ {w'},aE w5 w'->aY w' b2 [pv,i64 m.result,lv,cv]:=λhx=>(((‹aY w3 b2 [pv,i64 m.result,lv,cv]›).ext x4).ext x5).ext hx;have fb3:∀ {w'},aE w5 w'->aY w' b3 [i64 op,i64 a,i64 b]:=λhx=>(((‹aY w3 b3 _›).ext x4).ext x5).ext hx;have hgs:w5.heap.size<=g:=by omega
 refine bC hb3 bH aG rfl (GO ho ?_);obtain ⟨pc1,pc2,pc3⟩:=aPr (i:=i) (m:=m) (a:=a) (b:=b) ho;refine ⟨λv w'=>∃ j:Nat,v=i64 j/\j<=(iW op).length/\aE w5 w'/\Wr w' g (pF ((iW op).take j) (l.take j)) (qJ ((iW op).take j) (l.take j)),λv _=>(iW op).length - (RowKit.intOf v).toNat,⟨0,rfl,Nat.zero_le _,x6,hW0⟩,?_⟩;rintro _ w7 ⟨j,rfl,hj,x7,hW⟩ _;refine V.ok (uH underlying9) (aW.2 (aB (λhlt=>?_) λhge=>?_))
 ·have hlt':j < (iW op).length:=by simpa [ByteArray.size] using hlt
  obtain ⟨c,hc1⟩:∃ c,(iW op)[j]?=some c:=⟨_,List.getElem?_eq_getElem hlt'⟩;have hk1:=lL (l:=l) (j:=j) (by omega);have hkd:=hkl _ (List.mem_of_getElem? hk1);have eK:=GQ hc1 hk1;have eL:=GP hc1 hk1;generalize pF ((iW op).take j) (l.take j)=A at hW eK;generalize qJ ((iW op).take j) (l.take j)=B at hW eL
  have hsc:(⟨(iW op).toArray⟩:ByteArray)[j]?=some c:=by
   rw [List.getElem?_eq_some_iff] at hc1;obtain ⟨hq,he⟩:=hc1;rw [getElem?_pos _ _ (by simpa [ByteArray.size] using hq)];exact congrArg some he
  refine V.ok (wA underlying9 hsc) (aH.2 ?_)
  have go:∀ {w'} {A' B'},aE w5 w'->Wr w' g A' B'->A'=pF ((iW op).take (j+1)) (l.take (j+1))->B'=qJ ((iW op).take (j+1)) (l.take (j+1))->V prog (binOp .add 3 (i64 j) (i64 1)) w' λt w2=>
    (∃ j:Nat,t=i64 j/\j<=(iW op).length/\aE w5 w2/\Wr w2 g (pF ((iW op).take j) (l.take j)) (qJ ((iW op).take j) (l.take j)))/\(iW op).length - (RowKit.intOf t).toNat < (iW op).length - (RowKit.intOf (i64 (j:Int))).toNat:=by
   intro w' A' B' hx hw e1 e2;subst e1 e2;refine bA.2 ?_;have:(iW op).length<=8:=by omega
   rw [aM (by omega),bK];exact ⟨⟨j+1,rfl,by omega,hx,hw⟩,by simp only [aL];omega⟩
  by_cases h97:c=97
  ·subst h97;simp only [show (((97:UInt8).toNat:Nat):Int)=97 from rfl,aR];refine ⟨.inl ⟨_,rfl⟩,bC hW.boxed dZ oM rfl ?_⟩;rw [if_pos rfl] at eK;simp only [show ((97:UInt8) == 112)=false from rfl,Bool.false_and,Bool.or_false] at eL
   have st:∀ v,v=pF ((iW op).take (j+1)) (l.take (j+1))->V prog (Instr.fieldAt 248 (.pointer (some ⟨g,0,none⟩)) 0) w7 λt76 w43=>U prog (Instr.storeAt 4 t76 (.bool v)) w43 λ_ w44=>V prog (binOp .add 3 (i64 j) (i64 1)) w44 λt w2=>
    (∃ j:Nat,t=i64 j/\j<=(iW op).length/\aE w5 w2/\Wr w2 g (pF ((iW op).take j) (l.take j)) (qJ ((iW op).take j) (l.take j)))/\(iW op).length - (RowKit.intOf t).toNat < (iW op).length - (RowKit.intOf (i64 (j:Int))).toNat:=by
    rintro v hv;refine FS dZ kS hW (n:=2) rfl (by decide) rfl ?_;exact go (x7.setCell hgs _) (hW.set 0 _) hv eL.symm
   cases A with
   | true=>simp only [aR];exact ⟨.inl ⟨_,rfl⟩,st _ (by rw [eK];rfl)⟩
   | false=>
    simp only [aR];refine lV aQ aG (ht5.ext x7) (by omega) (by omega) (cK hk1) (tD (dC.2 ?_));exact ⟨.inl ⟨_,rfl⟩,st _ (by rw [eK];rfl)⟩
  ·have hcn:¬ ((c.toNat:Int)=97):=λe=>h97 (by
    apply UInt8.toNat_inj.1;have:c.toNat=97:=by omega
    exact this)
   simp only [hcn,aR];rw [if_neg h97] at eK;refine ⟨.inl ⟨_,rfl⟩,bC hW.boxed dZ oM rfl ?_⟩
   have second:∀ {w1},aE w5 w1->Wr w1 g (pF ((iW op).take (j+1)) (l.take (j+1))) B->∀ v,v=qJ ((iW op).take (j+1)) (l.take (j+1))->V prog (Instr.fieldAt 248 (.pointer (some ⟨g,0,none⟩)) 1) w1 λt76 w43=>U prog (Instr.storeAt 4 t76 (.bool v)) w43 λ_ w44=>V prog (binOp .add 3 (i64 j) (i64 1)) w44 λt w2=>
    (∃ j:Nat,t=i64 j/\j<=(iW op).length/\aE w5 w2/\Wr w2 g (pF ((iW op).take j) (l.take j)) (qJ ((iW op).take j) (l.take j)))/\(iW op).length - (RowKit.intOf t).toNat < (iW op).length - (RowKit.intOf (i64 (j:Int))).toNat:=by
    rintro w1 hx hw v hv;refine FS dY kS hw (n:=2) rfl (by decide) rfl ?_;exact go (hx.setCell hgs _) (hw.set 1 _) rfl hv
   have kpart:∀ v,v=pF ((iW op).take (j+1)) (l.take (j+1))->aE w5 (w7.setCell ⟨g,0,none⟩ (.bool v))/\Wr (w7.setCell ⟨g,0,none⟩ (.bool v)) g (pF ((iW op).take (j+1)) (l.take (j+1))) B:=by
    rintro _ rfl;exact ⟨x7.setCell hgs _,hW.set 0 _⟩
   have hch:c=112\/c=105:=by
    rcases pc1 c (List.mem_of_getElem? hc1) with h1|h1|h1
    ·exact absurd h1 h97
    ·exact .inl h1
    ·exact .inr h1
   cases A with
   | true=>
    simp only [aR];refine ⟨.inl ⟨_,rfl⟩,?_⟩;refine FS dZ kS hW (n:=2) rfl (by decide) rfl ⟨.inl ⟨_,rfl⟩,?_⟩;obtain ⟨kx,kw⟩:=kpart true (by rw [eK];rfl);refine bC kw.boxed dY oM rfl ?_;cases B with
    | true=>simp only [aR];exact ⟨.inl ⟨_,rfl⟩,second kx kw _ (by rw [eL];rfl)⟩
    | false=>
     simp only [aR];refine V.ok (wA underlying9 hsc) (aH.2 ?_);rcases hch with rfl|rfl
     ·simp only [show (((112:UInt8).toNat:Nat):Int)=112 from rfl,aR];refine lV aQ aG (ht5.ext kx) (by omega) (by omega) (cK hk1) (BQ ?_);exact ⟨.inl ⟨_,rfl⟩,second kx kw _ (by rw [eL];rfl)⟩
     ·simp only [show (((105:UInt8).toNat:Nat):Int)=105 from rfl,aR,Int.reduceEq];exact ⟨.inl ⟨_,rfl⟩,second kx kw _ (by rw [eL];rfl)⟩
   | false=>
    simp only [aR];refine lV aQ aG (ht5.ext x7) (by omega) (by omega) (cK hk1) (tC (dC.2 ?_));refine ⟨.inl ⟨_,rfl⟩,?_⟩;refine FS dZ kS hW (n:=2) rfl (by decide) rfl ⟨.inl ⟨_,rfl⟩,?_⟩;obtain ⟨kx,kw⟩:=kpart (!dX (cI l j)) (by rw [eK];rfl);refine bC kw.boxed dY oM rfl ?_;cases B with
    | true=>simp only [aR];exact ⟨.inl ⟨_,rfl⟩,second kx kw _ (by rw [eL];rfl)⟩
    | false=>
     simp only [aR];refine V.ok (wA underlying9 hsc) (aH.2 ?_);rcases hch with rfl|rfl
     ·simp only [show (((112:UInt8).toNat:Nat):Int)=112 from rfl,aR];refine lV aQ aG (ht5.ext kx) (by omega) (by omega) (cK hk1) (BQ ?_);exact ⟨.inl ⟨_,rfl⟩,second kx kw _ (by rw [eL];rfl)⟩
     ·simp only [show (((105:UInt8).toNat:Nat):Int)=105 from rfl,aR,Int.reduceEq];exact ⟨.inl ⟨_,rfl⟩,second kx kw _ (by rw [eL];rfl)⟩
 have hjl:j=(iW op).length:=by
  have:¬ j < (iW op).length:=λhh=>hge (by simpa [ByteArray.size] using hh);omega
 subst hjl;rw [List.take_length] at hW;have J:∀ {w' kf lf},aE w5 w'->Wr w' g kf lf->((kf||lf)=false↔uT i m ⟨op,a,b⟩ l)->∃ kf lf,Wr w' g kf lf/\aE w5 w'/\((kf||lf)=false↔uT i m ⟨op,a,b⟩ l):=λh1 h2 h3=>⟨_,_,h2,h1,h3⟩
 have rd:∀ {w' n u K},aE w5 w'->n < l.length->u=i64 (cI l n)->K u w'->V prog (Instr.indexAt 23 tv (i64 (n:Nat))) w' λp w1=>V prog (Instr.loadAt 3 p) w1 K:=λ{w' n u K} hx hn hu hK=>by
  subst hu;exact lV aQ aG (ht5.ext hx) (by omega) (by omega) (cK (lL hn)) hK
 refine ⟨λw'=>∃ kf lf,Wr w' g kf lf/\aE w5 w'/\((kf||lf)=false↔uT i m ⟨op,a,b⟩ l),?_,?_⟩
 ·refine bC (fb3 x7) bH aG rfl ?_;by_cases c3:op=3
  ·subst c3;have a1:0<=a:=a1;have hna:a < (m.locs.length:Int):=hn;have hl1:l.length=1:=hll;have hkd:=sZ (JG mr) (k:=a.toNat) (by omega);have hk0:=oH hkl (n:=0) (by omega);simp only [aR,Int.reduceEq];refine iF (fb2 x7) oK rfl ?_;refine bC (fb3 x7) bD aG rfl ?_;refine JL (f2.ext x7) mr a1 λw8 x8=>hU.2 (hO.2 ?_);refine rd (n:=0) (x7.trans x8) (by omega) rfl ?_;refine DV hk0 hkd ?_;refine yL (bO.ext hW x8) λw9 hW9 hx9=>J (hx9 _ (x7.trans x8) hgs) hW9 ?_;rw [EH ⟨by decide,by decide,by decide,by decide⟩,aPx hl1];have:=inA (t:=[m.locs.getD a.toNat 0]) (l:=[cI l 0]) (by intro k hk;rw [List.mem_singleton] at hk;subst hk;exact hkd) (by intro k hk;rw [List.mem_singleton] at hk;subst hk;exact hk0);simp only [TU,TT,Bool.or_false] at this;exact this
  by_cases c34:op=34
  ·subst c34;have a1:0<=a:=a1;have hna:a < (i.fields.length:Int):=hn;have hl1:l.length=1:=hll;have hkd:=sZ ir.1.1 (k:=a.toNat) (by omega);have hk0:=oH hkl (n:=0) (by omega);simp only [aR,Int.reduceEq];have D1:aE w7 w7.drew:=(aE.refl _).drew;have xd:=x7.trans D1;refine aK.mk' (λw'=>aE w5 w') xd ?_;refine oE aQ aG ht5 (λ_ h=>h) (by omega) (by omega) (cK (j:=0) (lL (by omega))) ?_;refine jG (λw' hw=>fb1 hw) jI bF rfl ?_;refine jG (λw' hw=>fb3 hw) bD aG rfl ?_;obtain ⟨ka,hka⟩:∃ ka:Nat,a=ka:=⟨a.toNat,by omega⟩;have hfi:i.fields[ka]?=some (i.fields.getD a.toNat 0):=by rw [hka,Int.toNat_natCast];exact fG (by omega)
   refine oE aQ aG f1.fl (λ_ h=>h) a1 hna (by rw [hka];exact cK hfi) ?_;refine DV hk0 hkd ⟨xd,?_⟩;refine yL (bO.ext hW D1) λw9 hW9 hx9=>J (hx9 _ xd hgs) hW9 ?_;rw [EH ⟨by decide,by decide,by decide,by decide⟩,aPx hl1];have:=inA (t:=[i.fields.getD a.toNat 0]) (l:=[cI l 0]) (by intro k hk;rw [List.mem_singleton] at hk;subst hk;exact hkd) (by intro k hk;rw [List.mem_singleton] at hk;subst hk;exact hk0);simp only [TU,TT,Bool.or_false] at this;exact this
  by_cases c22:op=22
  ·subst c22;have hl3:l.length=3:=hll;have hk0:=oH hkl (n:=0) (by omega);have hk1:=oH hkl (n:=1) (by omega);have hk2:=oH hkl (n:=2) (by omega)
   have hgood:uT i m ⟨22,a,b⟩ l↔(jS [-2,-1,-1] [cI l 0,cI l 1,cI l 2]&&(dX (cI l 1)&&dX (cI l 2)||fR (cI l 1)&&cI l 1 == cI l 2))=true/\(fR (cI l 1)&&cI l 0 == 2)=false:=by
    have e:uT i m ⟨22,a,b⟩ l=((jS [-2,-1,-1] l&&(dX (cI l 1)&&dX (cI l 2)||fR (cI l 1)&&cI l 1 == cI l 2))=true/\(fR (cI l 1)&&cI l 0 == 2)=false):=rfl;rw [e,<- bBu hl3]
   have hf:=(bDe hk0 hk1 hk2).trans hgood.symm;have hW:Wr w7 g false false:=hW;simp only [aR,Int.reduceEq];have D1:aE w7 w7.drew:=(aE.refl _).drew;have xd:=x7.trans D1;have hWd:Wr w7.drew g false false:=bO.ext hW D1;refine aK.mk' (λw'=>aE w5 w'/\Wr w' g false false) ⟨xd,hWd⟩ ⟨.inl ⟨_,rfl⟩,?_⟩;refine jG (λw' hw=>(bO.boxed hw.2)) dZ oM rfl ?_;simp only [aR];have yr:∀ {n L},n < l.length->L (i64 (cI l n))->aD prog (λw'=>aE w5 w'/\Wr w' g false false) (Instr.indexAt 23 tv (i64 (n:Nat))) λp=>aD prog (λw'=>aE w5 w'/\Wr w' g false false) (Instr.loadAt 3 p) L:=λ{n L} hn hL=>oE aQ aG ht5 (λ_ h=>h.1) (by omega) (by omega) (cK (lL hn)) hL;refine yr (n:=0) (by omega) (tC ⟨⟨xd,hWd⟩,aD.ok (λw' _=>xK) ?_⟩)
   have leak:∀ (kf:Bool) {w'},kf=(!dX (cI l 0)||(dX (cI l 1) != dX (cI l 2))||(fR (cI l 1)&&(cI l 1 != cI l 2)))->w'=w7.drew.setCell ⟨g,0,none⟩ (.bool kf)->(aE w5 w'/\Wr w' g kf false):=by
    rintro kf _ _ rfl;exact ⟨xd.setCell hgs _,bO.set hWd 0 _⟩
   have fin:∀ (kf lf:Bool) {w'},kf=(!dX (cI l 0)||(dX (cI l 1) != dX (cI l 2))||(fR (cI l 1)&&(cI l 1 != cI l 2)))->lf=(fR (cI l 1)&&DU (cI l 0))->aE w5 w'->Wr w' g kf false ->
     V prog (Instr.fieldAt 248 (.pointer (some ⟨g,0,none⟩)) 1) w' λt204 w117=>U prog (Instr.storeAt 4 t204 (.bool lf)) w117 λ_ w118=>∃ kf lf,Wr w118 g kf lf/\aE w5 w118/\((kf||lf)=false↔uT i m ⟨22,a,b⟩ l):=by
    intro kf lf w' e1 e2 hx hw;refine FS dY kS hw (n:=2) rfl (by decide) rfl ?_;exact J (hx.setCell hgs _) (hw.set 1 _) (by rw [e1,e2];exact hf)
   have rest:∀ (kf:Bool),kf=(!dX (cI l 0)||(dX (cI l 1) != dX (cI l 2))||(fR (cI l 1)&&(cI l 1 != cI l 2)))->aD prog (λw'=>aE w5 w'/\Wr w' g false false) (Instr.fieldAt 248 (.pointer (some ⟨g,0,none⟩)) 0) λt185=>U prog (Instr.storeAt 4 t185 (.bool kf)) w7.drew λ_ w101=>
     Go.Vc.bL (.pointer (some ⟨g,0,none⟩))/\V prog (Instr.fieldAt 248 (.pointer (some ⟨g,0,none⟩)) 1) w101 λt189 w103=>V prog (Instr.loadAt 4 t189) w103 λt190 w104=>
     gd t190 false (λK=>K tv w104) w104 λt192 w105=>gd t190 false (λK=>V prog (Instr.indexAt 23 t192 (i64 1)) w105 K) w105 λt193 w106=>gd t190 false (λK=>V prog (Instr.loadAt 3 t193) w106 K) w106 λt194 w107=>gd t190 false (λK=>aC prog 148 #[t194] w107 K) w107 λt195 w108=>
     gd t190 false (λK=>K t195 w108) w108 λt196 w109=>gd t196 true (λK=>K tv w109) w109 λt197 w110=>gd t196 true (λK=>V prog (Instr.indexAt 23 t197 (i64 0)) w110 K) w110 λt198 w111=>gd t196 true (λK=>V prog (Instr.loadAt 3 t198) w111 K) w111 λt199 w112=>
     gd t196 true (λK=>aC prog 150 #[t199] w112 K) w112 λt200 w113=>gd t190 false (λK=>aF t196 t200 (.bool false) λv=>K v w113) w113 λt201 w114=>aF t190 (.bool true) t201 λt202=>
     Go.Vc.bL (.pointer (some ⟨g,0,none⟩))/\V prog (Instr.fieldAt 248 (.pointer (some ⟨g,0,none⟩)) 1) w114 λt204 w117=>U prog (Instr.storeAt 4 t204 t202) w117 λ_ w118=>∃ kf lf,Wr w118 g kf lf/\aE w5 w118/\((kf||lf)=false↔uT i m ⟨22,a,b⟩ l):=by
    intro kf e1;refine aD.ok (λw' _=>(dZ:FA prog 248 0 0).ex w' g 0) ?_;refine bBe kS hWd (n:=2) rfl (o:=0) (by decide) rfl ⟨.inl ⟨_,rfl⟩,?_⟩;obtain ⟨lx,lw⟩:=leak kf e1 rfl;refine bC lw.boxed dY oM rfl ?_;simp only [aR];refine rd (n:=1) lx (by omega) rfl (tD ?_);cases hz:fR (cI l 1) with
    | false=>simp only [aR];exact ⟨.inl ⟨_,rfl⟩,fin kf _ e1 (by rw [hz];rfl) lx lw⟩
    | true=>
     simp only [aR];refine rd (n:=0) lx (by omega) rfl (BQ ?_);exact ⟨.inl ⟨_,rfl⟩,fin kf _ e1 (by rw [hz];rfl) lx lw⟩
   cases i0:dX (cI l 0) with
   | false=>
    simp only [aR];exact ⟨⟨xd,hWd⟩,⟨xd,hWd⟩,⟨xd,hWd⟩,.inl ⟨_,rfl⟩,rest _ (by rw [i0];rfl)⟩
   | true=>
    simp only [aR];refine yr (n:=1) (by omega) (yr (n:=2) (by omega) ?_);refine tC ⟨⟨xd,hWd⟩,tC ⟨⟨xd,hWd⟩,aD.ok (λw' _=>aFk) ?_⟩⟩;cases i12:(dX (cI l 1) != dX (cI l 2)) with
    | true=>
     simp only [aR];exact ⟨⟨xd,hWd⟩,.inl ⟨_,rfl⟩,rest _ (by rw [i0,i12];rfl)⟩
    | false=>
     simp only [aR];refine yr (n:=1) (by omega) (tD ⟨⟨xd,hWd⟩,?_⟩);cases a1':fR (cI l 1) with
     | false=>simp only [aR];exact ⟨.inl ⟨_,rfl⟩,rest _ (by rw [i0,i12,a1'];rfl)⟩
     | true=>
      simp only [aR];refine yr (n:=1) (by omega) (yr (n:=2) (by omega) (aD.ok (λw' _=>zJ) ?_));exact ⟨.inl ⟨_,rfl⟩,rest _ (by rw [i0,i12,a1'];by_cases hq:cI l 1=cI l 2<;>simp [hq])⟩
  have hP:=bIx (p:=iW op) (l:=l) pc1 hkl
  have st1:∀ (kf lf:Bool) {w'},((kf||lf)=false↔uT i m ⟨op,a,b⟩ l)->(∃ lf0,Wr w' g kf lf0)->aE w5 w' ->
    V prog (Instr.fieldAt 248 (.pointer (some ⟨g,0,none⟩)) 1) w' λt204 w117=>U prog (Instr.storeAt 4 t204 (.bool lf)) w117 λ_ w118=>∃ kf lf,Wr w118 g kf lf/\aE w5 w118/\((kf||lf)=false↔uT i m ⟨op,a,b⟩ l):=by
   rintro kf lf w' hf ⟨lf0,hw⟩ hx;refine FS dY kS hw (n:=2) rfl (by decide) rfl ?_;exact J (hx.setCell hgs _) (hw.set 1 _) hf
  by_cases c30:op=30
  ·subst c30;have hl3:l.length=3:=hll;have hk0:=oH hkl (n:=0) (by omega);have hk1:=oH hkl (n:=1) (by omega);have hk2:=oH hkl (n:=2) (by omega);have e3:l.take (iW 30).length=l:=List.take_of_length_le (by rw [hl3];exact Nat.le_refl _);rw [e3] at hW
   have hgood:uT i m ⟨30,a,b⟩ l↔jS [-4,-3,-2] [cI l 0,cI l 1,cI l 2]=true/\(gI [-4,-3,-2] [cI l 0,cI l 1,cI l 2]||(cI l 0 == 3&&cI l 2 == 2))=false:=by
    rw [<- bBu hl3];unfold uT mM kE;dsimp only;rw [if_neg (by decide),if_neg (by decide),if_pos rfl,show aT i m ⟨30,a,b⟩=[-4,-3,-2] from rfl,Bool.and_true]
   have hP:(pF (iW 30) l||qJ (iW 30) l)=false↔jS [-4,-3,-2] [cI l 0,cI l 1,cI l 2]=true/\gI [-4,-3,-2] [cI l 0,cI l 1,cI l 2]=false:=by
    rw [<- bBu hl3];exact hP
   have hz:=(bDd hk0 hk1 hk2 hP).trans hgood.symm;generalize pF (iW 30) l=A at hW hz;generalize qJ (iW 30) l=B at hW hz;simp only [aR,Int.reduceEq];refine ⟨.inl ⟨_,rfl⟩,bC hW.boxed dY oM rfl ?_⟩;cases B with
   | true=>simp only [aR];exact ⟨.inl ⟨_,rfl⟩,st1 A _ (by simpa using hz) ⟨_,hW⟩ x7⟩
   | false=>
    simp only [aR];refine rd (n:=0) x7 (by omega) rfl (aH.2 ?_);by_cases z0:cI l 0=3
    ·simp only [z0,aR];refine rd (n:=2) x7 (by omega) rfl (BQ ?_);exact ⟨.inl ⟨_,rfl⟩,st1 A _ (by simpa [z0] using hz) ⟨_,hW⟩ x7⟩
    ·simp only [z0,aR];exact ⟨.inl ⟨_,rfl⟩,st1 A _ (by simpa [z0] using hz) ⟨_,hW⟩ x7⟩
  by_cases c31:op=31
  ·subst c31;have hl5:l.length=5:=hll;have e3:l.take (iW 31).length=l:=List.take_of_length_le (by rw [hl5];exact Nat.le_refl _);rw [e3] at hW
   have hgood:uT i m ⟨31,a,b⟩ l↔jS [-4,-3,-4,-3,-3] l=true/\(gI [-4,-3,-4,-3,-3] l||(cI l 0 == 3&&cI l 2 == 4))=false:=by
    unfold uT mM kE;dsimp only;rw [if_neg (by decide),if_neg (by decide),if_neg (by decide),if_pos rfl,show aT i m ⟨31,a,b⟩=[-4,-3,-4,-3,-3] from rfl,Bool.and_true]
   have hP:(pF (iW 31) l||qJ (iW 31) l)=false↔jS [-4,-3,-4,-3,-3] l=true/\gI [-4,-3,-4,-3,-3] l=false:=hP;have hz:=(TX (z:=(cI l 0 == 3&&cI l 2 == 4)) hP).trans hgood.symm;generalize pF (iW 31) l=A at hW hz;generalize qJ (iW 31) l=B at hW hz;simp only [aR,Int.reduceEq];refine ⟨.inl ⟨_,rfl⟩,bC hW.boxed dY oM rfl ?_⟩;cases B with
   | true=>simp only [aR];exact ⟨.inl ⟨_,rfl⟩,st1 A _ (by simpa using hz) ⟨_,hW⟩ x7⟩
   | false=>
    simp only [aR];refine rd (n:=0) x7 (by omega) rfl (aH.2 ?_);by_cases z0:cI l 0=3
    ·simp only [z0,aR];refine rd (n:=2) x7 (by omega) rfl (aH.2 ?_);exact ⟨.inl ⟨_,rfl⟩,st1 A _ (by simpa [z0] using hz) ⟨_,hW⟩ x7⟩
    ·simp only [z0,aR];exact ⟨.inl ⟨_,rfl⟩,st1 A _ (by simpa [z0] using hz) ⟨_,hW⟩ x7⟩
  by_cases c36:op=36
  ·subst c36;have hl3:l.length=3:=hll;have e3:l.take (iW 36).length=l:=List.take_of_length_le (by rw [hl3];exact Nat.le_refl _);rw [e3] at hW
   have hgood:uT i m ⟨36,a,b⟩ l↔jS [-4,-3,-3] l=true/\(gI [-4,-3,-3] l||(a == 1&&cI l 0 == 4))=false:=by
    unfold uT mM kE;dsimp only;rw [if_neg (by decide),if_neg (by decide),if_neg (by decide),if_neg (by decide),if_pos rfl,show aT i m ⟨36,a,b⟩=[-4,-3,-3] from rfl,Bool.and_true]
   have hP:(pF (iW 36) l||qJ (iW 36) l)=false↔jS [-4,-3,-3] l=true/\gI [-4,-3,-3] l=false:=hP;have hz:=(TX (z:=(a == 1&&cI l 0 == 4)) hP).trans hgood.symm;generalize pF (iW 36) l=A at hW hz;generalize qJ (iW 36) l=B at hW hz;simp only [aR,Int.reduceEq];refine ⟨.inl ⟨_,rfl⟩,bC hW.boxed dY oM rfl ?_⟩;cases B with
   | true=>simp only [aR];exact ⟨.inl ⟨_,rfl⟩,st1 A _ (by simpa using hz) ⟨_,hW⟩ x7⟩
   | false=>
    simp only [aR];refine bC (fb3 x7) bD aG rfl (aH.2 ?_);by_cases z0:a=1
    ·subst z0;simp only [aR];refine rd (n:=0) x7 (by omega) rfl (aH.2 ?_);exact ⟨.inl ⟨_,rfl⟩,st1 A (decide (cI l 0=4)) (by simpa using hz) ⟨_,hW⟩ x7⟩
    ·simp only [z0,aR];exact ⟨.inl ⟨_,rfl⟩,st1 A _ (by simpa [z0] using hz) ⟨_,hW⟩ x7⟩
  by_cases c37:op=37
  ·subst c37;have a1:0<=a:=a1;obtain ⟨ka,rfl⟩:∃ ka:Nat,a=ka:=⟨a.toNat,by omega⟩;have hna:(ka:Int) < (i.methods.length:Int):=hn;have hlp:l.length=(i.meth (ka:Int)).params.length:=hll;have hkp:sA (i.meth (ka:Int)).params:=LY ir a1 hna;have hW:Wr w7 g false false:=hW;have e3:aT i m ⟨37,(ka:Int),b⟩=(i.meth (ka:Int)).params:=rfl;simp only [aR,Int.reduceEq];refine ⟨λv w'=>∃ j:Nat,v=i64 j/\j<=l.length/\aE w5 w'/\Wr w' g (TU ((i.meth (ka:Int)).params.take j) (l.take j)) (TT ((i.meth (ka:Int)).params.take j) (l.take j)),λv _=>l.length - (RowKit.intOf v).toNat,⟨0,rfl,Nat.zero_le _,x7,hW⟩,?_⟩;rintro _ w8 ⟨j,rfl,hj,x8,hW8⟩ _;rw [e3];refine aW.2 (aB (λhlt=>?_) λhge=>?_)
   ·have hk1:=lL (l:=l) (j:=j) (by omega);obtain ⟨q,hq⟩:=bE (l:=(i.meth (ka:Int)).params) (j:=j) (by omega);have D1:aE w8 w8.drew:=(aE.refl _).drew;have xd:=x8.trans D1;refine aK.mk' (λw'=>aE w5 w') xd ?_;refine oE aQ aG ht5 (λ_ h=>h) (by omega) (by omega) (cK hk1) ?_;refine jG (λw' hw=>fb1 hw) bP dE rfl ?_;refine jG (λw' hw=>fb3 hw) bD aG rfl ?_;have hmi:=fY a1 hna;rw [Int.toNat_natCast] at hmi;refine ySF gO dM bF f1.mt (λ_ h=>h) hmi λrow hrow=>?_;obtain ⟨pv9,lv9,cv9,rfl,hp9,_,_⟩:=hrow;refine ⟨pv9,rfl,by decide,?_⟩;refine oE aQ aG hp9 (λ_ h=>h) (by omega) (by omega) (cK hq) ?_;refine DV (hkl _ (List.mem_of_getElem? hk1)) (hkp _ (List.mem_of_getElem? hq)) ⟨xd,?_⟩;refine yL (bO.ext hW8 D1) λw9 hW9 hx9=>⟨hx9 _ xd hgs,bA.2 ?_⟩;rw [aM (by omega),bK];refine ⟨⟨j+1,rfl,by omega,hx9 _ xd hgs,?_⟩,by simp only [aL];omega⟩;rw [EG hq hk1,EF hq hk1];exact hW9
   ·have hjl:j=l.length:=by omega
    subst hjl;rw [List.take_length,hlp,List.take_length] at hW8;refine J x8 hW8 ?_;rw [EH ⟨by decide,by decide,by decide,by decide⟩,e3];exact inA hkp hkl
  by_cases c38:op=38
  ·subst c38;have a1:0<=a:=a1;obtain ⟨ka,rfl⟩:∃ ka:Nat,a=ka:=⟨a.toNat,by omega⟩;have hna:(ka:Int) < (i.imports.length:Int):=hn;have hlp:l.length=(i.imp (ka:Int)).params.length:=hll;have hkp:sA (i.imp (ka:Int)).params:=WP ir a1 hna;have hW:Wr w7 g false false:=hW;have e3:aT i m ⟨38,(ka:Int),b⟩=(i.imp (ka:Int)).params:=rfl;simp only [aR,Int.reduceEq];refine ⟨λv w'=>∃ j:Nat,v=i64 j/\j<=l.length/\aE w5 w'/\Wr w' g (TU ((i.imp (ka:Int)).params.take j) (l.take j)) (TT ((i.imp (ka:Int)).params.take j) (l.take j)),λv _=>l.length - (RowKit.intOf v).toNat,⟨0,rfl,Nat.zero_le _,x7,hW⟩,?_⟩;rintro _ w8 ⟨j,rfl,hj,x8,hW8⟩ _;rw [e3];refine aW.2 (aB (λhlt=>?_) λhge=>?_)
   ·have hk1:=lL (l:=l) (j:=j) (by omega);obtain ⟨q,hq⟩:=bE (l:=(i.imp (ka:Int)).params) (j:=j) (by omega);have D1:aE w8 w8.drew:=(aE.refl _).drew;have xd:=x8.trans D1;refine aK.mk' (λw'=>aE w5 w') xd ?_;refine oE aQ aG ht5 (λ_ h=>h) (by omega) (by omega) (cK hk1) ?_;refine jG (λw' hw=>fb1 hw) fH iN rfl ?_;refine jG (λw' hw=>fb3 hw) bD aG rfl ?_;have hmi:=tE a1 hna;rw [Int.toNat_natCast] at hmi;refine ySF nQ bX bF f1.im (λ_ h=>h) hmi λrow hrow=>?_;obtain ⟨pv9,rfl,hp9⟩:=hrow;refine ⟨pv9,rfl,by decide,?_⟩;refine oE aQ aG hp9 (λ_ h=>h) (by omega) (by omega) (cK hq) ?_;refine DV (hkl _ (List.mem_of_getElem? hk1)) (hkp _ (List.mem_of_getElem? hq)) ⟨xd,?_⟩;refine yL (bO.ext hW8 D1) λw9 hW9 hx9=>⟨hx9 _ xd hgs,bA.2 ?_⟩;rw [aM (by omega),bK];refine ⟨⟨j+1,rfl,by omega,hx9 _ xd hgs,?_⟩,by simp only [aL];omega⟩;rw [EG hq hk1,EF hq hk1];exact hW9
   ·have hjl:j=l.length:=by omega
    subst hjl;rw [List.take_length,hlp,List.take_length] at hW8;refine J x8 hW8 ?_;rw [EH ⟨by decide,by decide,by decide,by decide⟩,e3];exact inA hkp hkl
  by_cases c39:op=39
  ·subst c39;have hW:Wr w7 g false false:=hW;have e3:aT i m ⟨39,a,b⟩=mL m.result:=rfl;simp only [aR,Int.reduceEq];rw [e3] at hll ⊢;by_cases hr:m.result=0
   ·have e4:mL m.result=[]:=by unfold mL;rw [if_pos hr]
    have hll0:l.length=0:=by rw [hll,e4];rfl
    simp only [e4,List.length_nil,Int.natCast_zero,aR,Int.reduceGT];refine J x7 hW ?_;rw [EH ⟨by decide,by decide,by decide,by decide⟩,e3,e4];simp [jS,gI]
   ·have e4:mL m.result=[m.result]:=by unfold mL;rw [if_neg hr]
    have hl1:l.length=1:=by rw [hll,e4];rfl
    have hk0:=oH hkl (n:=0) (by omega);have hkr:Kd m.result:=by have:=mr.2.1;unfold Kd;omega
    simp only [e4,List.length_cons,List.length_nil,Nat.zero_add,Int.natCast_one,aR,Int.reduceGT];have D1:aE w7 w7.drew:=(aE.refl _).drew;have xd:=x7.trans D1;refine aK.mk' (λw'=>aE w5 w') xd ?_;refine oE aQ aG ht5 (λ_ h=>h) (by omega) (by omega) (cK (j:=0) (lL (by omega))) ?_;refine jG (λw' hw=>fb2 hw) fW aG rfl ?_;refine DV hk0 hkr ⟨xd,?_⟩;refine yL (bO.ext hW D1) λw9 hW9 hx9=>J (hx9 _ xd hgs) hW9 ?_;rw [EH ⟨by decide,by decide,by decide,by decide⟩,e3,e4,aPx hl1];have:=inA (t:=[m.result]) (l:=[cI l 0]) (by intro k hk;rw [List.mem_singleton] at hk;subst hk;exact hkr) (by intro k hk;rw [List.mem_singleton] at hk;subst hk;exact hk0);simp only [TU,TT,Bool.or_false] at this;exact this
  simp only [c3,c34,c22,c30,c31,c36,c37,c38,c39,aR];refine J x7 hW ?_;rw [EH ⟨c22,c30,c31,c36⟩];by_cases c45:op=4\/op=5
  ·rcases c45 with rfl|rfl
   all_goals
    have hl1:l.length=1:=hll;rw [aPx hl1];simp [pF,qJ,iW,kH,aT,jS,gI,tQ,vW]
  ·simp only [not_or] at c45;have e5:=pc3 (by omega);have e6:l.take (iW op).length=l:=List.take_of_length_le (by rw [hll,e5];simp);rw [e5,e6];exact hP
 ·rintro w8 ⟨kf,lf,hW8,x8,hgood⟩ _;refine ⟨.inl ⟨_,rfl⟩,bC hW8.boxed dZ oM rfl ?_⟩
  have bad:(kf||lf)=true->BU i m ⟨op,a,b⟩ s=none:=λhb=>by
   rw [hdo,if_neg];intro hgd;have:=hgood.2 hgd;rw [hb] at this;cases this
  cases kf with
  | true=>simp only [aR];exact no 11 _ (bad rfl) (by decide) (xx5.trans x8)
  | false=>
  simp only [aR];refine ⟨.inl ⟨_,rfl⟩,bC hW8.boxed dY oM rfl ?_⟩;cases lf with
  | true=>simp only [aR];exact no 12 _ (bad rfl) (by decide) (xx5.trans x8)
  | false=>
  simp only [aR]
  have hd2:BU i m ⟨op,a,b⟩ s=some (s.take (s.length - (aT i m ⟨op,a,b⟩).length)++iX i m ⟨op,a,b⟩ l):=by
   have hgd:mM ⟨op,a,b⟩ (aT i m ⟨op,a,b⟩) l=true/\kE ⟨op,a,b⟩ (aT i m ⟨op,a,b⟩) l=false:=hgood.1 rfl;rw [hdo,if_pos hgd]
  have D1:aE w8 w8.drew:=(aE.refl _).drew;have xd:=x8.trans D1;refine aK.mk' (λw'=>aE w5 w') xd ?_;refine yA (λw' hw=>fb1 hw) lM rfl ?_;refine yA (λw' hw=>fb2 hw) oK rfl ?_;refine yA (λw' hw=>fb3 hw) iG rfl ?_;refine jX bB [] rfl rfl (by simp) rfl λv1 w9 ho9 x9=>⟨xd.trans x9,?_⟩;have hul:(s.take (s.length - (aT i m ⟨op,a,b⟩).length)).length=s.length - (aT i m ⟨op,a,b⟩).length:=by rw [List.length_take];omega
  refine UQ bB ho9 (hu4.ext ((x5.trans xd).trans x9)) (NG _) (by omega) (by unfold maxLen;omega) x9.size λv2 w10 ho10 hg10=>?_;have x10:aE w8.drew w10:=x9.grown hg10 λk hk=>(ho9.lt k hk).1;have xd10:=xd.trans x10;refine ⟨xd10,?_⟩;refine aHw (f1.ext xd10) (f2.ext xd10) hx0 (ht5.ext xd10) hll λv3 w11 h11 x11=>⟨xd10.trans x11,?_⟩;have hgl:(iX i m ⟨op,a,b⟩ l).length<=2:=by rw [JX];exact hh2
  refine UQ bB (x11.own ho10) h11 (NG _) (by omega) (by unfold maxLen;omega) (x10.trans x11).size λv4 w12 ho12 hg12=>?_;have x12:aE w8.drew w12:=(x10.trans x11).grown hg12 λk hk=>((x11.own ho10).lt k hk).1;refine ⟨xd.trans x12,yes _ v4 w12 hd2 ?_ ((xx5.trans xd).trans x12)⟩;have:=aU ho12 ((xx5.trans xd).size);simp only [List.nil_append] at this;rw [List.length_append,List.map_append,hul];simpa using this
end Go.Proofs.YtjcmcfidblhnnaaGreatDoor
