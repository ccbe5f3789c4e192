/- General laws of operations (from the other texts of this seed). -/
import Derived.Test.YtjcmcfidblhnnaaGreatDoorTb
import Derived.Test.YtjcmcfidblhnnaaGreatDoorTc
import Derived.Test.YtjcmcfidblhnnaaGreatDoorTd
import Derived.Deep.AppendLies
import Derived.Laws.CopyRow
import Derived.Laws.BytesArg
set_option maxHeartbeats 8000000
namespace Go.Vc
section
variable {P:Program} {w:O} {K:Y->O->Prop}
theorem WH {t x:TypeId} {z:Y} {by_:Nat} (h:XA P t 1) (hx:cZ P x z 1 by_) {g n c e:Nat} {cs:List Y} (hb:bO w g cs e) (hn:cs.length=n) {k:IntKind} {i:Int} (h0:0<=i) (h1:i < n) {u:Y} (hu:bX u=true) {K':O->Prop}
  (hk:K' (w.setCell ⟨g,i.toNat,none⟩ u)) :
  V P (Instr.indexAt t (.slice (some ⟨g,0,none⟩) n c) (.int k i)) w λp w1=>U P (Instr.storeAt x p u) w1 λ_ w2=>K' w2:=by
 obtain ⟨e',z',b',ht,hi⟩:=h;refine V.ok (jZ ht hi h0 h1) ?_;have hlt:i.toNat < cs.length:=by omega
 have hc:=hb.cell i.toNat;rw [List.getElem?_eq_getElem hlt] at hc;simp only [Nat.zero_add,Nat.mul_one];exact U.ok (nF hx hu hc (hb.frozen _)) hk
theorem bF.other {b g j:Nat} {cs:List Y} {u:Y} (h:bF w b cs) (hne:b≠g):bF (w.setCell ⟨g,j,none⟩ u) b cs:=λi v hi=>by
 have:=h i v hi;rw [World.cell?_setCell_other _ _ _ _ (by intro he;cases he;exact hne rfl)];exact this
end
section
variable {P:Program} {w:O} {K:Y->O->Prop} {S:O->Prop} {L:Y->Prop}
theorem iB {s f o ft b:Nat} {cs:List Y} {u:Y} (hb:∀ w',S w'->bF w' b cs) (h:FA P s f o) (hl:L1 P ft) (hc:cs[o]?=some u) (hk:L u) :
  aF P S (Instr.fieldAt s (.pointer (some ⟨b,0,none⟩)) f) λq=>aF P S (Instr.loadAt ft q) L:=by
 obtain ⟨d,hd,ha⟩:=hl;exact aF.ok (λw' _=>h.ex w' b 0) (aF.ok (λw' hw=>jN hd ha (hb w' hw o u hc)) hk)
theorem nT {t x:TypeId} {v:Y} {n:Nat} {cs:List Y} {k:IntKind} {i:Int} {u:Y} (h:XA P t 1) (hl:L1 P x) (hs0:aA w v 1 n cs) (hx:∀ w',S w'->aG w w') (h0:0<=i) (h1:i < n) (hu:cs[i.toNat]?=some u) (hk:L u) :
  aF P S (Instr.indexAt t v (.int k i)) λp=>aF P S (Instr.loadAt x p) L:=by
 obtain ⟨e,z,b',ht,hi⟩:=h;obtain ⟨d,hd,ha⟩:=hl;obtain ⟨b,off,cap,rfl,hc⟩:=hs0.there (by omega);refine aF.ok (λw' _=>jZ ht hi h0 h1) (aF.ok (λw' hw=>jN hd ha ((hx w' hw).cell ?_)) hk);simpa using hc _ _ hu
theorem sZ {t ty n:Nat} {m:Nat} {v:Y} {size:Nat} {cs:List Y} (h:XA P t n) (hs:aA w v size m cs) (hk:L (i64 m)):aF P S (Builtin.len_ #[t] ty #[v]) L:=by
 obtain ⟨e,z,b,ht,hi⟩:=h;obtain ⟨a,c,rfl⟩:=hs.shape;exact aF.ok (λw' _=>wA ht) hk
end
theorem yP {P:Program} {w:O} {K:Y->O->Prop} {t e by_:Nat} {z:Y} {x:Int} {n:Nat} (hx:x=(n:Int)) (ht:P.underlying t=some (.slice e)) (hi:cZ P e z 1 by_) (hz:z.cells=#[z]) (hb:by_*n<=281474976710656) (h63:n<=9223372036854775807)
  (hk:∀ w',bO w' w.heap.size (List.replicate n z) e->aG w w'->w'.heap.size=w.heap.size+1->K (.slice (some ⟨w.heap.size,0,none⟩) n n) w'):V P (Instr.makeSlice t (.int .i64 x) (.int .i64 x)) w K:=by
 subst hx;exact mkB ht hi hz hb h63 hk
section
variable {P:Program} {w:O} {S:O->Prop} {L:Y->Prop}
theorem yA {t n b:Nat} {cs:List Y} (hb:∀ w',S w'->bF w' b cs) (ht:∃ d z by_,P.underlying t=some d/\lZ d=true/\cZ P t z n by_) (hl:cs.length=n) (hk:L (.agg cs.toArray)):aF P S (Instr.loadAt t (.pointer (some ⟨b,0,none⟩))) L:=by
 obtain ⟨d,z,by_,h1,h2,h3⟩:=ht
 exact aF.ok (λw' hw=>nG h1 h2 h3 hl λj hj=>by
  obtain ⟨u,hu⟩:∃ u,cs[j]?=some u:=⟨_,List.getElem?_eq_getElem hj⟩;rw [hu];exact hb w' hw j u hu) hk
variable {K:Y->O->Prop}
theorem DQ {x y:Y} (h:L x):aH (.bool true) x y L:=jL (by simpa using h)
end
end Go.Vc
namespace Go.Vc
open Go.Proofs
section
variable {P:Program} {w:O} {K:Y->O->Prop}
theorem zU {t:TypeId} {z:Y} {n by_:Nat} (hi:cZ P t z n by_) (hk:∀ w1,bO w1 w.heap.size z.cells.toList t->aG w w1->K (.pointer (some ⟨w.heap.size,0,none⟩)) w1):V P (Instr.alloc t true (.tuple #[])) w K:=
 V.ok (WT hi) (hk _ (by unfold bO;rw [heap_alloc_new]) ((aG.refl w).alloc _))
theorem bxK {t:TypeId} {v:Y} (hk:∀ w1,bO w1 w.heap.size v.cells.toList t->aG w w1->K (.pointer (some ⟨w.heap.size,0,none⟩)) w1):V P (Instr.box t v) w K:=
 V.ok bBk (hk _ (by unfold bO;rw [heap_alloc_new]) ((aG.refl w).alloc _))
theorem tH {t n:TypeId} {v:Y} {K':Y->O->Prop} (h:SA P t n) (hn:v.cells.size=n) (h1:v.cells.toList.all bX=true) (hk:∀ w1,bO w1 w.heap.size v.cells.toList t->aG w w1->K' (.pointer (some ⟨w.heap.size,0,none⟩)) w1) :
  V P (Instr.alloc t true (.tuple #[])) w (λp w1=>U P (Instr.storeAt t p v) w1 λ_ w2=>K' p w2):=
 as_ h hn h1 (hk _ (by unfold bO;rw [heap_alloc_new]) ((aG.refl w).alloc _))
theorem bO.boxed {g:Nat} {cs:List Y} {e:TypeId} (h:bO w g cs e):bF w g cs:=λj u hj=>by rw [Nat.zero_add,h.cell];exact hj
structure LF (w:O) (g:Nat) (w':O):Prop where
 ext:∀ a,aG a w->a.heap.size<=g->aG a w'
 same:∀ i,i≠g->w'.heap[i]?=w.heap[i]?
 size:w'.heap.size=w.heap.size
 grown:w.grownBy w' (some g)
theorem LF.other {w w':O} {g g':Nat} {cs:List Y} {e:TypeId} (h:LF w g w') (hne:g'≠g) (hb:bO w g' cs e):bO w' g' cs e:=by
 unfold bO at hb ⊢;rw [h.same g' hne];exact hb
theorem LF.cell {w w':O} {g b o:Nat} (h:LF w g w') (hne:b≠g):w'.cell? ⟨b,o,none⟩=w.cell? ⟨b,o,none⟩:=by
 unfold World.cell?;rw [h.same b hne]
theorem LF.ownRow {w w':O} {g B e sz n:Nat} {v:Y} {xs:List Y} (h:LF w g w') (ho:w.ownsRow B e sz v n xs) (hB:g < B):w'.ownsRow B e sz v n xs:=
 ho.kept h.grown (TP ho λk hk=>by cases hk;exact hB)
theorem LF.own {w w':O} {g B e n:Nat} {v:Y} {xs:List Y} (h:LF w g w') (ho:w.ownsRow B e 1 v n xs) (hB:g < B):aA w' v 1 n xs:=by
 obtain ⟨h1,h2⟩:=aA.of_own ho;refine ⟨h1,?_⟩;rcases h2 with h2|⟨b,off,cap,rfl,h3,h4,h5⟩
 ·exact .inl h2
 ·refine .inr ⟨b,off,cap,rfl,h3,h4,λj u hj=>?_⟩;rw [h.cell]
  ·exact h5 j u hj
  ·have:=(ho.lt b rfl).1;omega
theorem DE {g:Nat} {e:TypeId}:∀ (l done old:List Y) (w:O),l.length=old.length->(∀ u∈l,bX u=true)->bO w g (done++old) e ->
  ∃ w',(storeCells ⟨g,0,none⟩ l done.length).run P w=.ok () w'/\bO w' g (done++l) e/\LF w g w'
 | [],done,[],w,_,_,hb=>⟨w,by simp [storeCells],hb,⟨λ_ h _=>h,λ_ _=>rfl,rfl,⟨rfl,rfl,rfl,Nat.le_refl _,λ_ _ _=>rfl⟩⟩⟩
 | v::l,done,u::old,w,hl,h1,hb=>by
  have hc:=hb.cell done.length;simp only [List.getElem?_append_right (Nat.le_refl _),Nat.sub_self,List.getElem?_cons_zero] at hc;have hs:=wW (P:=P) (h1 v (by simp)) hc (hb.frozen done.length)
  have hb1:bO (w.setCell ⟨g,done.length,none⟩ v) g ((done++[v])++old) e:=by
   have:=hb.set done.length v;rw [List.set_append_right _ _ (Nat.le_refl _)] at this;simpa using this
  obtain ⟨w',h2,h3,h4⟩:=DE l (done++[v]) old _ (by simpa using hl) (λu hu=>h1 u (by simp [hu])) hb1;refine ⟨w',?_,by simpa using h3,⟨λa ha hg=>h4.ext a (ha.setCell hg v) hg,λi hi=>(h4.same i hi).trans (heap_setCell_other _ _ _ _ (λhe=>hi he)),h4.size.trans (by simp),⟨h4.grown.os,h4.grown.tape,h4.grown.output,by have:=h4.grown.size;simpa using this,λk hk hne=>(h4.grown.block k (by simpa using hk) hne).trans (heap_setCell_other _ _ _ _ (λhe=>hne (by simp [he])))⟩⟩⟩;simp only [storeCells,mA,Nat.zero_add,Sem.run_bind];rw [hs,Result.andThen_ok];simpa using h2
theorem wR {t:TypeId} {z v:Y} {n by_ g:Nat} {old l:List Y} {e:TypeId} {K':Y->O->Prop} (hi:cZ P t z n by_) (hb:bO w g old e) (hv:v.cells=l.toArray) (hl:l.length=n) (ho:old.length=n) (h1:l.all bX=true)
  (hk:∀ w',bO w' g l e->LF w g w'->K' undef w'):U P (Instr.storeAt t (.pointer (some ⟨g,0,none⟩)) v) w K':=by
 obtain ⟨w',h2,h3,h4⟩:=DE (P:=P) l [] old w (by omega) (λu hu=>List.all_eq_true.1 h1 u hu) hb;refine U.ok ?_ (hk w' (by simpa using h3) h4);simp only [List.length_nil] at h2;simp [Instr.storeAt,Instr.sureAddr,storeVar,gW hi,hv,hl,h2]
theorem oF {t:TypeId} {d:TypeDesc} {z:Y} {n by_ g:Nat} {l:List Y} {e:TypeId} (ht:P.underlying t=some d) (hd:lZ d=true) (hi:cZ P t z n by_) (hb:bO w g l e) (hl:l.length=n) :
  (loadVar t ⟨g,0,none⟩).run P w=.ok (.agg l.toArray) w:=by
 have:=nG (P:=P) (w:=w) (b:=g) (off:=0) ht hd hi hl λj hj=>by
  obtain ⟨u,hu⟩:∃ u,l[j]?=some u:=⟨_,List.getElem?_eq_getElem hj⟩;rw [hu,Nat.zero_add,hb.cell];exact hu
 simpa [Instr.loadAt,Instr.sureAddr] using this
end
end Go.Vc
namespace Go.Vc
section
variable {P:Program} {w:O} {K:Y->O->Prop} {S:O->Prop} {L:Y->Prop}
theorem vV {t x:TypeId} {v:Y} {n sz:Nat} {cs l:List Y} {k:IntKind} {i:Int} (h:XA P t sz) (ht:∃ d z by_,P.underlying x=some d/\lZ d=true/\cZ P x z sz by_) (hs:aA w v sz n cs) (h0:0<=i) (h1:i < n)
  (hc:(cs.drop (i.toNat*sz)).take sz=l) (hl:l.length=sz) (hk:K (.agg l.toArray) w) :
  V P (Instr.indexAt t v (.int k i)) w λp w1=>V P (Instr.loadAt x p) w1 K:=by
 obtain ⟨e,z,b',hte,hi⟩:=h;obtain ⟨d,z',by_,h2,h3,h4⟩:=ht;obtain ⟨b,off,cap,rfl,hcell⟩:=hs.there (by omega);refine V.ok (jZ hte hi h0 h1) (V.ok (nG h2 h3 h4 hl λj hj=>?_) hk);obtain ⟨u,hu⟩:∃ u,l[j]?=some u:=⟨_,List.getElem?_eq_getElem hj⟩;rw [hu,Nat.add_assoc];refine hcell _ u ?_;rw [<- hc,List.getElem?_take,List.getElem?_drop] at hu;split at hu
 ·exact hu
 ·cases hu
theorem aCj {t:TypeId} {a b:Int} (hk:L (.bool (decide (a < b)))):aF P S (binOp .lss t (.int .i64 a) (.int .i64 b)) L:=aF.ok (λ_ _=>BA) hk
theorem bKj {t:TypeId} {a b:Int} (hk:L (.bool (decide (a>=b)))):aF P S (binOp .geq t (.int .i64 a) (.int .i64 b)) L:=aF.ok (λ_ _=>yH) hk
end
end Go.Vc
namespace Go.Vc
open Go.Proofs
section
variable {P:Program} {w:O} {K:Y->O->Prop} {S:O->Prop} {L:Y->Prop}
theorem mM {t:TypeId} {zs:List Y} (h:BD P t zs) {parts:Array (Nat × Y)} (l:List (Nat × Y)) (hp:parts=l.toArray) (h1:(l.all λx=>decide (x.1 < zs.length)&&bX x.2)=true)
  (hk:L (.agg (l.foldl (λcs x=>cs.set x.1 x.2) zs).toArray)):aF P S (Instr.build t parts) L:=by
 subst hp;obtain ⟨fs,b,hu,hi,hm⟩:=h;refine aF.ok (λw _=>?_) hk;simp only [Instr.build,Sem.run_bind,rM hi,Result.andThen_ok,run_underlying hu,hm,Value.cells];rw [aJj l zs rfl h1];simp
theorem qQ {t:TypeId} (h:MI P t) {v:Y} (hk:L (.iface t v)):aF P S (Instr.makeInterface t v) L:=by
 obtain ⟨d,hu,hd⟩:=h;refine aF.ok (λw _=>?_) hk;cases d<;>first|(simp [Instr.makeInterface,run_underlying hu];done)|cases hd
theorem bDb {t:TypeId} {ts:Array TypeId} {a b:Int}:(Builtin.max_ ts t #[.int .i64 a,.int .i64 b]).run P w=.ok (.int .i64 (if a < b then b else a)) w\/(Builtin.max_ ts t #[.int .i64 a,.int .i64 b]).run P w=.ok (.int .i64 (if b < a then a else b)) w:=by
 simp [Builtin.max_,Builtin.max2]
theorem mx2 {t:TypeId} {ts:Array TypeId} {a b:Int} (hk:∀ c,(c=a\/c=b)->a<=c->b<=c->K (.int .i64 c) w):V P (Builtin.max_ ts t #[.int .i64 a,.int .i64 b]) w K:=by
 rcases bDb (P:=P) (w:=w) (t:=t) (ts:=ts) (a:=a) (b:=b) with h|h
 iterate 2
  ·exact V.ok h (hk _ (by split<;>simp) (by split<;>omega) (by split<;>omega))
theorem aGs {t:TypeId} {ts:Array TypeId} {a b:Int}:(Builtin.min_ ts t #[.int .i64 a,.int .i64 b]).run P w=.ok (.int .i64 (if a < b then a else b)) w\/(Builtin.min_ ts t #[.int .i64 a,.int .i64 b]).run P w=.ok (.int .i64 (if b < a then b else a)) w:=by
 simp [Builtin.min_,Builtin.min2]
theorem mn2 {t:TypeId} {ts:Array TypeId} {a b:Int} (hk:∀ c,(c=a\/c=b)->c<=a->c<=b->K (.int .i64 c) w):V P (Builtin.min_ ts t #[.int .i64 a,.int .i64 b]) w K:=by
 rcases aGs (P:=P) (w:=w) (t:=t) (ts:=ts) (a:=a) (b:=b) with h|h
 iterate 2
  ·exact V.ok h (hk _ (by split<;>simp) (by split<;>omega) (by split<;>omega))
theorem rm {t:TypeId} {a b:Int} (hb:0 < b) (hk:∀ c,c=a.tmod b->-b < c->c < b->K (.int .i64 c) w):V P (binOp .rem t (.int .i64 a) (.int .i64 b)) w K:=by
 have hne:b≠0:=by omega
 have hr:(binOp .rem t (.int .i64 a) (.int .i64 b)).run P w=.ok (.int .i64 (a.tmod b)) w:=by simp [binOp,Op.intDiv,hne]
 exact V.ok hr (hk _ rfl (by have:=Int.lt_tmod_of_pos a hb;simpa using this) (Int.tmod_lt_of_pos a hb))
theorem WS {t e n:TypeId} {z:Y} {by_:Nat} (ht:P.underlying t=some (.array n e)) (hi:cZ P e z 1 by_) {b off:Nat} {i:Int} (h0:0<=i) (h1:i < n) :
  (Instr.indexAt t (.pointer (some ⟨b,off,none⟩)) (.int .i64 i)).run P w=.ok (.pointer (some ⟨b,off+i.toNat,none⟩)) w:=by
 simp [Instr.indexAt,asIntOf,run_underlying ht,Instr.sureAddr,gW hi,h0,h1,mA]
theorem bLd {t e n:TypeId} {z:Y} {by_:Nat} (ht:P.underlying t=some (.array n e)) (hi:cZ P e z 1 by_) (hd:∃ k,P.underlying e=some (.int k)) {cs:Array Y} {i:Int} {u:Y} (h0:0<=i) (h1:i < n) (hu:cs[i.toNat]?=some u) (_:bX u=true) :
  (Instr.index t (.agg cs) (.int .i64 i)).run P w=.ok u w:=by
 obtain ⟨k,hd⟩:=hd;simp [Instr.index,asIntOf,run_underlying ht,gW hi,h0,h1,part,vJ hd,lZ,hu]
theorem bNg {t e:TypeId} {z:Y} {by_:Nat} (ht:P.underlying t=some (.slice e)) (hi:cZ P e z 1 by_) {a:Option Addr} {n c k:Nat} (hk:k<=c) :
  (Instr.sliceAt t (.slice a n c) none (some (.int .i64 (k:Int))) none).run P w=.ok (.slice (if c=0 then a else a.map (·.add 0)) k c) w:=by
 have h0:(0:Int)<=k/\(k:Int)<=c:=⟨by omega,by omega⟩;simp [Instr.sliceAt,Instr.slice,run_underlying ht,gW hi,Instr.sliceBounds,Instr.sliceBound,asIntOf,h0];intro h;omega
end
end Go.Vc
namespace Go.Vc
section
variable {P:Program} {w:O}
theorem thK {u x:TypeId} {v:Y} {K:Y->Y->O->Prop} (h:TA P u) (hK:K (.bool true) v w) :
  V P (Instr.typeAssert (.iface u v) x u true) w λt1 w1=>V P (Instr.extract t1 1) w1 λt2 w2=>V P (Instr.extract t1 0) w2 λt3 w3=>K t2 t3 w3:=by
 obtain ⟨z,hz,_⟩:=h;refine V.ok (hz w x u v) ?_;rw [if_pos rfl];exact V.ok nP (V.ok nQ hK)
theorem tmK {u t x:TypeId} {v:Y} {K:Y->Y->O->Prop} (h:TA P u) (hne:t≠u) (hK:∀ z,K (.bool false) z w) :
  V P (Instr.typeAssert (.iface t v) x u true) w λt1 w1=>V P (Instr.extract t1 1) w1 λt2 w2=>V P (Instr.extract t1 0) w2 λt3 w3=>K t2 t3 w3:=by
 obtain ⟨z,hz,_⟩:=h;refine V.ok (hz w x t v) ?_;rw [if_neg hne];exact V.ok nP (V.ok nQ (hK _))
end
structure Fr (S:Nat->Prop) (w w':O):Prop where
 os:w'.os=w.os
 tape:w'.tape=w.tape
 output:w'.output=w.output
 size:w.heap.size<=w'.heap.size
 block:∀ i,i < w.heap.size->¬ S i->w'.heap[i]?=w.heap[i]?
theorem Fr.refl (S:Nat->Prop) (w:O):Fr S w w:=⟨rfl,rfl,rfl,Nat.le_refl _,λ_ _ _=>rfl⟩
theorem Fr.trans {S T:Nat->Prop} {a b c:O} (h:Fr S a b) (k:Fr T b c) (hT:∀ i,i < a.heap.size->T i->S i):Fr S a c:=
 ⟨k.os.trans h.os,k.tape.trans h.tape,k.output.trans h.output,Nat.le_trans h.size k.size,λi hi hn=>(k.block i (Nat.lt_of_lt_of_le hi h.size) λht=>hn (hT i hi ht)).trans (h.block i hi hn)⟩
theorem Fr.or {S T:Nat->Prop} {a b c:O} (h:Fr S a b) (k:Fr T b c):Fr (λi=>S i\/T i) a c:=
 ⟨k.os.trans h.os,k.tape.trans h.tape,k.output.trans h.output,Nat.le_trans h.size k.size,λi hi hn=>(k.block i (Nat.lt_of_lt_of_le hi h.size) λht=>hn (.inr ht)).trans (h.block i hi λhs=>hn (.inl hs))⟩
theorem Fr.mono {S T:Nat->Prop} {a b:O} (h:Fr S a b) (hT:∀ i,S i->T i):Fr T a b:=⟨h.os,h.tape,h.output,h.size,λi hi hn=>h.block i hi λhs=>hn (hT i hs)⟩
theorem Fr.of_ext {S:Nat->Prop} {w w':O} (h:aG w w'):Fr S w w':=⟨h.os,h.tape,h.output,h.size,λi hi _=>h.block i hi (by simp)⟩
theorem Fr.of_grown {S:Nat->Prop} {w w':O} {row:Option Nat} (h:w.grownBy w' row) (hr:∀ k,row=some k->S k):Fr S w w':=⟨h.os,h.tape,h.output,h.size,λi hi hn=>h.block i hi λhe=>hn (hr i he.symm)⟩
theorem Fr.of_set {S:Nat->Prop} {w:O} {b o:Nat} {v:Y} (hb:S b):Fr S w (w.setCell ⟨b,o,none⟩ v):=⟨rfl,rfl,rfl,by simp,λi _ hn=>heap_setCell_other _ _ _ _ (λhe=>hn (by simp [he];exact hb))⟩
theorem Fr.set {S:Nat->Prop} {w w':O} (h:Fr S w w') {b o:Nat} {v:Y} (hb:S b):Fr S w (w'.setCell ⟨b,o,none⟩ v):=h.trans (Fr.of_set (S:=S) hb) λ_ _ h=>h
theorem Fr.ext {S:Nat->Prop} {w0 w w':O} (h:Fr S w w') (hx:aG w0 w) (hS:∀ i,S i->w0.heap.size<=i):aG w0 w':=
 ⟨h.os.trans hx.os,h.tape.trans hx.tape,h.output.trans hx.output,Nat.le_trans hx.size h.size,λi hi hn=>(h.block i (Nat.lt_of_lt_of_le hi hx.size) λhs=>by have:=hS i hs;omega).trans (hx.block i hi hn)⟩
theorem Fr.blk {S:Nat->Prop} {w w':O} {g:Nat} {cs:List Y} {e:TypeId} (h:Fr S w w') (hb:bO w g cs e) (hn:¬ S g):bO w' g cs e:=by
 unfold bO;rw [h.block g hb.lt hn];exact hb
theorem Fr.own {S:Nat->Prop} {w w':O} {B e sz n:Nat} {v:Y} {xs:List Y} (h:Fr S w w') (ho:w.ownsRow B e sz v n xs) (hn:∀ k,v.ownBlock=some k->¬ S k):w'.ownsRow B e sz v n xs:=by
 refine ⟨ho.1,?_⟩;rcases ho.2 with h1|⟨g,cap,cur,rfl,hb,hg,rest⟩
 ·exact .inl h1
 ·refine .inr ⟨g,cap,cur,rfl,hb,?_,rest⟩;rw [h.block g (Array.getElem?_eq_some_iff.1 hg).1 (hn g rfl)];exact hg
theorem apL {P:Program} {w:O} {K:Y->O->Prop} {t e by_ ty:Nat} (h:XE P t e by_) {B B':Nat} {v:Y} {n:Nat} {xs:List Y} (ho:w.ownsRow B e 1 v n xs) {x:Y} {m:Nat} {news:List Y} (hs:w.ownsRow B' e 1 x m news) (hm:0 < m) (h1:news.all bX=true)
  (hb:(n+m)*by_<=140737488355328) (h63:n+m<=maxLen) (hB:B<=w.heap.size)
  (hk:∀ g cap w',w'.ownsRow B e 1 (.slice (some ⟨g,0,none⟩) (n+m) cap) (n+m) (xs++news)->w.grownBy w' v.ownBlock->(v.ownBlock=some g\/g=w.heap.size)->K (.slice (some ⟨g,0,none⟩) (n+m) cap) w') :
  V P (Builtin.append_ #[t,t] ty #[v,x]) w K:=by
 obtain ⟨z,ht,hi,hz⟩:=h;obtain ⟨i,hi',hz',hn,hby⟩:=info_parts hi;have hs0:=hs;rcases hs.2 with ⟨_,h0⟩|⟨b,cap,cur,rfl,_⟩
 ·omega
 ·obtain ⟨g,cap,w',hr,h2,h3,h4,h5⟩:=run_append_lies (P:=P) (w:=w) t ty B e i z 1 by_ ht hi' hz' hn hby (by simpa using hz) (by omega) v n xs ho ⟨b,0,none⟩ m cap news (by have:=hs.1;simpa using this) (hs0.cells rfl) (λu hu=>by rw [CB];exact List.all_eq_true.1 h1 u hu) hm h63 hb hB _ rfl;exact V.ok hr (hk g cap w' h2 h3 h4)
theorem fnK {P:Program} {w:O} {K:Y->O->Prop} {f:Fn} {a c:Array Y} (h:K (.func f a c) w):V P (Instr.makeFunc f a c) w K:=V.ok (by simp [Instr.makeFunc]) h
theorem ldV {P:Program} {w:O} {K:Y->O->Prop} {t b:Nat} {v:Y} {e:TypeId} (hl:L1 P t) (hb:bO w b [v] e) (hk:K v w):V P (Instr.loadAt t (.pointer (some ⟨b,0,none⟩))) w K:=by
 obtain ⟨d,hd,ha⟩:=hl;exact V.ok (jN hd ha (by rw [hb.cell];rfl)) hk
theorem FZ {P:Program} {w:O} {K:O->Prop} {s f o ft b n by_:Nat} {z u:Y} {cs:List Y} {e:TypeId} (hf:FA P s f o) (hi:cZ P ft z 1 by_) (hb:bO w b cs e) (hn:cs.length=n) (ho:o < n) (hu:bX u=true) (hk:K (w.setCell ⟨b,o,none⟩ u)) :
  V P (Instr.fieldAt s (.pointer (some ⟨b,0,none⟩)) f) w λq w1=>U P (Instr.storeAt ft q u) w1 λ_ w2=>K w2:=by
 refine V.ok (hf.ex w b 0) ?_;have hc:=hb.cell o;rw [List.getElem?_eq_getElem (by omega)] at hc;rw [Nat.zero_add];exact U.ok (nF hi hu hc (hb.frozen _)) hk
theorem LM {P:Program} {w:O} {x:TypeId} {z:Y} {by_:Nat} (hx:cZ P x z 1 by_) {g e i:Nat} {cs:List Y} (hb:bO w g cs e) (h1:i < cs.length) {u:Y} (hu:bX u=true) {K':O->Prop}
  (hk:K' (w.setCell ⟨g,i,none⟩ u)):U P (Instr.storeAt x (.pointer (some ⟨g,0+i*1,none⟩)) u) w λ_ w2=>K' w2:=by
 have hc:=hb.cell i;rw [List.getElem?_eq_getElem h1] at hc;simp only [Nat.zero_add,Nat.mul_one];exact U.ok (nF hx hu hc (hb.frozen _)) hk
theorem rY.mono {P:Program} {w:O} {f:Y} {args:Array Y} {R K:Y->O->Prop} (h:rY P f args w R) (hk:∀ v w',R v w'->K v w'):rY P f args w K:=by
 obtain ⟨g,cap,h1,h2⟩:=h;exact ⟨g,cap,h1,h2.mono hk⟩
theorem bCu {P:Program} {w:O} {K:O->Prop} {ft b o n by_:Nat} {z u:Y} {cs:List Y} {e:TypeId} (hi:cZ P ft z 1 by_) (hb:bO w b cs e) (hn:cs.length=n) (ho:o < n) (hu:bX u=true) (hk:K (w.setCell ⟨b,o,none⟩ u)) :
  U P (Instr.storeAt ft (.pointer (some ⟨b,0+o,none⟩)) u) w λ_ w2=>K w2:=by
 have hc:=hb.cell o;rw [List.getElem?_eq_getElem (by omega)] at hc;rw [Nat.zero_add];exact U.ok (nF hi hu hc (hb.frozen _)) hk
section
variable {P:Program} {w:O}
theorem stY {x:TypeId} {z:Y} {by_:Nat} (hx:cZ P x z 1 by_) {B e n g c:Nat} {xs:List Y} (ho:w.ownsRow B e 1 (.slice (some ⟨g,0,none⟩) n c) n xs) {i:Nat} (h1:i < n) {u:Y} (hu:bX u=true) {K':O->Prop}
  (hk:∀ w',w'.ownsRow B e 1 (.slice (some ⟨g,0,none⟩) n c) n (xs.set i u)->w.grownBy w' (some g)->K' w') :
  U P (Instr.storeAt x (.pointer (some ⟨g,0+i*1,none⟩)) u) w λ_ w2=>K' w2:=by
 obtain ⟨s1,s2⟩:=ho.stored i u;have hc:=ho.cellAt i (by omega);have hlt:i < xs.length:=by have:=ho.1;omega
 rw [List.getElem?_eq_getElem hlt] at hc;simp only [Nat.zero_add,Nat.mul_one];exact U.ok (nF hx hu hc (ho.frozenAt _)) (hk _ s1 s2)
end
end Go.Vc
namespace Go.Vc
open Go.Proofs
abbrev u8 (b:Int):Y:=.int .u8 b
section
variable {P:Program} {w:O} {K:Y->O->Prop} {S:O->Prop} {L:Y->Prop}
def bMo (w:O) (v:Y) (l:List Int):Prop:=aA w v 1 l.length (l.map u8)
theorem aCz {t e:TypeId} {z:Y} {by_:Nat} (ht:P.underlying t=some (.slice e)) (hi:cZ P e z 1 by_) {v:Y} {n:Nat} {cs:List Y} (h:aA w v 1 n cs) {lo hi':Option Y} {a b:Nat} (ha:(lo=none/\a=0)\/lo=some (.int .i64 a)) (hb:(hi'=none/\b=n)\/hi'=some (.int .i64 b)) (hab:a<=b) (hbn:b<=n) :
  ∃ v',(∀ w',(Instr.sliceAt t v lo hi' none).run P w'=.ok v' w')/\∀ w2,aA w2 v 1 n cs->aA w2 v' 1 (b - a) ((cs.drop a).take (b - a)):=by
 have hcl:cs.length=n:=by have:=h.1;omega
 rcases h.2 with ⟨rfl,h0⟩|⟨g,off,cap,rfl,h1,h2,_⟩
 ·have ea:a=0:=by omega
  have eb:b=0:=by omega
  subst ea eb;refine ⟨.slice none 0 0,λw'=>?_,λw2 _=>?_⟩
  ·rcases ha with ⟨rfl,_⟩|rfl<;>rcases hb with ⟨rfl,_⟩|rfl<;>simp [Instr.sliceAt,Instr.slice,run_underlying ht,gW hi,Instr.sliceBounds,Instr.sliceBound,asIntOf]
  ·simp;exact aA.nil w2 1
 ·have hb1:(0:Int)<=b/\(b:Int)<=cap:=⟨by omega,by omega⟩;have ha1:(0:Int)<=a/\(a:Int)<=b:=⟨by omega,by omega⟩;have hbc:b<=cap:=by omega
  refine ⟨.slice (if cap=a then some ⟨g,off,none⟩ else (some (⟨g,off,none⟩:Addr)).map (·.add (a*1))) (b - a) (cap - a),λw'=>?_,λw2 hw2=>?_⟩
  ·rcases ha with ⟨rfl,rfl⟩|rfl<;>rcases hb with ⟨rfl,rfl⟩|rfl<;>simp [Instr.sliceAt,Instr.slice,run_underlying ht,gW hi,Instr.sliceBounds,Instr.sliceBound,asIntOf,hab,hbc]
  ·refine ⟨by simp;omega,.inr ?_⟩;by_cases hca:cap=a
   ·rw [if_pos hca]
    exact ⟨g,off,cap - a,rfl,by omega,by omega,λj u hj=>by
     have:=(List.getElem?_eq_some_iff.1 hj).1;simp at this;omega⟩
   ·rw [if_neg hca];rcases hw2.2 with ⟨he,_⟩|⟨g',off',cap',he,_,_,h3⟩
    ·cases he
    ·cases he;refine ⟨g,off+a,cap - a,by simp [mA],by omega,by omega,λj u hj=>?_⟩;rw [List.getElem?_take] at hj;split at hj
     ·rw [List.getElem?_drop] at hj;have:=h3 _ _ hj;rw [Nat.add_assoc];exact this
     ·cases hj
theorem WQ {s:TypeId} {x y:Operand} {a b:ByteArray} :
  (do eqGuard .eql s x y (.string a) (.string b);binOp .eql s (.string a) (.string b)).run P w=.ok (.bool (a.toList == b.toList)) w:=by
 simp [eqGuard,binOp,Op.stringOp]
end
end Go.Vc
namespace Go.Proofs.YtjcmcfidblhnnaaGreatDoor
open Tryz
open Go.Vc
inductive aD where
 | const (dst n:Int)
 | move (dst src:Int)
 | bin (op dst a b:Int)
 | un (op dst a:Int)
 | choose (dst c a b:Int)
 | tick
 | goto (to:Int)
 | branch (cond to:Int)
 | getField (dst f:Int)
 | putField (f src:Int)
 | serve (op a b dst:Int) (args:List Int)
 | call (m dst:Int) (args:List Int)
 | callX (i dst:Int) (args:List Int)
 | ret (src:Int)
def aD.val (sv:Y):aD->Y
 | .const d n=>.iface 90 (.agg #[i64 d,i32 n])
 | .move d s=>.iface 107 (.agg #[i64 d,i64 s])
 | .bin op d a b=>.iface 109 (.agg #[i64 op,i64 d,i64 a,i64 b])
 | .un op d a=>.iface 111 (.agg #[i64 op,i64 d,i64 a])
 | .choose d c a b=>.iface 113 (.agg #[i64 d,i64 c,i64 a,i64 b])
 | .tick=>.iface 40 (.agg #[])
 | .goto t=>.iface 115 (.agg #[i64 t])
 | .branch c t=>.iface 117 (.agg #[i64 c,i64 t])
 | .getField d f=>.iface 119 (.agg #[i64 d,i64 f])
 | .putField f s=>.iface 121 (.agg #[i64 f,i64 s])
 | .serve op a b d _=>.iface 123 (.agg #[i64 op,i64 a,i64 b,i64 d,sv])
 | .call m d _=>.iface 125 (.agg #[i64 m,i64 d,sv])
 | .callX i d _=>.iface 127 (.agg #[i64 i,i64 d,sv])
 | .ret s=>.iface 129 (.agg #[i64 s])
def aD.args:aD->List Int
 | .serve _ _ _ _ l|.call _ _ l|.callX _ _ l=>l
 | _=>[]
def aD.df:aD->Int
 | .const d _|.move d _|.bin _ d _ _|.un _ d _|.choose d _ _ _|.getField d _|.serve _ _ _ d _|.call _ d _|.callX _ d _=>d
 | _=>-1
def aD.us:aD->List Int
 | .move _ s=>[s]
 | .bin _ _ a b=>[a,b]
 | .un _ _ a=>[a]
 | .choose _ c a b=>[c,a,b]
 | .branch c _=>[c]
 | .putField _ s=>[s]
 | .serve _ _ _ _ l|.call _ _ l|.callX _ _ l=>l
 | .ret s=>if s=-1 then [] else [s]
 | _=>[]
def aD.nx (n:aD) (k:Int):List Int:=
 match n with
 | .goto t=>[t]
 | .branch _ t=>if t=k+1 then [k+1] else [k+1,t]
 | .ret _=>[]
 | _=>[k+1]
def aO (w:O) (v:Y) (l:List Int):Prop:=aA w v 1 l.length (l.map i64)
def gO (w:O) (v:Y) (l:List Bool):Prop:=aA w v 1 l.length (l.map .bool)
def iO (w:O) (v:Y) (n:aD):Prop:=∃ sv,v=n.val sv/\aO w sv n.args
theorem iO.ext {w w':O} {v:Y} {n:aD} (h:iO w v n) (hx:aG w w'):iO w' v n:=by
 obtain ⟨sv,h1,h2⟩:=h;exact ⟨sv,h1,h2.ext hx⟩
structure fU where
 params:Int
 regs:Int
 nodes:List aD
def sC (w:O) (v:Y) (l:List aD):Prop:=∃ vs,aA w v 1 l.length vs/\∀ (i:Nat) n,l[i]?=some n->∃ u,vs[i]?=some u/\iO w u n
theorem sC.ext {w w':O} {v:Y} {l:List aD} (h:sC w v l) (hx:aG w w'):sC w' v l:=by
 obtain ⟨vs,h1,h2⟩:=h;refine ⟨vs,h1.ext hx,λi n hi=>?_⟩;obtain ⟨u,h3,h4⟩:=h2 i n hi;exact ⟨u,h3,h4.ext hx⟩
def pW (w:O) (v:Y) (p:fU):Prop:=∃ ns,v=.agg #[i64 p.params,i64 p.regs,ns]/\sC w ns p.nodes/\∀ n∈p.nodes,n.args.length<=4294967296
theorem pW.ext {w w':O} {v:Y} {p:fU} (h:pW w v p) (hx:aG w w'):pW w' v p:=by
 obtain ⟨ns,h1,h2,h3⟩:=h;exact ⟨ns,h1,h2.ext hx,h3⟩
theorem aFm (n:aD):n.us.length<=n.args.length+3:=by
 cases n<;>simp [aD.us,aD.args];split<;>simp
theorem aHk (n:aD) (k:Int):(n.nx k).length<=2:=by
 cases n<;>simp [aD.nx];split<;>simp
theorem aO.ext {w w':O} {v:Y} {l:List Int} (h:aO w v l) (hx:aG w w'):aO w' v l:=aA.ext h hx
theorem gO.ext {w w':O} {v:Y} {l:List Bool} (h:gO w v l) (hx:aG w w'):gO w' v l:=aA.ext h hx
theorem cM {l:List Int} {j:Nat} {u:Int} (h:l[j]?=some u):(l.map i64)[(j:Int).toNat]?=some (i64 u):=by simp [h]
theorem NQ {l:List Bool} {j:Nat} {u:Bool} (h:l[j]?=some u):(l.map Value.bool)[(j:Int).toNat]?=some (.bool u):=by simp [h]
theorem bI {α:Type} {l:List α} {j:Nat} (h:j < l.length):∃ u,l[j]?=some u:=⟨_,List.getElem?_eq_getElem h⟩
theorem bK (j:Nat):Value.int .i64 ((j:Int)+1)=i64 ((j+1:Nat):Int):=by simp
theorem jS {P:Program} {w:O} {K:Y->O->Prop} {t:TypeId} {j:Nat} (h:-9223372036854775808<=(j:Int)+1/\(j:Int)+1<=9223372036854775807) (hk:K (i64 ((j+1:Nat):Int)) w):V P (binOp .add t (i64 j) (i64 1)) w K:=by
  refine bJ.2 ?_;rw [aQ h,bK];exact hk
theorem aK (n:Int):RowKit.intOf (i64 n)=n:=rfl
end Go.Proofs.YtjcmcfidblhnnaaGreatDoor
namespace Go.Tc
structure lT where
 op:Int
 a:Int
 b:Int
structure jR where
 params:List Int
 result:Int
 locals:List Int
 code:List lT
structure IM where
 name:ByteArray
 exp:Int
 params:List Int
 result:Int
structure iA where
 name:ByteArray
 fields:List Int
 imports:List IM
 methods:List jR
 exports:List Int
def jR.none:jR:=⟨[],0,[],[]⟩
def IM.none:IM:=⟨ByteArray.empty,0,[],0⟩
def lT.none:lT:=⟨0,0,0⟩
def jR.locs (m:jR):List Int:=m.params++m.locals
def iA.meth (i:iA) (k:Int):jR:=i.methods.getD k.toNat jR.none
def iA.imp (i:iA) (k:Int):IM:=i.imports.getD k.toNat IM.none
def jR.ins (m:jR) (pc:Nat):lT:=m.code.getD pc lT.none
def eF (k:Int):Bool:=k == 1||k == 2
def fZ (k:Int):Bool:=k == 3||k == 4
def rZ (a b:Int):Int:=if a=2\/b=2 then 2 else 1
def ofK (a:Int):Int:=if a=3 then 1 else if a=4 then 2 else 0
def BH (a b:Int):Option Int:=if eF a&&eF b then some (rZ a b) else if fZ a&&a == b then some a else none
def mO:List Int->List Int->Option (List Int)
 | [],[]=>some []
 | a::l,b::m=>(BH a b).bind λk=>(mO l m).map (k::·)
 | _,_=>none
def Kd (k:Int):Prop:=1<=k/\k<=4
instance (k:Int):Decidable (Kd k):=by unfold Kd;exact inferInstance
def sY (l:List Int):Prop:=∀ k∈l,Kd k
def lim (op:Int):Int × Int:=
 if op=1 then (-2147483648,2147483647) else if op=2\/op=3 then (0,9) else if op=23\/op=24 then (0,119)
 else if op=25\/op=27 then (3,4) else if op=33\/op=34 then (0,7) else if op=35\/op=36 then (1,2)
 else if op=37 then (0,7) else if op=38 then (0,3) else (0,0)
def lT.right (x:lT):Prop:=(1<=x.op/\x.op<=39)/\(lim x.op).1<=x.a/\x.a<=(lim x.op).2/\(if x.op=27 then (0<=x.b/\x.b<=2)\/(4<=x.b/\x.b<=6) else x.b=0)
def sV (l:List Int) (most:Int):Prop:=sY l/\(l.length:Int)<=most
def IM.right (x:IM):Prop:=(0<=x.exp/\x.exp < 4)/\sV x.params 4/\(0<=x.result/\x.result<=4)
def jR.right (m:jR):Prop:=sV m.params 4/\(0<=m.result/\m.result<=4)/\sV m.locals (10 - m.params.length)/\(1<=m.code.length/\m.code.length<=120)/\∀ x∈m.code,x.right
def iA.right (i:iA):Prop:=sV i.fields 8/\(i.imports.length<=4/\∀ x∈i.imports,x.right)/\((1<=i.methods.length/\i.methods.length<=8)/\(∀ m∈i.methods,m.right)/\(i.meth 0).params=[]/\(i.meth 0).result=0) /\
 i.exports.length<=4/\∀ n∈i.exports,0<=n/\n < (i.methods.length:Int)
def fL (i:iA) (m:jR) (x:lT):Prop:=
 if x.op=2\/x.op=3 then x.a < (m.locs.length:Int) else if x.op=33\/x.op=34 then x.a < (i.fields.length:Int)
 else if x.op=37 then x.a < (i.methods.length:Int) else if x.op=38 then x.a < (i.imports.length:Int)
 else if x.op=23\/x.op=24 then x.a < (m.code.length:Int) else True
def kU (op:Int):Prop:=(6<=op/\op<=14)\/(19<=op/\op<=21)
instance (op:Int):Decidable (kU op):=by unfold kU;exact inferInstance
def mC (r:Int):List Int:=if r=0 then [] else [r]
def aY (i:iA) (m:jR) (x:lT):List Int:=
 if x.op=3 then [m.locs.getD x.a.toNat 0]
 else if x.op=34 then [i.fields.getD x.a.toNat 0]
 else if x.op=4\/x.op=5 then [-1]
 else if x.op=15\/x.op=16 then [-2]
 else if kU x.op then [-2,-2]
 else if x.op=17\/x.op=18 then [-3,-3]
 else if x.op=22 then [-2,-1,-1]
 else if x.op=24\/x.op=27 then [-3]
 else if x.op=26\/x.op=28 then [-4]
 else if x.op=29 then [-4,-3]
 else if x.op=30 then [-4,-3,-2]
 else if x.op=31\/x.op=32 then [-4,-3,-4,-3,-3]
 else if x.op=36 then [-4,-3,-3]
 else if x.op=37 then (i.meth x.a).params
 else if x.op=38 then (i.imp x.a).params
 else if x.op=39 then mC m.result
 else []
def uI (k a:Int):Bool:=if a=-1 then true else if a=-2\/a=-3 then eF k else if a=-4 then fZ k else eF k&&eF a||k == a
def wS (k a:Int):Bool:=(a == -3||a == 1)&&k == 2
def kD:List Int->List Int->Bool
 | a::t,k::l=>uI k a&&kD t l
 | _,_=>true
def gP:List Int->List Int->Bool
 | a::t,k::l=>wS k a||gP t l
 | _,_=>false
def cN (l:List Int) (n:Nat):Int:=l.getD n 0
def mY (x:lT) (t l:List Int):Bool:=
 kD t l&&(if x.op=22 then eF (cN l 1)&&eF (cN l 2)||fZ (cN l 1)&&cN l 1 == cN l 2 else true)
def kO (x:lT) (t l:List Int):Bool:=
 if x.op=22 then fZ (cN l 1)&&cN l 0 == 2
 else if x.op=30 then gP t l||(cN l 0 == 3&&cN l 2 == 2)
 else if x.op=31 then gP t l||(cN l 0 == 3&&cN l 2 == 4)
 else if x.op=36 then gP t l||(x.a == 1&&cN l 0 == 4)
 else gP t l
def BB (l:List Int):Int:=if fZ (cN l 1) then cN l 1 else rZ (cN l 0) (rZ (cN l 1) (cN l 2))
def jJ (i:iA) (m:jR) (x:lT) (l:List Int):List Int:=
 if x.op=1\/x.op=17\/x.op=18\/x.op=26\/x.op=28 then [1]
 else if x.op=2 then [m.locs.getD x.a.toNat 0]
 else if x.op=33 then [i.fields.getD x.a.toNat 0]
 else if x.op=5 then [cN l 0,cN l 0]
 else if kU x.op then [rZ (cN l 0) (cN l 1)]
 else if x.op=15\/x.op=16 then [cN l 0]
 else if x.op=22 then [BB l]
 else if x.op=25\/x.op=27 then [x.a]
 else if x.op=29 then [ofK (cN l 0)]
 else if x.op=32 then (if cN l 0=4\/cN l 2=4 then [2] else [1])
 else if x.op=35 then [3+x.a - 1]
 else if x.op=37 then mC (i.meth x.a).result
 else if x.op=38 then mC (i.imp x.a).result
 else []
def hgt (i:iA) (m:jR) (x:lT):Nat:=(jJ i m x (List.replicate 8 0)).length
theorem KE (i:iA) (m:jR) (x:lT) (l:List Int):(jJ i m x l).length=hgt i m x:=by
 unfold hgt jJ;simp only [apply_ite List.length,List.length_cons,List.length_nil,ite_self]
def CG (i:iA) (m:jR) (x:lT) (s:List Int):Option (List Int):=
 let t:=aY i m x
 if s.length < t.length\/8 < s.length - t.length+hgt i m x then none
 else
  let l:=s.drop (s.length - t.length)
  if mY x t l=true/\kO x t l=false then some (s.take (s.length - t.length)++jJ i m x l) else none
def fN (x:lT) (pc:Nat):List Int:=
 if x.op=23 then [x.a] else if x.op=24 then [(pc:Int)+1,x.a] else if x.op=39 then [] else [(pc:Int)+1]
structure St where
 st:List (List Int)
 has:List Bool
 todo:List Bool
def St.ini (n:Nat):St:=⟨List.replicate n [],List.replicate n false,List.replicate n false⟩
def St.h (s:St) (k:Nat):Bool:=s.has.getD k false
def St.t (s:St) (k:Nat):Bool:=s.todo.getD k false
def St.s (s:St) (k:Nat):List Int:=s.st.getD k []
def nM (n:Nat) (s:St) (to:Int) (stack:List Int):Option St:=
 if (n:Int)<=to then none
 else if s.h to.toNat then
  (mO (s.s to.toNat) stack).bind λj=>if j=s.s to.toNat then some s else some { s with st:=s.st.set to.toNat j,todo:=s.todo.set to.toNat true }
 else some ⟨s.st.set to.toNat stack,s.has.set to.toNat true,s.todo.set to.toNat true⟩
def lX (n:Nat) (stack:List Int):List Int->St->Option St
 | [],s=>some s
 | to::l,s=>(nM n s to stack).bind (lX n stack l)
def uP (i:iA) (m:jR) (s:St) (pc:Nat):Option St:=
 (CG i m (m.ins pc) (s.s pc)).bind λstack=>lX m.code.length stack (fN (m.ins pc) pc) { s with todo:=s.todo.set pc false }
def nS:List Bool->Option Nat
 | []=>none
 | true::_=>some 0
 | false::l=>(nS l).map (·+1)
inductive oO (i:iA) (m:jR):St->Option St->Prop
 | done {s:St}:nS s.todo=none->oO i m s (some s)
 | fail {s:St} {pc:Nat}:nS s.todo=some pc->uP i m s pc=none->oO i m s none
 | go {s s':St} {pc:Nat} {r:Option St}:nS s.todo=some pc->uP i m s pc=some s'->oO i m s' r->oO i m s r
theorem oO.det {i:iA} {m:jR} {s:St} {r r':Option St} (h:oO i m s r) (h':oO i m s r'):r=r':=by
 induction h generalizing r' with
 | done h1=>cases h' with
  | done _=>rfl
  | fail h2 _=>rw [h1] at h2;cases h2
  | go h2 _ _=>rw [h1] at h2;cases h2
 | fail h1 h2=>cases h' with
  | done h3=>rw [h1] at h3;cases h3
  | fail _ _=>rfl
  | go h3 h4 _=>rw [h1] at h3;cases h3;rw [h2] at h4;cases h4
 | go h1 h2 _ ih=>cases h' with
  | done h3=>rw [h1] at h3;cases h3
  | fail h3 h4=>rw [h1] at h3;cases h3;rw [h2] at h4;cases h4
  | go h3 h4 h5=>rw [h1] at h3;cases h3;rw [h2] at h4;cases h4;exact ih h5
def St.first (n:Nat):St:=⟨(List.replicate n []).set 0 [],(List.replicate n false).set 0 true,(List.replicate n false).set 0 true⟩
def qO (i:iA) (m:jR) (r:Option St):Prop:=((∃ x∈m.code,¬ fL i m x)/\r=none)\/((∀ x∈m.code,fL i m x)/\oO i m (St.first m.code.length) r)
theorem qO.det {i:iA} {m:jR} {r r':Option St} (h:qO i m r) (h':qO i m r'):r=r':=by
 rcases h with ⟨⟨x,h1,h2⟩,rfl⟩|⟨h1,h2⟩
 ·rcases h' with ⟨_,rfl⟩|⟨h3,_⟩
  ·rfl
  ·exact absurd (h3 x h1) h2
 ·rcases h' with ⟨⟨x,h3,h4⟩,rfl⟩|⟨_,h4⟩
  ·exact absurd (h1 x h3) h4
  ·exact h2.det h4
def mE (i:iA):Prop:=i.right/\∀ m∈i.methods,∃ s,qO i m (some s)
theorem lK {α:Type} (l:List α) (k j:Nat) (v d:α):(l.set k v).getD j d=if j=k/\k < l.length then v else l.getD j d:=by
 simp only [List.getD_eq_getElem?_getD,List.getElem?_set];by_cases h:k=j
 ·subst h;by_cases hk:k < l.length
  iterate 2
   ·simp [hk]
 ·have:¬ j=k:=λe=>h e.symm;simp [h,this]
theorem tZ {l:List Bool} {k:Nat} (h:l.getD k false=true):k < l.length:=by
 by_cases hk:k < l.length
 ·exact hk
 ·rw [List.getD_eq_getElem?_getD,List.getElem?_eq_none (by omega)] at h;cases h
theorem sL:∀ {l:List Bool} {k:Nat},nS l=some k->l.getD k false=true/\∀ j,j < k->l.getD j false=false
 | [],_,h=>by cases h
 | true::_,k,h=>by cases h;exact ⟨rfl,λj hj=>absurd hj (Nat.not_lt_zero _)⟩
 | false::l,k,h=>by
  simp only [nS,Option.map_eq_some_iff] at h;obtain ⟨q,hq,rfl⟩:=h;obtain ⟨h1,h2⟩:=sL hq;refine ⟨h1,λj hj=>?_⟩;cases j with
  | zero=>rfl
  | succ j=>exact h2 j (by omega)
theorem BN:∀ {l:List Bool},nS l=none->∀ j,l.getD j false=false
 | [],_,j=>rfl
 | true::_,h,_=>by cases h
 | false::l,h,j=>by
  simp only [nS,Option.map_eq_none_iff] at h;cases j with
  | zero=>rfl
  | succ j=>exact BN h j
theorem AL:∀ {l:List Bool} {k:Nat},l.getD k false=true->(∀ j,j < k->l.getD j false=false)->nS l=some k
 | [],k,h,_=>by cases h
 | true::l,k,h,h2=>by
  cases k with
  | zero=>rfl
  | succ k=>have:=h2 0 (by omega);cases this
 | false::l,k,h,h2=>by
  cases k with
  | zero=>cases h
  | succ k=>
   have:=AL (l:=l) (k:=k) h λj hj=>h2 (j+1) (by omega);simp [nS,this]
theorem xI:∀ {l:List Bool},(∀ j,j < l.length->l.getD j false=false)->nS l=none
 | [],_=>rfl
 | true::l,h=>by have:=h 0 (by simp);cases this
 | false::l,h=>by
  have:=xI (l:=l) λj hj=>h (j+1) (by simpa using hj);simp [nS,this]
theorem aIm {a b k:Int} (ha:Kd a) (hb:Kd b) (h:BH a b=some k):Kd k/\(k=a\/(a=1/\k=2)):=by
 obtain ⟨a1,a2⟩:=ha;obtain ⟨b1,b2⟩:=hb;have ea:a=1\/a=2\/a=3\/a=4:=by omega
 have eb:b=1\/b=2\/b=3\/b=4:=by omega
 unfold Kd;rcases ea with rfl|rfl|rfl|rfl<;>rcases eb with rfl|rfl|rfl|rfl<;>simp [BH,eF,fZ,rZ] at h<;>subst h<;>simp
def BR (l:List Int):Nat:=l.countP (· == 1)
theorem aQu (l:List Int):BR l<=l.length:=List.countP_le_length
theorem NA:∀ {a b j:List Int},sY a->sY b->mO a b=some j->sY j/\j.length=a.length/\(j=a\/BR j < BR a)/\BR j<=BR a
 | [],[],j,_,_,h=>by cases h;exact ⟨λ_ h=>(List.not_mem_nil h).elim,rfl,.inl rfl,Nat.le_refl _⟩
 | [],_::_,_,_,_,h=>by cases h
 | _::_,[],_,_,_,h=>by cases h
 | x::a,y::b,j,ha,hb,h=>by
  simp only [mO,Option.bind_eq_some_iff,Option.map_eq_some_iff] at h;obtain ⟨k,hk,l,hl,rfl⟩:=h;obtain ⟨h1,h2⟩:=aIm (ha x (by simp)) (hb y (by simp)) hk;obtain ⟨h3,h4,h5,h6⟩:=NA (λq hq=>ha q (by simp [hq])) (λq hq=>hb q (by simp [hq])) hl;refine ⟨λq hq=>?_,by simp [h4],?_,?_⟩
  ·rcases List.mem_cons.1 hq with rfl|hq
   ·exact h1
   ·exact h3 q hq
  ·rcases h2 with rfl|⟨rfl,rfl⟩
   ·rcases h5 with rfl|h5
    ·exact .inl rfl
    ·right;simp only [BR,List.countP_cons] at h5 ⊢;omega
   ·right;simp only [BR,List.countP_cons] at h6 ⊢;simp;omega
  ·rcases h2 with rfl|⟨rfl,rfl⟩
   ·simp only [BR,List.countP_cons] at h6 ⊢;omega
   ·simp only [BR,List.countP_cons] at h6 ⊢;simp;omega
theorem HN:∀ {a b j:List Int},mO a b=some j->j.length=a.length/\j.length=b.length
 | [],[],j,h=>by cases h;exact ⟨rfl,rfl⟩
 | [],_::_,_,h=>by cases h
 | _::_,[],_,h=>by cases h
 | x::a,y::b,j,h=>by
  simp only [mO,Option.bind_eq_some_iff,Option.map_eq_some_iff] at h;obtain ⟨k,hk,l,hl,rfl⟩:=h;obtain ⟨h1,h2⟩:=HN hl;simp only [List.length_cons];omega
theorem tT {l:List Int} (h:sY l) {k:Nat} (hk:k < l.length):Kd (l.getD k 0):=by
 rw [List.getD_eq_getElem?_getD,List.getElem?_eq_getElem hk];exact h _ (List.getElem_mem hk)
theorem JM {m:jR} (h:m.right):sY m.locs:=λk hk=>by
 rcases List.mem_append.1 hk with h1|h1
 ·exact h.1.1 k h1
 ·exact h.2.2.1.1 k h1
theorem iA.meth_mem {i:iA} {k:Int} (h0:0<=k) (hk:k < i.methods.length):i.meth k∈i.methods:=by
 unfold iA.meth;rw [List.getD_eq_getElem?_getD,List.getElem?_eq_getElem (by omega)];exact List.getElem_mem _
theorem iA.imp_mem {i:iA} {k:Int} (h0:0<=k) (hk:k < i.imports.length):i.imp k∈i.imports:=by
 unfold iA.imp;rw [List.getD_eq_getElem?_getD,List.getElem?_eq_getElem (by omega)];exact List.getElem_mem _
theorem DM {r:Int} (h:0<=r/\r<=4):sY (mC r):=λk hk=>by
 unfold mC at hk;split at hk
 ·exact (List.not_mem_nil hk).elim
 ·rw [List.mem_singleton] at hk;subst hk;unfold Kd;omega
theorem DL (r:Int):(mC r).length<=1:=by unfold mC;split<;>simp
structure xR (i:iA) (m:jR) (x:lT):Prop where
 ir:i.right
 mr:m.right
 xr:x.right
 nm:fL i m x
theorem YM {a b:Int}:Kd (rZ a b):=by unfold rZ Kd;split<;>omega
theorem AG:∀ {t l:List Int} {n:Nat},n < t.length->n < l.length->kD t l=true->uI (cN l n) (cN t n)=true
 | [],_,_,h,_,_=>by simp at h
 | _::_,[],_,_,h,_=>by simp at h
 | a::t,k::l,0,_,_,h=>by simp only [kD,Bool.and_eq_true] at h;exact h.1
 | a::t,k::l,n+1,h1,h2,h=>by
  simp only [kD,Bool.and_eq_true] at h;exact AG (n:=n) (by simpa using h1) (by simpa using h2) h.2
theorem oS {l:List Int} (h:sY l) {n:Nat} (hn:n < l.length):Kd (cN l n):=tT h hn
theorem aDt {k:Int}:fZ k=true↔k=3\/k=4:=by simp [fZ]
theorem aDy {i:iA} {m:jR} {x:lT} {l:List Int} (h:xR i m x) (hl:sY l) (hn:l.length=(aY i m x).length) (hk:mY x (aY i m x) l=true):sY (jJ i m x l):=by
 obtain ⟨hi,hm,hx,hs⟩:=h;obtain ⟨op,a,b⟩:=x;obtain ⟨⟨o1,o2⟩,a1,a2,_⟩:=hx;dsimp only at o1 o2 a1 a2
 have hop:op=1\/op=2\/op=3\/op=4\/op=5\/kU op\/op=15\/op=16\/op=17\/op=18\/op=22\/op=23\/op=24\/op=25\/op=26\/op=27\/op=28\/op=29\/op=30\/op=31\/op=32\/op=33\/op=34\/op=35\/op=36\/op=37\/op=38\/op=39:=by
  unfold kU;omega
 have one:∀ {k:Int},Kd k->sY [k]:=λhk q hq=>by rw [List.mem_singleton] at hq;subst hq;exact hk
 have nil:sY []:=λ_ h=>(List.not_mem_nil h).elim;have mi:sY m.locs:=JM hm;rcases hop with rfl|rfl|rfl|rfl|rfl|hb|rfl|rfl|rfl|rfl|rfl|rfl|rfl|rfl|rfl|rfl|rfl|rfl|rfl|rfl|rfl|rfl|rfl|rfl|rfl|rfl|rfl|rfl
 case _=>exact one (by unfold Kd;omega)
 case _=>
  have hs:a < (m.locs.length:Int):=hs;have a1:0<=a:=a1;exact one (tT mi (by dsimp only;omega))
 case _=>exact nil
 case _=>exact nil
 case _=>
  have hn:l.length=1:=hn;have h0:Kd (cN l 0):=oS hl (by omega);intro q hq;simp [jJ] at hq;subst hq;exact h0
 case _=>
  have e:jJ i m ⟨op,a,b⟩ l=[rZ (cN l 0) (cN l 1)]:=by
   unfold kU at hb;simp only [jJ];rw [if_neg (by omega),if_neg (by omega),if_neg (by omega),if_neg (by omega),if_pos (by unfold kU;omega)]
  rw [e];exact one YM
 case _=>have hn:l.length=1:=hn;exact one (oS hl (by omega))
 case _=>have hn:l.length=1:=hn;exact one (oS hl (by omega))
 case _=>exact one (by unfold Kd;omega)
 case _=>exact one (by unfold Kd;omega)
 case _=>
  have e:jJ i m ⟨22,a,b⟩ l=[BB l]:=rfl;have hn:l.length=3:=hn;rw [e];refine one ?_;unfold BB;split
  ·exact oS hl (by omega)
  ·exact YM
 case _=>exact nil
 case _=>exact nil
 case _=>have a1:3<=a:=a1;have a2:a<=4:=a2;exact one (by unfold Kd;dsimp only;omega)
 case _=>exact one (by unfold Kd;omega)
 case _=>have a1:3<=a:=a1;have a2:a<=4:=a2;exact one (by unfold Kd;dsimp only;omega)
 case _=>exact one (by unfold Kd;omega)
 case _=>
  have e:jJ i m ⟨29,a,b⟩ l=[ofK (cN l 0)]:=rfl;rw [e];simp only [mY,Bool.and_eq_true] at hk;have hn:l.length=2:=hn;have:=AG (t:=[-4,-3]) (l:=l) (n:=0) (show 0 < 2 by decide) (by omega) hk.1;have h2:fZ (cN l 0)=true:=this;rw [aDt] at h2;refine one ?_;rcases h2 with h2|h2<;>rw [h2]<;>(unfold Kd ofK;simp)
 case _=>exact nil
 case _=>exact nil
 case _=>
  have e:jJ i m ⟨32,a,b⟩ l=if cN l 0=4\/cN l 2=4 then [2] else [1]:=rfl
  rw [e];split<;>exact one (by unfold Kd;omega)
 case _=>
  have hs:a < (i.fields.length:Int):=hs;have a1:0<=a:=a1;exact one (tT hi.1.1 (by dsimp only;omega))
 case _=>exact nil
 case _=>have a1:1<=a:=a1;have a2:a<=2:=a2;exact one (by unfold Kd;dsimp only;omega)
 case _=>exact nil
 case _=>
  exact DM (hi.2.2.1.2.1 _ (iA.meth_mem a1 hs)).2.1
 case _=>
  exact DM (hi.2.1.2 _ (iA.imp_mem a1 hs)).2.2
 case _=>exact nil
theorem AO {i:iA} {m:jR} {x:lT} {s out:List Int} (h:xR i m x) (hs:sY s) (ho:CG i m x s=some out):sY out/\out.length<=8/\(aY i m x).length<=s.length/\out.length=s.length - (aY i m x).length+hgt i m x:=by
 simp only [CG] at ho;split at ho
 ·cases ho
 rename_i hn
 split at ho
 ·rename_i hk
  cases ho;have hsub:sY (s.drop (s.length - (aY i m x).length)):=λk hk=>hs k (List.mem_of_mem_drop hk);have hlen:(s.drop (s.length - (aY i m x).length)).length=(aY i m x).length:=by rw [List.length_drop];omega
  refine ⟨λk hk'=>?_,?_,by omega,?_⟩
  ·rcases List.mem_append.1 hk' with h1|h1
   ·exact hs k (List.mem_of_mem_take h1)
   ·exact aDy h hsub hlen hk.1 k h1
  iterate 2
   ·rw [List.length_append,List.length_take,KE];omega
 ·cases ho
structure WF (m:jR) (s:St):Prop where
 l1:s.st.length=m.code.length
 l2:s.has.length=m.code.length
 l3:s.todo.length=m.code.length
 kd:∀ k,s.h k=true->sY (s.s k)/\(s.s k).length<=8
 no:∀ k,s.h k=false->s.s k=[]/\s.t k=false
def wt (s:St) (k:Nat):Nat:=(if s.t k then 1 else 0)+(if s.h k then 2*BR (s.s k) else 20)
def msr (n:Nat) (s:St):Nat:=((List.range n).map (wt s)).sum
theorem aFq {l:List Nat} {f g:Nat->Nat} (h:∀ k∈l,f k<=g k):(l.map f).sum<=(l.map g).sum:=by
 induction l with
 | nil=>exact Nat.le_refl _
 | cons a l ih=>
  simp only [List.map_cons,List.sum_cons];have:=ih λk hk=>h k (List.mem_cons_of_mem _ hk);have:=h a List.mem_cons_self;omega
theorem IZ {l:List Nat} {f g:Nat->Nat} (h:∀ k∈l,f k<=g k) {a:Nat} (ha:a∈l) (hl:f a < g a):(l.map f).sum < (l.map g).sum:=by
 induction l with
 | nil=>exact (List.not_mem_nil ha).elim
 | cons b l ih=>
  simp only [List.map_cons,List.sum_cons];have h1:=h b List.mem_cons_self;have h2:=aFq λk hk=>h k (List.mem_cons_of_mem _ hk);rcases List.mem_cons.1 ha with rfl|ha
  ·omega
  ·have:=ih (λk hk=>h k (List.mem_cons_of_mem _ hk)) ha;omega
structure Fur (m:jR) (s s':St):Prop where
 has:∀ k,s.h k=true->s'.h k=true
 len:∀ k,s.h k=true->(s'.s k).length=(s.s k).length
 same:∀ k,s'.t k=false->s.h k=true->s'.s k=s.s k
 new:∀ k,s'.t k=false->s'.h k=true->s.h k=true
 wt:∀ k,k < m.code.length->wt s' k<=wt s k
 todo:∀ k,s.t k=true->s'.t k=true
theorem Fur.refl (m:jR) (s:St):Fur m s s:=⟨λ_ h=>h,λ_ _=>rfl,λ_ _ _=>rfl,λ_ _ h=>h,λ_ _=>Nat.le_refl _,λ_ h=>h⟩
theorem Fur.trans {m:jR} {a b c:St} (h:Fur m a b) (k:Fur m b c):Fur m a c where
 has q hq:=k.has q (h.has q hq)
 len q hq:=(k.len q (h.has q hq)).trans (h.len q hq)
 same q h1 h2:=by
  have hb:b.t q=false:=by cases hb:b.t q with
   | false=>rfl
   | true=>rw [k.todo q hb] at h1;cases h1
  exact (k.same q h1 (h.has q h2)).trans (h.same q hb h2)
 new q h1 h2:=by
  have hb:b.t q=false:=by cases hb:b.t q with
   | false=>rfl
   | true=>rw [k.todo q hb] at h1;cases h1
  exact h.new q hb (k.new q h1 h2)
 wt q hq:=Nat.le_trans (k.wt q hq) (h.wt q hq)
 todo q hq:=k.todo q (h.todo q hq)
theorem aSb {m:jR} {s s':St} {to:Int} {stack:List Int} (hw:WF m s) (h0:0<=to) (hs:sY stack) (hl:stack.length<=8) (h:nM m.code.length s to stack=some s') :
  WF m s'/\Fur m s s'/\to < m.code.length/\s'.h to.toNat=true/\(s'.s to.toNat).length=stack.length:=by
 unfold nM at h;split at h
 ·cases h
 rename_i hto
 obtain ⟨k,rfl⟩:∃ k:Nat,to=k:=⟨to.toNat,by omega⟩;simp only [Int.toNat_natCast] at h ⊢;have hk:k < m.code.length:=by omega
 obtain ⟨w1,w2,w3,w4,w5⟩:=hw;split at h
 ·rename_i hh
  obtain ⟨j,hj,h⟩:=Option.bind_eq_some_iff.1 h;obtain ⟨c1,c2⟩:=w4 k hh;obtain ⟨j1,j2,j3,j4⟩:=NA c1 hs hj;have j5:=(HN hj).2;split at h
  ·rename_i he
   cases h;exact ⟨⟨w1,w2,w3,w4,w5⟩,Fur.refl _ _,by omega,hh,by rw [<- he];exact j5⟩
  ·rename_i hne
   cases h;have j3:BR j < BR (s.s k):=j3.resolve_left hne
   have eS:∀ q,St.s { s with st:=s.st.set k j,todo:=s.todo.set k true } q=if q=k then j else s.s q:=λq=>by
    simp only [St.s,lK];by_cases hq:q=k
    ·rw [if_pos ⟨hq,by omega⟩,if_pos hq]
    ·rw [if_neg (λh=>hq h.1),if_neg hq]
   have eT:∀ q,St.t { s with st:=s.st.set k j,todo:=s.todo.set k true } q=if q=k then true else s.t q:=λq=>by
    simp only [St.t,lK];by_cases hq:q=k
    ·rw [if_pos ⟨hq,by omega⟩,if_pos hq]
    ·rw [if_neg (λh=>hq h.1),if_neg hq]
   have eH:∀ q,St.h { s with st:=s.st.set k j,todo:=s.todo.set k true } q=s.h q:=λq=>rfl;refine ⟨⟨by simpa using w1,w2,by simpa using w3,λq hq=>?_,λq hq=>?_⟩,⟨λq hq=>hq,λq hq=>?_,λq h1 h2=>?_,λq _ h2=>h2,λq hq=>?_,λq hq=>?_⟩,by omega,hh,?_⟩
   ·rw [eS];by_cases hqk:q=k
    ·rw [if_pos hqk];exact ⟨j1,by omega⟩
    ·rw [if_neg hqk];exact w4 q hq
   ·have hqk:q≠k:=λe=>by subst e;rw [eH] at hq;rw [hh] at hq;cases hq
    rw [eS,eT,if_neg hqk,if_neg hqk];exact w5 q hq
   ·rw [eS];by_cases hqk:q=k
    ·rw [if_pos hqk,hqk];exact j2
    ·rw [if_neg hqk]
   ·rw [eT] at h1;by_cases hqk:q=k
    ·rw [if_pos hqk] at h1;cases h1
    ·rw [eS,if_neg hqk]
   ·unfold wt;rw [eS,eT,eH];by_cases hqk:q=k
    ·subst hqk;rw [if_pos rfl,if_pos rfl];simp only [hh,if_true];split<;>omega
    ·rw [if_neg hqk,if_neg hqk];exact Nat.le_refl _
   ·rw [eT];by_cases hqk:q=k
    ·rw [if_pos hqk]
    ·rw [if_neg hqk];exact hq
   ·rw [eS,if_pos rfl];exact j5
 ·rename_i hh
  have hh:s.h k=false:=by simpa using hh
  cases h
  have eS:∀ q,St.s ⟨s.st.set k stack,s.has.set k true,s.todo.set k true⟩ q=if q=k then stack else s.s q:=λq=>by
   simp only [St.s,lK];by_cases hq:q=k
   ·rw [if_pos ⟨hq,by omega⟩,if_pos hq]
   ·rw [if_neg (λh=>hq h.1),if_neg hq]
  have eT:∀ q,St.t ⟨s.st.set k stack,s.has.set k true,s.todo.set k true⟩ q=if q=k then true else s.t q:=λq=>by
   simp only [St.t,lK];by_cases hq:q=k
   ·rw [if_pos ⟨hq,by omega⟩,if_pos hq]
   ·rw [if_neg (λh=>hq h.1),if_neg hq]
  have eH:∀ q,St.h ⟨s.st.set k stack,s.has.set k true,s.todo.set k true⟩ q=if q=k then true else s.h q:=λq=>by
   simp only [St.h,lK];by_cases hq:q=k
   ·rw [if_pos ⟨hq,by omega⟩,if_pos hq]
   ·rw [if_neg (λh=>hq h.1),if_neg hq]
  refine ⟨⟨by simpa using w1,by simpa using w2,by simpa using w3,λq hq=>?_,λq hq=>?_⟩,⟨λq hq=>?_,λq hq=>?_,λq h1 h2=>?_,λq h1 h2=>?_,λq hq=>?_,λq hq=>?_⟩,by omega,?_,?_⟩
  ·rw [eS];by_cases hqk:q=k
   ·rw [if_pos hqk];exact ⟨hs,hl⟩
   ·rw [if_neg hqk];rw [eH,if_neg hqk] at hq;exact w4 q hq
  ·rw [eH] at hq;by_cases hqk:q=k
   ·rw [if_pos hqk] at hq;cases hq
   ·rw [if_neg hqk] at hq;rw [eS,eT,if_neg hqk,if_neg hqk];exact w5 q hq
  ·rw [eH];split
   ·rfl
   ·exact hq
  ·have hqk:q≠k:=λe=>by subst e;rw [hh] at hq;cases hq
   rw [eS,if_neg hqk]
  ·have hqk:q≠k:=λe=>by subst e;rw [hh] at h2;cases h2
   rw [eS,if_neg hqk]
  ·have hqk:q≠k:=λe=>by rw [eT,if_pos e] at h1;cases h1
   rw [eH,if_neg hqk] at h2;exact h2
  ·unfold wt;rw [eS,eT,eH];by_cases hqk:q=k
   ·subst hqk;rw [if_pos rfl,if_pos rfl,if_pos rfl];have:=aQu stack;simp only [hh,if_true,Bool.false_eq_true,if_false];omega
   ·rw [if_neg hqk,if_neg hqk,if_neg hqk];exact Nat.le_refl _
  ·rw [eT];split
   ·rfl
   ·exact hq
  ·rw [eH,if_pos rfl]
  ·rw [eS,if_pos rfl]
theorem zA {m:jR} {stack:List Int} (hs:sY stack) (hl:stack.length<=8):∀ {l:List Int} {s s':St},WF m s->(∀ to∈l,0<=to)->lX m.code.length stack l s=some s' ->
  WF m s'/\Fur m s s'/\∀ to∈l,to < m.code.length/\s'.h to.toNat=true/\(s'.s to.toNat).length=stack.length
 | [],s,s',hw,_,h=>by cases h;exact ⟨hw,Fur.refl _ _,λ_ h=>(List.not_mem_nil h).elim⟩
 | to::l,s,s',hw,h0,h=>by
  simp only [lX,Option.bind_eq_some_iff] at h;obtain ⟨s1,h1,h2⟩:=h;obtain ⟨a1,a2,a3,a4,a5⟩:=aSb hw (h0 to (by simp)) hs hl h1;obtain ⟨b1,b2,b3⟩:=zA hs hl a1 (λq hq=>h0 q (by simp [hq])) h2;refine ⟨b1,a2.trans b2,λq hq=>?_⟩;rcases List.mem_cons.1 hq with rfl|hq
  ·exact ⟨a3,b2.has _ a4,(b2.len _ a4).trans a5⟩
  ·exact b3 q hq
def Led (i:iA) (m:jR) (s:St) (k:Nat):Prop:=∃ out,CG i m (m.ins k) (s.s k)=some out/\∀ to∈fN (m.ins k) k,0<=to/\to < m.code.length/\s.h to.toNat=true/\(s.s to.toNat).length=out.length
def ZA (i:iA) (m:jR) (s:St):Prop:=s.h 0=true/\s.s 0=[]/\∀ k,s.h k=true->s.t k=false->Led i m s k
theorem XH {i:iA} {m:jR} {x:lT} (h:xR i m x) {pc:Nat}:∀ to∈fN x pc,0<=to:=by
 obtain ⟨_,_,hx,_⟩:=h;obtain ⟨op,a,b⟩:=x;intro to ht;unfold fN at ht;dsimp only at ht;have h1:(lim op).1<=a:=hx.2.1;split at ht
 ·rename_i e;subst e;rw [List.mem_singleton] at ht;subst ht;exact h1
 split at ht
 ·rename_i e;subst e
  rcases List.mem_cons.1 ht with rfl|ht
  ·omega
  ·rw [List.mem_singleton] at ht;subst ht;exact h1
 split at ht
 ·exact (List.not_mem_nil ht).elim
 ·rw [List.mem_singleton] at ht;subst ht;omega
theorem JX {m:jR} {k:Nat} (h:k < m.code.length):m.ins k∈m.code:=by
 unfold jR.ins;rw [List.getD_eq_getElem?_getD,List.getElem?_eq_getElem h];exact List.getElem_mem h
theorem BX {i:iA} {m:jR} {s s':St} {pc:Nat} (hx:∀ x∈m.code,xR i m x) (hw:WF m s) (hi:ZA i m s) (hf:nS s.todo=some pc) (h:uP i m s pc=some s') :
  WF m s'/\ZA i m s'/\msr m.code.length s' < msr m.code.length s:=by
 obtain ⟨f1,_⟩:=sL hf;have hpc:pc < m.code.length:=by have:=tZ f1;have:=hw.l3;omega
 have hh:s.h pc=true:=by
  cases e:s.h pc with
  | true=>rfl
  | false=>have:=(hw.no pc e).2;rw [St.t,f1] at this;cases this
 simp only [uP,Option.bind_eq_some_iff] at h;obtain ⟨stack,hd,hg⟩:=h;have ox:=hx _ (JX hpc);obtain ⟨d1,d2,_,_⟩:=AO ox (hw.kd pc hh).1 hd
 have eT:∀ q,St.t { s with todo:=s.todo.set pc false } q=if q=pc then false else s.t q:=λq=>by
  simp only [St.t,lK];by_cases hq:q=pc
  ·rw [if_pos ⟨hq,by have:=hw.l3;omega⟩,if_pos hq]
  ·rw [if_neg (λh=>hq h.1),if_neg hq]
 have hw1:WF m { s with todo:=s.todo.set pc false }:=⟨hw.l1,hw.l2,by simpa using hw.l3,hw.kd,λq hq=>⟨(hw.no q hq).1,by rw [eT];split;rfl;exact (hw.no q hq).2⟩⟩;obtain ⟨g1,g2,g3⟩:=zA d1 d2 hw1 (XH ox) hg;refine ⟨g1,⟨g2.has 0 hi.1,?_,λk h1 h2=>?_⟩,?_⟩
 ·have:=g2.len 0 hi.1;have e0:St.s { s with todo:=s.todo.set pc false } 0=[]:=hi.2.1;rw [e0] at this;exact List.eq_nil_of_length_eq_zero this
 ·have h3:s.h k=true:=g2.new k h2 h1;have h4:s'.s k=s.s k:=g2.same k h2 h3;by_cases hk:k=pc
  ·subst hk;exact ⟨stack,by rw [h4];exact hd,λto ht=>⟨XH ox to ht,g3 to ht⟩⟩
  ·have h5:s.t k=false:=by
    cases e:s.t k with
    | false=>rfl
    | true=>have:=g2.todo k (by rw [eT,if_neg hk];exact e);rw [this] at h2;cases h2
   obtain ⟨out,o1,o2⟩:=hi.2.2 k h3 h5;refine ⟨out,by rw [h4];exact o1,λto ht=>?_⟩;obtain ⟨p1,p2,p3,p4⟩:=o2 to ht;exact ⟨p1,p2,g2.has _ p3,(g2.len _ p3).trans p4⟩
 ·refine Nat.lt_of_le_of_lt (aFq (g:=wt { s with todo:=s.todo.set pc false }) λk hk=>g2.wt k (List.mem_range.1 hk)) ?_;refine IZ (λk _=>?_) (List.mem_range.2 hpc) ?_
  ·unfold wt;rw [eT];by_cases hk:k=pc
   ·rw [if_pos hk];exact Nat.add_le_add (by simp) (Nat.le_refl _)
   ·rw [if_neg hk];exact Nat.le_refl _
  ·unfold wt;rw [eT,if_pos rfl];have e:s.t pc=true:=f1;rw [e];exact Nat.add_lt_add_of_lt_of_le (by simp) (Nat.le_refl _)
theorem zC {i:iA} {m:jR} (h:1<=m.code.length):WF m (St.first m.code.length)/\ZA i m (St.first m.code.length):=by
 have eH:∀ q,(St.first m.code.length).h q=decide (q=0):=λq=>by
  simp only [St.first,St.h,lK];by_cases hq:q=0
  ·rw [if_pos ⟨hq,by simp;omega⟩];simp [hq]
  ·rw [if_neg (λh=>hq h.1)];simp only [hq,decide_false,List.getD_eq_getElem?_getD,List.getElem?_replicate];split<;>rfl
 have eT:∀ q,(St.first m.code.length).t q=decide (q=0):=eH
 have eS:∀ q,(St.first m.code.length).s q=[]:=λq=>by
  simp only [St.first,St.s,lK];split
  ·rfl
  ·simp only [List.getD_eq_getElem?_getD,List.getElem?_replicate];split<;>rfl
 refine ⟨⟨by simp [St.first],by simp [St.first],by simp [St.first],λk _=>?_,λk hk=>?_⟩,by rw [eH];rfl,eS 0,λk h1 h2=>?_⟩
 ·rw [eS];exact ⟨λ_ h=>(List.not_mem_nil h).elim,by simp⟩
 ·refine ⟨eS k,?_⟩;rw [eT,<- eH k];exact hk
 ·rw [eT] at h2;rw [eH] at h1;rw [h1] at h2;cases h2
theorem oO.ok {i:iA} {m:jR} (hx:∀ x∈m.code,xR i m x) {s:St} {r:Option St} (h:oO i m s r):∀ s',r=some s'->WF m s->ZA i m s->WF m s'/\ZA i m s'/\∀ k,s'.t k=false:=by
 induction h with
 | done h1=>intro s' he hw hi;cases he;exact ⟨hw,hi,BN h1⟩
 | fail _ _=>intro s' he;cases he
 | go h1 h2 _ ih=>
  intro s' he hw hi;obtain ⟨a,b,_⟩:=BX hx hw hi h1 h2;exact ih s' he a b
theorem qO.led {i:iA} {m:jR} {s:St} (hi:i.right) (hm:m.right) (h:qO i m (some s)):(∀ x∈m.code,xR i m x)/\WF m s/\s.h 0=true/\s.s 0=[]/\∀ k,s.h k=true->Led i m s k:=by
 rcases h with ⟨_,h⟩|⟨h1,h2⟩
 ·cases h
 have hx:∀ x∈m.code,xR i m x:=λx hx=>⟨hi,hm,hm.2.2.2.2 x hx,h1 x hx⟩;obtain ⟨a,b⟩:=zC (i:=i) hm.2.2.2.1.1;obtain ⟨c,d,e⟩:=h2.ok hx s rfl a b;exact ⟨hx,c,d.1,d.2.1,λk hk=>d.2.2 k hk (e k)⟩
end Go.Tc
namespace Go.Vc
theorem bNp {w:O} {C:O->Prop}:(∃ J:NP 0,J w/\∀ w':O,J w'->∀ _f:bM,C w')↔C w:=
 ⟨λ⟨_,h,k⟩=>k w h λ_=>undef,λh=>⟨λw'=>w'=w,rfl,λ_ e _=>e▸h⟩⟩
theorem bNo {a:Y} {w:O} {C:Y->O->Prop}:(∃ J:NP 1,J a w/\∀ (t:Y) (w':O),J t w'->∀ _f:bM,C t w')↔C a w:=
 ⟨λ⟨_,h,k⟩=>k a w h λ_=>undef,λh=>⟨λt w'=>t=a/\w'=w,⟨rfl,rfl⟩,λ_ _ e _=>e.1▸e.2▸h⟩⟩
theorem bNn {a b:Y} {w:O} {C:Y->Y->O->Prop}:(∃ J:NP 2,J a b w/\∀ (t u:Y) (w':O),J t u w'->∀ _f:bM,C t u w')↔C a b w:=
 ⟨λ⟨_,h,k⟩=>k a b w h λ_=>undef,λh=>⟨λt u w'=>t=a/\u=b/\w'=w,⟨rfl,rfl,rfl⟩,λ_ _ _ e _=>e.1▸e.2.1▸e.2.2▸h⟩⟩
theorem bDy {P:Program} {w:O} {K:Y->O->Prop} {t s f o ft sz:Nat} {v:Y} {n:Nat} {cs:List Y} {k:IntKind} {i:Int} {u:Y} (h:XA P t sz) (hf:FA P s f o) (hl:L1 P ft) (hs:aA w v sz n cs) (h0:0<=i) (h1:i < n)
  (hu:cs[i.toNat*sz+o]?=some u) (hk:K u w) :
  V P (Instr.indexAt t v (.int k i)) w λp w1=>V P (Instr.fieldAt s p f) w1 λq w2=>V P (Instr.loadAt ft q) w2 K:=by
 obtain ⟨e,z,b',hte,hi⟩:=h;obtain ⟨d,hd,ha⟩:=hl;obtain ⟨b,off,cap,rfl,hcell⟩:=hs.there (by omega);refine V.ok (jZ hte hi h0 h1) (V.ok (hf.ex w b _) (V.ok (jN hd ha ?_) hk));have:=hcell _ _ hu;rw [<- Nat.add_assoc] at this;exact this
theorem aR:((¬True)=False)/\((¬False)=True)/\(∀ {α:Type} {a b:α},(a≠b)=¬(a=b))/\((false=true)=False)/\((!true)=false)/\((!false)=true)/\(∀ {h:Decidable True},@decide True h=true)/\(∀ {h:Decidable False},@decide False h=false)/\(∀ {α:Type} {h:Decidable True} {a b:α},(@ite α True h a b)=a)/\(∀ {α:Type} {h:Decidable False} {a b:α},(@ite α False h a b)=b)/\(∀ {P:Program} {w:O} {K:Y->O->Prop} {k:IntKind} {t:TypeId} {a b:Int},V P (binOp BinOp.lss t (Value.int k a) (Value.int k b)) w K↔K (Value.bool (decide (a < b))) w)/\(∀ {P:Program} {w:O} {K:Y->O->Prop} {k:IntKind} {t:TypeId} {a b:Int},V P (binOp BinOp.leq t (Value.int k a) (Value.int k b)) w K↔K (Value.bool (decide (a<=b))) w)/\(∀ {P:Program} {w:O} {K:Y->O->Prop} {k:IntKind} {t:TypeId} {a b:Int},V P (binOp BinOp.gtr t (Value.int k a) (Value.int k b)) w K↔K (Value.bool (decide (a > b))) w)/\(∀ {P:Program} {w:O} {K:Y->O->Prop} {k:IntKind} {t:TypeId} {a b:Int},V P (binOp BinOp.geq t (Value.int k a) (Value.int k b)) w K↔K (Value.bool (decide (a>=b))) w)/\(∀ {P:Program} {w:O} {K:Y->O->Prop} {k:IntKind} {t:TypeId} {x y:Operand} {a b:Int},V P (do eqGuard BinOp.eql t x y (Value.int k a) (Value.int k b);binOp BinOp.eql t (Value.int k a) (Value.int k b)) w K↔K (Value.bool (decide (a=b))) w)/\(∀ {P:Program} {w:O} {K:Y->O->Prop} {k:IntKind} {t:TypeId} {x y:Operand} {a b:Int},V P (do eqGuard BinOp.neq t x y (Value.int k a) (Value.int k b);binOp BinOp.neq t (Value.int k a) (Value.int k b)) w K↔K (Value.bool (decide (a≠b))) w)/\(∀ {P:Program} {w:O} {K:Y->O->Prop} {b:Bool},V P (Op.unary UnOp.not (Value.bool b)) w K↔K (Value.bool !b) w)/\(∀ {w:O} {K:Y->O->Prop} {step:(Y->O->Prop)->Prop},gd (Value.bool true) true step w K↔step K)/\(∀ {w:O} {K:Y->O->Prop} {step:(Y->O->Prop)->Prop},gd (Value.bool false) false step w K↔step K)/\(∀ {w:O} {K:Y->O->Prop} {step:(Y->O->Prop)->Prop},gd (Value.bool true) false step w K↔K undef w)/\(∀ {w:O} {K:Y->O->Prop} {step:(Y->O->Prop)->Prop},gd (Value.bool false) true step w K↔K undef w)/\(∀ {w:O} {K:Y->O->Prop} {want:Bool} {step:(Y->O->Prop)->Prop},gd undef want step w K↔K undef w)/\(∀ {step:(Y->Prop)->Prop} {L:Y->Prop},GD (Value.bool true) true step L↔step L)/\(∀ {step:(Y->Prop)->Prop} {L:Y->Prop},GD (Value.bool false) false step L↔step L)/\(∀ {step:(Y->Prop)->Prop} {L:Y->Prop},GD (Value.bool true) false step L↔L undef)/\(∀ {step:(Y->Prop)->Prop} {L:Y->Prop},GD (Value.bool false) true step L↔L undef)/\(∀ {want:Bool} {step:(Y->Prop)->Prop} {L:Y->Prop},GD undef want step L↔L undef)/\(∀ {b:Bool} {x y:Y} {L:Y->Prop},aH (Value.bool b) x y L↔L (if b=true then x else y))/\(∀ {x y:Prop},aI (Value.bool true) x y↔x)/\(∀ {x y:Prop},aI (Value.bool false) x y↔y)/\(∀ {w:O} {C:O->Prop},(∃ J:NP 0,J w/\∀ (w':O),J w'->∀ (_f:bM),C w')↔C w)/\(∀ {a:Y} {w:O} {C:Y->O->Prop},(∃ J:NP 1,J a w/\∀ (t:Y) (w':O),J t w'->∀ (_f:bM),C t w')↔C a w)/\∀ {a b:Y} {w:O} {C:Y->Y->O->Prop},(∃ J:NP 2,J a b w/\∀ (t u:Y) (w':O),J t u w'->∀ (_f:bM),C t u w')↔C a b w:=
  And.intro (not_true_eq_false) <| And.intro (not_false_eq_true) <| And.intro (λ{_ a b}=>ne_eq a b) <| And.intro (Bool.false_eq_true) <| And.intro (Bool.not_true) <| And.intro (Bool.not_false) <| And.intro (λ{_}=>decide_true _) <| And.intro (λ{_}=>decide_false _) <| And.intro (λ{_ _ a b}=>if_pos trivial) <| And.intro (λ{_ _ a b}=>if_neg id) <| And.intro @aZ <| And.intro @uJ <| And.intro @jF <| And.intro @fK <| And.intro @aJ <| And.intro @cL <| And.intro @dO <| And.intro @mD <| And.intro @pD <| And.intro @uH <| And.intro @lY <| And.intro @rV <| And.intro @wI <| And.intro @NR <| And.intro @US <| And.intro @UT <| And.intro @HU <| And.intro @bA <| And.intro @bH <| And.intro @aM <| And.intro @bNp <| And.intro @bNo @bNn
end Go.Vc
namespace Go.Proofs.YtjcmcfidblhnnaaGreatDoor
open Tryz
open Go.Vc Go.Tc
variable {w:O} {K:Y->O->Prop}
variable {a k op:Int} {α:Type} {i sz:Nat} {x:lT} {φ:Prop} {w':O} {fv:Y}
theorem tX (h:K (.bool (fZ k)) w):aB prog 148 #[i64 k] w K:=by
 apply aYv;unfold RI;by_cases h1:k=3
 ·subst h1;simp only [aR];exact h
 ·by_cases h2:k=4
  ·subst h2;simp only [aR,Int.reduceEq];exact h
  ·simp only [h1,h2,aR];rwa [show fZ k=false by simp [fZ,h1,h2]] at h
theorem tW (h:K (.bool (eF k)) w):aB prog 149 #[i64 k] w K:=by
 apply aYu;unfold RH;by_cases h1:k=1
 ·subst h1;simp only [aR];exact h
 ·by_cases h2:k=2
  ·subst h2;simp only [aR,Int.reduceEq];exact h
  ·simp only [h1,h2,aR];rwa [show eF k=false by simp [eF,h1,h2]] at h
def EF (k:Int):Bool:=k == 2||k == 4
theorem CC (h:K (.bool (EF k)) w):aB prog 150 #[i64 k] w K:=by
 apply aYs;unfold RG;by_cases h1:k=2
 ·subst h1;simp only [aR];exact h
 ·by_cases h2:k=4
  ·subst h2;simp only [aR,Int.reduceEq];exact h
  ·simp only [h1,h2,aR];rwa [show EF k=false by simp [EF,h1,h2]] at h
theorem tD (h:K (.bool (fZ k)) w):aB prog 206 #[i64 k] w K:=by
 apply aWm;unfold PE;by_cases h1:k=3
 ·subst h1;simp only [aR];exact h
 ·by_cases h2:k=4
  ·subst h2;simp only [aR,Int.reduceEq];exact h
  ·simp only [h1,h2,aR];rwa [show fZ k=false by simp [fZ,h1,h2]] at h
theorem yV (h:K (.bool (eF k)) w):aB prog 205 #[i64 k] w K:=by
 apply aWn;unfold PF;by_cases h1:k=1
 ·subst h1;simp only [aR];exact h
 ·by_cases h2:k=2
  ·subst h2;simp only [aR,Int.reduceEq];exact h
  ·simp only [h1,h2,aR];rwa [show eF k=false by simp [eF,h1,h2]] at h
theorem LC (h:Kd k):k=1\/k=2\/k=3\/k=4:=by obtain ⟨h1,h2⟩:=h;omega
theorem CI {b:Int} (h:K (i64 (rZ a b)) w):aB prog 193 #[i64 a,i64 b] w K:=by
 apply aWz;unfold PR;by_cases h1:a=2
 ·subst h1;simp only [aR];simpa [rZ] using h
 ·by_cases h2:b=2
  ·subst h2;simp only [h1,aR];simpa [rZ] using h
  ·simp only [h1,h2,aR];simpa [rZ,h1,h2] using h
theorem zJ {b:Int} (h:K (i64 (rZ a b)) w):aB prog 208 #[i64 a,i64 b] w K:=by
 apply aWk;unfold PC;by_cases h1:a=2
 ·subst h1;simp only [aR];simpa [rZ] using h
 ·by_cases h2:b=2
  ·subst h2;simp only [h1,aR];simpa [rZ] using h
  ·simp only [h1,h2,aR];simpa [rZ,h1,h2] using h
theorem bLk (h:K (i64 (ofK a)) w):aB prog 194 #[i64 a] w K:=by
 apply aWy;unfold PQ;by_cases h1:a=3
 ·subst h1;simp only [aR,Int.reduceEq];exact h
 ·by_cases h2:a=4
  ·subst h2;simp only [aR,Int.reduceEq];exact h
  ·simp only [h1,h2,aR];simpa [ofK,h1,h2] using h
theorem bLj (h:K (i64 (ofK a)) w):aB prog 210 #[i64 a] w K:=by
 apply aWh;unfold PA;by_cases h1:a=3
 ·subst h1;simp only [aR,Int.reduceEq];exact h
 ·by_cases h2:a=4
  ·subst h2;simp only [aR,Int.reduceEq];exact h
  ·simp only [h1,h2,aR];simpa [ofK,h1,h2] using h
def fits (f t:Int):Bool:=f == t||(f == 1&&t == 2)
theorem aSf {b:Int} (ha:Kd a) (hb:Kd b) (h:K (.bool (fits a b)) w):aB prog 192 #[i64 a,i64 b] w K:=by
 apply aXa;unfold PS
 rcases LC ha with rfl|rfl|rfl|rfl<;>rcases LC hb with rfl|rfl|rfl|rfl <;>
  (repeat (first|simp only [aR,Int.reduceEq]|(refine tW ?_;simp only [eF,Int.reduceBEq,Bool.or_false,Bool.or_true])|(refine tX ?_;simp only [fZ,Int.reduceBEq,Bool.or_false,Bool.or_true])|exact h))
def XN (a b:Int):Y:=match BH a b with
 | some k=>.tuple #[i64 k,.bool true]
 | none=>.tuple #[i64 0,.bool false]
theorem aRv {b:Int} (ha:Kd a) (hb:Kd b) (h:K (XN a b) w):aB prog 154 #[i64 a,i64 b] w K:=by
 apply aYo;unfold RB
 rcases LC ha with rfl|rfl|rfl|rfl<;>rcases LC hb with rfl|rfl|rfl|rfl <;>
  (repeat (first|simp only [aR,Int.reduceEq]|(refine tW ?_;simp only [eF,Int.reduceBEq,Bool.or_false,Bool.or_true])|(refine tX ?_;simp only [fZ,Int.reduceBEq,Bool.or_false,Bool.or_true])|exact h))
theorem aRu {b:Int} (ha:Kd a) (hb:Kd b) (h:K (XN a b) w):aB prog 201 #[i64 a,i64 b] w K:=by
 apply aWr;unfold PJ
 rcases LC ha with rfl|rfl|rfl|rfl<;>rcases LC hb with rfl|rfl|rfl|rfl <;>
  (repeat (first|simp only [aR,Int.reduceEq]|(refine yV ?_;simp only [eF,Int.reduceBEq,Bool.or_false,Bool.or_true])|(refine tD ?_;simp only [fZ,Int.reduceBEq,Bool.or_false,Bool.or_true])|(refine zJ ?_;simp only [rZ,Int.reduceEq,or_self,or_true,or_false,reduceIte])|exact h))
def bLx (a b:Int):Int:=if eF a≠eF b\/(fZ a=true/\a≠b) then 11 else if fits a b then 0 else 12
theorem EG {b:Int} (ha:Kd a) (hb:Kd b) (h:K (i64 (bLx a b)) w):aB prog 152 #[i64 a,i64 b] w K:=by
 apply aYq;unfold RE
 rcases LC ha with rfl|rfl|rfl|rfl<;>rcases LC hb with rfl|rfl|rfl|rfl <;>
  (repeat (first|simp only [aKp,aR,Int.reduceEq,bne_self_eq_false,Bool.bne_false,Bool.bne_true]|(refine tW ?_;simp only [eF,Int.reduceBEq,Bool.or_false,Bool.or_true])|(refine tX ?_;simp only [fZ,Int.reduceBEq,Bool.or_false,Bool.or_true])|(refine aSf ha hb ?_;simp only [fits,Int.reduceBEq,Bool.or_false,Bool.or_true,Bool.and_true,Bool.and_false])|exact h))
def Ask (a:Int):Prop:=a=-1\/a=-2\/a=-3\/a=-4\/Kd a
theorem aSj (hk:Kd k) (ha:Ask a) (h:K (.bool (uI k a)) w):aB prog 204 #[i64 k,i64 a] w K:=by
 apply aWo;unfold PG
 have ha:a=-1\/a=-2\/a=-3\/a=-4\/a=1\/a=2\/a=3\/a=4:=by
  rcases ha with h|h|h|h|h
  iterate 4
   ·omega
  ·have:=LC h;omega
 rcases LC hk with rfl|rfl|rfl|rfl<;>rcases ha with rfl|rfl|rfl|rfl|rfl|rfl|rfl|rfl <;>
  (repeat (first|simp only [aR,Int.reduceEq,Int.reduceNeg]|(refine yV ?_;simp only [eF,Int.reduceBEq,Bool.or_false,Bool.or_true])|(refine tD ?_;simp only [fZ,Int.reduceBEq,Bool.or_false,Bool.or_true])|exact h))
theorem aFy (hk:Kd k) (ha:Ask a) (h:K (.bool (wS k a)) w):aB prog 207 #[i64 k,i64 a] w K:=by
 apply aWl;unfold PD
 have ha:a=-1\/a=-2\/a=-3\/a=-4\/a=1\/a=2\/a=3\/a=4:=by
  rcases ha with h|h|h|h|h
  iterate 4
   ·omega
  ·have:=LC h;omega
 rcases LC hk with rfl|rfl|rfl|rfl<;>rcases ha with rfl|rfl|rfl|rfl|rfl|rfl|rfl|rfl<;>(repeat (first|simp only [aR,Int.reduceEq,Int.reduceNeg]|exact h))
theorem xW {n lo hi:Int} (h:K (.bool (decide (lo<=n/\n<=hi))) w):aB prog 145 #[i64 n,i64 lo,i64 hi] w K:=by
 apply aYy;unfold RL;simp only [fK,ge_iff_le];by_cases h1:lo<=n
 ·simp only [h1,true_and,aR] at h ⊢;exact h
 ·simp only [h1,false_and,aR] at h ⊢;exact h
def MK (op:Int):Int:=if op=27 then 2 else if op=1\/op=2\/op=3\/op=23\/op=24\/op=25\/op=33\/op=34\/op=35\/op=36\/op=37\/op=38 then 1 else 0
theorem AD (h:1<=op/\op<=39):op=1\/op=2\/op=3\/op=4\/op=5\/op=6\/op=7\/op=8\/op=9\/op=10\/op=11\/op=12\/op=13\/op=14\/op=15\/op=16\/op=17\/op=18\/op=19\/op=20\/op=21\/op=22\/op=23\/op=24\/op=25\/op=26\/op=27\/op=28\/op=29\/op=30\/op=31\/op=32\/op=33\/op=34\/op=35\/op=36\/op=37\/op=38\/op=39:=by omega
theorem WZ (ho:1<=op/\op<=39) (h:K (i64 (MK op)) w):aB prog 144 #[i64 op] w K:=by
 apply aYz;unfold RM;rcases AD ho with rfl|rfl|rfl|rfl|rfl|rfl|rfl|rfl|rfl|rfl|rfl|rfl|rfl|rfl|rfl|rfl|rfl|rfl|rfl|rfl|rfl|rfl|rfl|rfl|rfl|rfl|rfl|rfl|rfl|rfl|rfl|rfl|rfl|rfl|rfl|rfl|rfl|rfl|rfl<;>(simp only [aR,Int.reduceEq];exact h)
theorem aDo (h:K (.tuple #[i64 (lim op).1,i64 (lim op).2]) w):aB prog 200 #[i64 op] w K:=by
 apply aWs;unfold PK;by_cases ho:op=1\/op=2\/op=3\/op=23\/op=24\/op=25\/op=27\/op=33\/op=34\/op=35\/op=36\/op=37\/op=38
 ·rcases ho with rfl|rfl|rfl|rfl|rfl|rfl|rfl|rfl|rfl|rfl|rfl|rfl|rfl<;>(simp only [aR,Int.reduceEq,Int.reduceNeg];exact h)
 ·simp only [not_or] at ho;obtain ⟨h1,h2,h3,h4,h5,h6,h7,h8,h9,h10,h11,h12,h13⟩:=ho;have e:lim op=(0,0):=by unfold lim;simp [*]
  rw [e] at h;simp only [h1,h2,h3,h4,h5,h6,h7,h8,h9,h10,h11,h12,h13,aR,Int.reduceNeg];exact h
def oN (l:List lT):List Y:=l.flatMap λx=>[i64 x.op,i64 x.a,i64 x.b]
def oC (w:O) (v:Y) (l:List lT):Prop:=aA w v 3 l.length (oN l)
theorem tE:∀ {l:List lT} {k:Nat} {x:lT},l[k]?=some x->((oN l).drop (k*3)).take 3=[i64 x.op,i64 x.a,i64 x.b]
 | [],_,_,h=>by simp at h
 | y::l,0,x,h=>by simp at h;subst h;simp [oN]
 | y::l,k+1,x,h=>by
  have:=tE (l:=l) (k:=k) (by simpa using h);simp only [oN,List.flatMap_cons] at this ⊢;rw [show (k+1)*3=k*3+3 by omega,<- List.drop_drop];simpa [List.drop_append] using this
theorem oC.ext {w':O} {v:Y} {l:List lT} (h:oC w v l) (hx:aG w w'):oC w' v l:=aA.ext h hx
def bR {α:Type} (T:O->List Y->α->Prop) (sz:Nat) (w:O) (v:Y) (l:List α):Prop:=
 ∃ cs,aA w v sz l.length cs/\∀ (k:Nat) x,l[k]?=some x->∃ row,(cs.drop (k*sz)).take sz=row/\T w row x
theorem bR.ext {α:Type} {T:O->List Y->α->Prop} (hT:∀ {w w' row x},T w row x->aG w w'->T w' row x) {sz:Nat} {w':O} {v:Y} {l:List α} (h:bR T sz w v l) (hx:aG w w'):bR T sz w' v l:=by
 obtain ⟨cs,h1,h2⟩:=h;refine ⟨cs,h1.ext hx,λk x hk=>?_⟩;obtain ⟨row,h3,h4⟩:=h2 k x hk;exact ⟨row,h3,hT h4 hx⟩
def mF (w:O) (row:List Y) (m:jR):Prop:=∃ pv lv cv,row=[pv,i64 m.result,lv,cv]/\aO w pv m.params/\aO w lv m.locals/\oC w cv m.code
theorem mF.ext {w w':O} {row:List Y} {m:jR} (h:mF w row m) (hx:aG w w'):mF w' row m:=by
 obtain ⟨pv,lv,cv,h1,h2,h3,h4⟩:=h;exact ⟨pv,lv,cv,h1,h2.ext hx,h3.ext hx,h4.ext hx⟩
def wN (w:O) (row:List Y) (x:IM):Prop:=∃ pv,row=[.string x.name,i64 x.exp,pv,i64 x.result]/\aO w pv x.params
theorem wN.ext {w w':O} {row:List Y} {x:IM} (h:wN w row x) (hx:aG w w'):wN w' row x:=by
 obtain ⟨pv,h1,h2⟩:=h;exact ⟨pv,h1,h2.ext hx⟩
def sN (w:O) (v:Y) (l:List jR):Prop:=bR mF 4 w v l
def sO (w:O) (v:Y) (l:List IM):Prop:=bR wN 4 w v l
theorem sN.ext {w':O} {v:Y} {l:List jR} (h:sN w v l) (hx:aG w w'):sN w' v l:=bR.ext (λh k=>h.ext k) h hx
theorem sO.ext {w':O} {v:Y} {l:List IM} (h:sO w v l) (hx:aG w w'):sO w' v l:=bR.ext (λh k=>h.ext k) h hx
structure iE where
 fv:Y
 iv:Y
 mv:Y
 xv:Y
structure kF (w:O) (p:iE) (i:iA):Prop where
 fl:aO w p.fv i.fields
 im:sO w p.iv i.imports
 mt:sN w p.mv i.methods
 ex:aO w p.xv i.exports
def iE.val (p:iE) (i:iA):Y:=.agg #[.string i.name,p.fv,p.iv,p.mv,p.xv]
theorem kF.ext {w':O} {p:iE} {i:iA} (h:kF w p i) (hx:aG w w'):kF w' p i:=⟨h.fl.ext hx,h.im.ext hx,h.mt.ext hx,h.ex.ext hx⟩
theorem bR.sl {T:O->List Y->α->Prop} {v:Y} {l:List α} (h:bR T sz w v l):∃ cs,aA w v sz l.length cs:=⟨_,h.choose_spec.1⟩
theorem XL {T:O->List Y->α->Prop} {t x:TypeId} {v:Y} {l:List α} {e:α} (h:XA prog t sz) (ht:∃ d z by_,Program.underlying prog x=some d/\lZ d=true/\cZ prog x z sz by_) (hs:bR T sz w v l) (hi:l[i]?=some e) (hT:∀ w row e,T w row e->row.length=sz)
  (hk:∀ row,T w row e->K (.agg row.toArray) w):V prog (Instr.indexAt t v (i64 i)) w λp w1=>V prog (Instr.loadAt x p) w1 K:=by
 obtain ⟨cs,h1,h2⟩:=hs;obtain ⟨row,h3,h4⟩:=h2 i e hi;have hlt:i < l.length:=(List.getElem?_eq_some_iff.1 hi).1;exact vV h ht h1 (by omega) (by omega) (by simpa using h3) (hT _ _ _ h4) (hk row h4)
theorem pX (w:O) (row:List Y) (m:jR) (h:mF w row m):row.length=4:=by obtain ⟨_,_,_,rfl,_⟩:=h;rfl
theorem CD (w:O) (row:List Y) (m:IM) (h:wN w row m):row.length=4:=by obtain ⟨_,rfl,_⟩:=h;rfl
theorem rS {T:O->List Y->α->Prop} {t s f o ft:Nat} {v:Y} {l:List α} {e:α} (h:XA prog t sz) (hf:FA prog s f o) (hl:L1 prog ft) (hs:bR T sz w v l) (hi:l[i]?=some e)
  (hk:∀ row,T w row e->∃ u,row[o]?=some u/\o < sz/\K u w):V prog (Instr.indexAt t v (i64 i)) w λp w1=>V prog (Instr.fieldAt s p f) w1 λq w2=>V prog (Instr.loadAt ft q) w2 K:=by
 obtain ⟨cs,h1,h2⟩:=hs;obtain ⟨row,h3,h4⟩:=h2 i e hi;have hlt:i < l.length:=(List.getElem?_eq_some_iff.1 hi).1;obtain ⟨u,hu,ho,hK⟩:=hk row h4;refine bDy h hf hl h1 (by omega) (by omega) ?_ hK;rw [<- h3,List.getElem?_take,if_pos ho,List.getElem?_drop] at hu;simpa using hu
theorem yR {T:O->List Y->α->Prop} {t ty:Nat} {v:Y} {l:List α} (h:XA prog t sz) (hs:bR T sz w v l) (hk:K (i64 l.length) w):V prog (Builtin.len_ #[t] ty #[v]) w K:=by
 obtain ⟨cs,h1,_⟩:=hs;exact gE h h1 hk
theorem ldI {v:Y} {l:List lT} (hs:oC w v l) (hi:l[i]?=some x) (hk:K (.agg #[i64 x.op,i64 x.a,i64 x.b]) w):V prog (Instr.indexAt 36 v (i64 i)) w λp w1=>V prog (Instr.loadAt 88 p) w1 K:=by
 have hlt:i < l.length:=(List.getElem?_eq_some_iff.1 hi).1;exact vV kQ gS hs (by omega) (by omega) (l:=[i64 x.op,i64 x.a,i64 x.b]) (by simpa using tE hi) rfl hk
def nmL:List Y:=[.string { data:=#[] },.string { data:=#[112,117,115,104] },.string { data:=#[108,111,97,100] },.string { data:=#[115,116,111,114,101] },.string { data:=#[112,111,112] },.string { data:=#[100,117,112] },.string { data:=#[97,100,100] },.string { data:=#[115,117,98] },.string { data:=#[109,117,108] },.string { data:=#[97,110,100] },.string { data:=#[111,114] },.string { data:=#[120,111,114] },.string { data:=#[115,104,108] },.string { data:=#[115,104,114] },.string { data:=#[115,97,114] },.string { data:=#[110,101,103] },.string { data:=#[110,111,116] },.string { data:=#[100,105,118] },.string { data:=#[114,101,109] },.string { data:=#[101,113] },.string { data:=#[108,116] },.string { data:=#[98,101,108,111,119] },.string { data:=#[112,105,99,107] },.string { data:=#[106,117,109,112] },.string { data:=#[106,117,109,112,105,102] },.string { data:=#[110,117,108,108] },.string { data:=#[105,115,110,117,108,108] },.string { data:=#[110,101,119] },.string { data:=#[108,101,110] },.string { data:=#[103,101,116] },.string { data:=#[112,117,116] },.string { data:=#[99,111,112,121] },.string { data:=#[115,97,109,101] },.string { data:=#[103,101,116,102] },.string { data:=#[112,117,116,102] },.string { data:=#[98,117,102] },.string { data:=#[115,101,110,100] },.string { data:=#[99,97,108,108] },.string { data:=#[99,97,108,108,120] },.string { data:=#[114,101,116] }]
theorem aHo (h:∀ v w',aA w' v 1 40 nmL->aG w w'->K v w'):aB prog 191 #[] w K:=by
 apply aXb;unfold PT;exact jG bCk nmL (by kernel_rfl) (by kernel_rfl) (by decide) (by kernel_rfl) λv w' ho hx=>h v w' (aA.of_own ho) hx
theorem bLl {op:Nat} (h1:1<=op) (h2:op<=39):∃ s:ByteArray,nmL[op]?=some (.string s)/\(s.toList == ({ data:=#[] }:ByteArray).toList)=false:=by
 have:∀ k:Fin 40,k.val=0\/(match nmL[k.val]? with|some (.string s)=>s.toList == ({ data:=#[] }:ByteArray).toList|_=>true)=false:=by decide +kernel
 rcases this ⟨op,by omega⟩ with h|h
 ·simp only at h;omega
 ·simp only at h;split at h
  ·rename_i s hs;exact ⟨s,hs,h⟩
  ·cases h
theorem bDm (h:∀ (s:ByteArray) w',((s.toList == ({ data:=#[] }:ByteArray).toList)=decide (¬ (1<=op/\op<=39)))->aG w w'->K (.string s) w'):aB prog 143 #[i64 op] w K:=by
 apply aZa;unfold RN;refine aHo λv w1 hs x1=>?_;refine aZ.2 ?_;by_cases h1:op < 1
 ·simp only [h1,aR];exact h _ _ (by simp;omega) x1
 ·simp only [h1,aR];refine gE aFg hs ?_;refine fK.2 ?_;by_cases h2:op>=((40:Nat):Int)
  ·simp only [h2,aR];exact h _ _ (by simp;omega) x1
  ·simp only [h2,aR];obtain ⟨k,rfl⟩:∃ k:Nat,op=k:=⟨op.toNat,by omega⟩;obtain ⟨s,hs1,hs2⟩:=bLl (op:=k) (by omega) (by omega);refine mH aFg aIi hs (by omega) (by omega) (by simpa using hs1) (h _ _ ?_ x1);rw [hs2];simp;omega
theorem aRs {lv:Y} {l:List Int} {most:Int} (hs:aO w lv l) (h:∀ b,(b=true↔sV l most)->K (.bool b) w):aB prog 91 #[lv,i64 most] w K:=by
 apply bGx;unfold ZJ;refine ⟨λv w'=>∃ j:Nat,v=i64 j/\j<=l.length/\w'=w/\sY (l.take j),λv _=>l.length - (RowKit.intOf v).toNat,⟨0,rfl,Nat.zero_le _,rfl,λ_ h=>by simp at h⟩,?_⟩;rintro _ _ ⟨j,rfl,hj,rfl,hk⟩ _;have hno:∀ {k:Int},l[j]?=some k->¬ Kd k->K (.bool false) _:=λhk hn=>h false ⟨λh=>(by cases h),λhr=>absurd (hr.1 _ (List.mem_of_getElem? hk)) hn⟩
 have hcap:l.length<=maxLen:=by
  rcases hs.2 with ⟨_,h0⟩|⟨_,_,_,_,h1,h2,_⟩
  ·rw [h0];exact Nat.zero_le _
  ·omega
 refine gE aP hs (aZ.2 (aC (λhlt=>?_) λhge=>?_))
 ·have hj':j < l.length:=by omega
  obtain ⟨k,hk1⟩:=bI hj';refine mH aP aE hs (by omega) (by omega) (cM hk1) (aZ.2 ?_);by_cases h1:k < 1
  ·simp only [h1,aR];exact hno hk1 λh=>by unfold Kd at h;omega
  ·simp only [h1,aR];refine mH aP aE hs (by omega) (by omega) (cM hk1) (jF.2 ?_);by_cases h2:k > 4
   ·simp only [h2,aR];exact hno hk1 λh=>by unfold Kd at h;omega
   ·simp only [h2,aR];refine bJ.2 ?_;rw [lI (by omega) (by unfold maxLen at hcap;omega),bK];refine ⟨⟨j+1,rfl,by omega,rfl,λq hq=>?_⟩,by simp only [aK];omega⟩;rw [List.take_add_one,hk1] at hq;rcases List.mem_append.1 hq with hq|hq
    ·exact hk q hq
    ·simp at hq;subst hq;exact ⟨by omega,by omega⟩
 ·have hjl:j=l.length:=by omega
  subst hjl;rw [List.take_length] at hk;refine gE aP hs (uJ.2 ?_);exact h _ (by simp [sV,hk])
theorem aQi (h:∀ b w',(b=true↔x.right)->aG w w'->K (.bool b) w'):aB prog 92 #[.agg #[i64 x.op,i64 x.a,i64 x.b]] w K:=by
 obtain ⟨op,a,b⟩:=x;apply bGw;unfold ZI;refine bx λb1 w1 hb x1=>?_;refine aV hb aS aE rfl ?_;refine bDm λs w2 hs x2=>?_;have hb:=hb.ext x2;have xx:=x1.trans x2;refine V.ok WQ ?_;rw [hs];have no:∀ {w'},aG w w'->¬ lT.right ⟨op,a,b⟩->K (.bool false) w':=λhx hn=>h false _ ⟨λh=>(by cases h),λhr=>absurd hr hn⟩ hx;by_cases ho:1<=op/\op<=39
 ·simp only [ho,and_self,aR,Int.reduceNeg];refine aV hb aS aE rfl (cL.2 ?_);by_cases h27:op=27
  ·subst h27;simp only [aR,Int.reduceNeg];refine aV hb aS aE rfl ?_;refine WZ ho ?_;simp only [MK,aR,Int.reduceEq,Int.reduceNeg];refine aV hb aS aE rfl ?_;simp only [aR,Int.reduceEq,Int.reduceNeg];refine aV hb aX aE rfl ?_;refine xW ?_;by_cases ha:(3:Int)<=a/\a<=4
   ·simp only [ha,and_self,aR];refine aV hb lV aE rfl ?_;refine xW ?_;by_cases hb1:(0:Int)<=b/\b<=2
    ·simp only [hb1,and_self,aR];exact h true _ ⟨λ_=>⟨ho,ha.1,ha.2,.inl hb1⟩,λ_=>rfl⟩ xx
    ·simp only [hb1,aR];refine aV hb lV aE rfl ?_;refine xW ?_;refine h _ _ ⟨λhd=>⟨ho,ha.1,ha.2,.inr (of_decide_eq_true hd)⟩,λhr=>decide_eq_true (hr.2.2.2.resolve_left hb1)⟩ xx
   ·simp only [ha,aR];exact no xx λhr=>ha ⟨hr.2.1,hr.2.2.1⟩
  ·simp only [h27,aR,Int.reduceNeg];refine aV hb lV aE rfl (cL.2 ?_)
   have hbr:lT.right ⟨op,a,b⟩->b=0:=λhr=>by
    have:=hr.2.2.2;dsimp only at this
    rwa [if_neg h27] at this
   by_cases hb0:b=0
   ·subst hb0;simp only [aR,Int.reduceNeg];refine aV hb aS aE rfl ?_;refine WZ ho (aJ.2 ?_)
    have fin:∀ {lo hi:Int} {w'},lim op=(lo,hi)->aG w w'->K (.bool (decide (lo<=a/\a<=hi))) w':=λ{lo hi w'} hl hx=>by
     refine h _ _ ⟨λhd=>?_,λhr=>?_⟩ hx
     ·have:=of_decide_eq_true hd;refine ⟨ho,?_,?_,?_⟩
      ·rw [hl];exact this.1
      ·rw [hl];exact this.2
      ·dsimp only;rw [if_neg h27]
     ·have h1:=hr.2.1;have h2:=hr.2.2.1;rw [hl] at h1 h2;exact decide_eq_true ⟨h1,h2⟩
    by_cases hop:op=1\/op=2\/op=3\/op=23\/op=24\/op=25\/op=33\/op=34\/op=35\/op=36\/op=37\/op=38
    ·rcases hop with rfl|rfl|rfl|rfl|rfl|rfl|rfl|rfl|rfl|rfl|rfl|rfl <;>
      (simp only [MK,Int.reduceEq,or_self,or_true,or_false,aR,Int.reduceEq,Int.reduceNeg]
       refine aV hb (by first|exact cX|exact cW|exact cA|exact cV|exact cK|exact cJ|exact bZ|exact cU|exact cT|exact cS|exact cI|exact cH|exact cG|exact bW|exact cR|exact bV|exact dG|exact cQ|exact cP|exact dF|exact dE|exact dL|exact dK|exact dJ|exact dD|exact dI|exact dT|exact dS|exact eC|exact eQ|exact eB|exact dR|exact fB|exact eO|exact fA|exact bU|exact eA|exact dZ|exact dY|exact eN|exact dQ|exact bY|exact cF|exact eZ|exact eM|exact cE|exact dX|exact fH|exact dW|exact fS|exact eY|exact bG|exact eX|exact cD|exact eJ|exact eW|exact fR|exact dC|exact fQ|exact gM|exact gD|exact iK|exact jE|exact dV|exact gK|exact jD|exact iJ|exact jC|exact jB|exact jA|exact iZ|exact iI|exact bQ|exact gC|exact gJ|exact eI|exact eG|exact kL|exact kK|exact lN|exact jT|exact fP|exact bP|exact kP|exact lM|exact gT|exact eR|exact dM|exact gG|exact lB|exact cC|exact lL|exact oA|exact rG|exact qG|exact qF|exact qE|exact qD|exact qC|exact qB|exact rF|exact oY|exact oX|exact mK|exact nZ|exact qA|exact mJ|exact mV|exact mU|exact mI|exact rE|exact nL|exact mT|exact rD|exact aS) (by first|exact iD|exact iY|exact iN|exact iX|exact kT|exact iW|exact kZ|exact iV|exact iU|exact bE|exact jP|exact iT|exact dN|exact aE) rfl ?_;simp only [aR,Int.reduceEq,Int.reduceNeg]
       refine aV hb (by first|exact cX|exact cW|exact cA|exact cV|exact cK|exact cJ|exact bZ|exact cU|exact cT|exact cS|exact cI|exact cH|exact cG|exact bW|exact cR|exact bV|exact dG|exact cQ|exact cP|exact dF|exact dE|exact dL|exact dK|exact dJ|exact dD|exact dI|exact dT|exact dS|exact eC|exact eQ|exact eB|exact dR|exact fB|exact eO|exact fA|exact bU|exact eA|exact dZ|exact dY|exact eN|exact dQ|exact bY|exact cF|exact eZ|exact eM|exact cE|exact dX|exact fH|exact dW|exact fS|exact eY|exact bG|exact eX|exact cD|exact eJ|exact eW|exact fR|exact dC|exact fQ|exact gM|exact gD|exact iK|exact jE|exact dV|exact gK|exact jD|exact iJ|exact jC|exact jB|exact jA|exact iZ|exact iI|exact bQ|exact gC|exact gJ|exact eI|exact eG|exact kL|exact kK|exact lN|exact jT|exact fP|exact bP|exact kP|exact lM|exact gT|exact eR|exact dM|exact gG|exact lB|exact cC|exact lL|exact oA|exact rG|exact qG|exact qF|exact qE|exact qD|exact qC|exact qB|exact rF|exact oY|exact oX|exact mK|exact nZ|exact qA|exact mJ|exact mV|exact mU|exact mI|exact rE|exact nL|exact mT|exact rD|exact aS|exact aX) (by first|exact iD|exact iY|exact iN|exact iX|exact kT|exact iW|exact kZ|exact iV|exact iU|exact bE|exact jP|exact iT|exact dN|exact aE) rfl ?_;exact xW (fin rfl xx))
    ·simp only [not_or] at hop;obtain ⟨n1,n2,n3,n4,n5,n6,n7,n8,n9,n10,n11,n12⟩:=hop;have e0:MK op=0:=by unfold MK;simp [*]
     have el:lim op=(0,0):=by unfold lim;simp [*]
     simp only [e0,aR,Int.reduceNeg];refine aV hb aX aE rfl (cL.2 ?_);by_cases ha:a=0
     ·subst ha;simp only [aR,Int.reduceNeg];refine aV hb aS aE rfl ?_;simp only [n1,n2,n3,n4,n5,n6,n7,n8,n9,n10,n11,n12,h27,aR,Int.reduceNeg];have:=fin el xx;simpa using this
     ·simp only [ha,aR,Int.reduceNeg];refine no xx λhr=>ha ?_;have h1:=hr.2.1;have h2:=hr.2.2.1;rw [el] at h1 h2;dsimp only at h1 h2;omega
   ·simp only [hb0,aR,Int.reduceNeg];exact no xx λhr=>hb0 (hbr hr)
 ·simp only [ho,aR,Int.reduceNeg];exact no xx λhr=>ho hr.1
def cY (φ:Prop) (w:O) (v:Y) (w':O):Prop:=∃ b,v=.bool b/\(b=true↔φ)/\aG w w'
theorem cY.yes (h:φ) (hx:aG w w'):cY φ w (.bool true) w':=⟨true,rfl,⟨λ_=>h,λ_=>rfl⟩,hx⟩
theorem cY.no (h:¬ φ) (hx:aG w w'):cY φ w (.bool false) w':=⟨false,rfl,⟨λe=>(by cases e),λe=>absurd e h⟩,hx⟩
theorem ldP {t b:Nat} {u:Y} {cs:List Y} (hl:L1 prog t) (hb:bF w b cs) (hu:cs[0]?=some u) (hk:K u w):V prog (Instr.loadAt t (.pointer (some ⟨b,0,none⟩))) w K:=by
 obtain ⟨d,hd,ha⟩:=hl;exact V.ok (jN hd ha (by have:=hb 0 u hu;simpa using this)) hk
def KX (_:O) (row:List Y) (x:lT):Prop:=row=[i64 x.op,i64 x.a,i64 x.b]
theorem oC.strs {v:Y} {l:List lT} (h:oC w v l):bR KX 3 w v l:=⟨_,h,λ_ _ hk=>⟨_,tE hk,rfl⟩⟩
theorem XO (w:O) (row:List Y) (x:lT) (h:KX w row x):row.length=3:=by cases h;rfl
theorem KX.ext {row:List Y} (h:KX w row x) (_:aG w w'):KX w' row x:=h
theorem CZ {T:O->List Y->α->Prop} {v:Y} {l:List α} (h:bR T sz w v l):l.length<=maxLen:=by
 obtain ⟨cs,h,_⟩:=h;rcases h.2 with ⟨_,h0⟩|⟨_,_,_,_,h1,h2,_⟩
 ·rw [h0];exact Nat.zero_le _
 ·omega
theorem uX {v:Y} {l:List Int} (hs:aO w v l):l.length<=maxLen:=by
 rcases hs.2 with ⟨_,h0⟩|⟨_,_,_,_,h1,h2,_⟩
 ·rw [h0];exact Nat.zero_le _
 ·omega
theorem bEu {lv:Y} {l:List Int} {q:Int->Prop} (hs:aO w lv l) (hf:∀ x∈l,∀ w',aG w w'->rY prog fv #[i64 x] w' (cY (q x) w')) (hk:∀ r w',aG w w'->(0<=r↔∃ x∈l,q x)->K (i64 r) w') :
  aB prog 195 #[lv,fv] w K:=by
 apply aWx;unfold PP;have hcap:=uX hs;refine gE aP hs ?_;refine ⟨λv w'=>∃ j:Nat,v=i64 j/\j<=l.length/\aG w w'/\∀ x∈l.take j,¬ q x,λv _=>l.length - (RowKit.intOf v).toNat,⟨0,rfl,Nat.zero_le _,aG.refl _,λ_ h=>by simp at h⟩,?_⟩;rintro _ w1 ⟨j,rfl,hj,x1,hno⟩ _;refine aZ.2 (aC (λhlt=>?_) λhge=>?_)
 ·obtain ⟨x,hx⟩:=bI (l:=l) (j:=j) (by omega);refine mH aP aE (hs.ext x1) (by omega) (by omega) (cM hx) ?_;refine (hf x (List.mem_of_getElem? hx) w1 x1).mono λv w2 ⟨b,hv,hb,x2⟩=>?_;subst hv;cases b with
  | true=>rw [bH];exact hk _ _ (x1.trans x2) ⟨λ_=>⟨x,List.mem_of_getElem? hx,hb.1 rfl⟩,λ_=>by omega⟩
  | false=>
   rw [aM];refine bJ.2 ?_;rw [lI (by omega) (by unfold maxLen at hcap;omega),bK];refine ⟨⟨j+1,rfl,by omega,x1.trans x2,λy hy=>?_⟩,by simp only [aK];omega⟩;rw [List.take_add_one,hx] at hy;rcases List.mem_append.1 hy with hy|hy
   ·exact hno y hy
   ·simp at hy;subst hy;exact λh=>by have:=hb.2 h;cases this
 ·have hjl:j=l.length:=by omega
  subst hjl;rw [List.take_length] at hno;exact hk _ _ x1 ⟨λh=>by omega,λ⟨x,h1,h2⟩=>absurd h2 (hno x h1)⟩
theorem bBz {lv:Y} {l:List Int} {q:Int->Prop} (hs:aO w lv l) (hf:∀ x∈l,∀ w',aG w w'->rY prog fv #[i64 x] w' (cY (q x) w')):aB prog 156 #[lv,fv] w (cY (∃ x∈l,q x) w):=by
 apply aYm;unfold QZ;refine bEu hs hf λr w1 x1 hr=>fK.2 ?_;exact ⟨_,rfl,decide_eq_true_iff.trans hr,x1⟩
theorem HP (h:K (.bool (decide (Kd k))) w):aB prog 158 #[i64 k] w K:=by
 apply aYk;unfold QX;refine fK.2 ?_;unfold Kd at h;by_cases h1:k>=1
 ·have h1':1<=k:=h1;simp only [h1,true_and,aR] at h ⊢;exact h
 ·have h1':¬ 1<=k:=h1;simp only [h1,false_and,aR] at h ⊢;exact h
theorem BI (h:K (.bool (decide (0<=k/\k<=4))) w):aB prog 161 #[i64 k] w K:=by
 apply aYg;unfold QU;by_cases h0:k=0
 ·subst h0;simp only [aR];exact h
 ·simp only [h0,aR];refine HP ?_;have e:(Kd k)↔(0<=k/\k<=4):=by unfold Kd;omega
  simp only [e];exact h
theorem yU {lv:Y} {l:List Int} {most:Int} (hs:aO w lv l):aB prog 107 #[lv,i64 most] w (cY (sV l most) w):=by
 apply bAn;unfold SS;refine gE aP hs (uJ.2 ?_);by_cases h1:(l.length:Int)<=most
 ·simp only [h1,aR];refine (bBz (q:=λk=>¬ Kd k) hs λx _ w' _=>⟨_,_,rfl,?_⟩).mono λv w1 ⟨b,hv,hb,x1⟩=>?_
  ·show aB prog _ #[i64 x] w' _;apply aYl;unfold QY;refine HP (dO.2 ?_);exact ⟨_,rfl,by simp,aG.refl _⟩
  ·subst hv;refine dO.2 ⟨_,rfl,?_,x1⟩;unfold sV sY;rw [Bool.not_eq_true',Bool.eq_false_iff,ne_eq,hb];constructor
   ·intro h;exact ⟨λk hk=>Classical.byContradiction λhn=>h ⟨k,hk,hn⟩,h1⟩
   ·rintro ⟨h,_⟩ ⟨k,hk,hn⟩;exact hn (h k hk)
 ·simp only [h1,aR];exact cY.no (λh=>h1 h.2) (aG.refl _)
theorem NK {lv:Y} {l:List IM} {q:IM->Prop} (hs:bR wN 4 w lv l) (hf:∀ x∈l,∀ row w',wN w' row x->aG w w'->rY prog fv #[.agg row.toArray] w' (cY (q x) w')) (hk:∀ r w',aG w w'->(0<=r↔∃ x∈l,q x)->K (i64 r) w') :
  aB prog 196 #[lv,fv] w K:=by
 apply aWw;unfold PO;have hcap:=CZ hs;refine yR oD hs ?_;refine ⟨λv w'=>∃ j:Nat,v=i64 j/\j<=l.length/\aG w w'/\∀ x∈l.take j,¬ q x,λv _=>l.length - (RowKit.intOf v).toNat,⟨0,rfl,Nat.zero_le _,aG.refl _,λ_ h=>by simp at h⟩,?_⟩;rintro _ w1 ⟨j,rfl,hj,x1,hno⟩ _;refine aZ.2 (aC (λhlt=>?_) λhge=>?_)
 ·obtain ⟨x,hx⟩:=bI (l:=l) (j:=j) (by omega);refine XL oD JV (bR.ext (λh k=>h.ext k) hs x1) hx CD λrow hrow=>?_;refine (hf x (List.mem_of_getElem? hx) row w1 hrow x1).mono λv w2 ⟨b,hv,hb,x2⟩=>?_;subst hv;cases b with
  | true=>rw [bH];exact hk _ _ (x1.trans x2) ⟨λ_=>⟨x,List.mem_of_getElem? hx,hb.1 rfl⟩,λ_=>by omega⟩
  | false=>
   rw [aM];refine bJ.2 ?_;rw [lI (by omega) (by unfold maxLen at hcap;omega),bK];refine ⟨⟨j+1,rfl,by omega,x1.trans x2,λy hy=>?_⟩,by simp only [aK];omega⟩;rw [List.take_add_one,hx] at hy;rcases List.mem_append.1 hy with hy|hy
   ·exact hno y hy
   ·simp at hy;subst hy;exact λh=>by have:=hb.2 h;cases this
 ·have hjl:j=l.length:=by omega
  subst hjl;rw [List.take_length] at hno;exact hk _ _ x1 ⟨λh=>by omega,λ⟨x,h1,h2⟩=>absurd h2 (hno x h1)⟩
theorem aEw {lv:Y} {l:List IM} {q:IM->Prop} {g:Nat} (hs:bR wN 4 w lv l) (hf:∀ x∈l,∀ row w',wN w' row x->aG w w'->aB prog g #[.agg row.toArray] w' (cY (q x) w')) :
  aB prog 108 #[lv,.func (.func g) #[] #[]] w (cY (∀ x∈l,q x) w):=by
 apply bAm;unfold SR;refine bx λb w1 hb x1=>fnK ?_;refine aB.mono (R:=cY (∃ x∈l,¬ q x) w1) ?_ λv w2 ⟨t,hv,ht,x2⟩=>?_
 ·apply aYj;unfold QW;refine NK (q:=λx=>¬ q x) (bR.ext (λh k=>h.ext k) hs x1) (λx hx row w2 hrow x2=>⟨_,_,rfl,?_⟩) λr w2 x2 hr=>fK.2 ⟨_,rfl,decide_eq_true_iff.trans hr,x2⟩;show aB prog _ #[.agg row.toArray,_] w2 _;apply aYh;unfold QV;refine bx λb2 w3 hb2 x3=>?_;refine ldP iW ((hb.ext x2).ext x3) rfl ?_;have hl:=CD w2 row x hrow;have hb2:bF w3 b2 row:=hb2;refine iC hb2 JV hl ?_;refine ⟨_,_,rfl,?_⟩;refine (hf x hx row w3 (hrow.ext x3) ((x1.trans x2).trans x3)).mono λv w4 ⟨t,hv,ht,x4⟩=>?_;subst hv;refine dO.2 ⟨_,rfl,?_,x3.trans x4⟩;rw [Bool.not_eq_true',Bool.eq_false_iff,ne_eq,ht]
 ·subst hv;refine dO.2 ⟨_,rfl,?_,x1.trans x2⟩;rw [Bool.not_eq_true',Bool.eq_false_iff,ne_eq,ht];constructor
  ·intro h x hx;exact Classical.byContradiction λhn=>h ⟨x,hx,hn⟩
  ·rintro h ⟨x,hx,hn⟩;exact hn (h x hx)
theorem NJ {lv:Y} {l:List jR} {q:jR->Prop} (hs:bR mF 4 w lv l) (hf:∀ x∈l,∀ row w',mF w' row x->aG w w'->rY prog fv #[.agg row.toArray] w' (cY (q x) w')) (hk:∀ r w',aG w w'->(0<=r↔∃ x∈l,q x)->K (i64 r) w') :
  aB prog 197 #[lv,fv] w K:=by
 apply aWv;unfold PN;have hcap:=CZ hs;refine yR iF hs ?_;refine ⟨λv w'=>∃ j:Nat,v=i64 j/\j<=l.length/\aG w w'/\∀ x∈l.take j,¬ q x,λv _=>l.length - (RowKit.intOf v).toNat,⟨0,rfl,Nat.zero_le _,aG.refl _,λ_ h=>by simp at h⟩,?_⟩;rintro _ w1 ⟨j,rfl,hj,x1,hno⟩ _;refine aZ.2 (aC (λhlt=>?_) λhge=>?_)
 ·obtain ⟨x,hx⟩:=bI (l:=l) (j:=j) (by omega);refine XL iF nW (bR.ext (λh k=>h.ext k) hs x1) hx pX λrow hrow=>?_;refine (hf x (List.mem_of_getElem? hx) row w1 hrow x1).mono λv w2 ⟨b,hv,hb,x2⟩=>?_;subst hv;cases b with
  | true=>rw [bH];exact hk _ _ (x1.trans x2) ⟨λ_=>⟨x,List.mem_of_getElem? hx,hb.1 rfl⟩,λ_=>by omega⟩
  | false=>
   rw [aM];refine bJ.2 ?_;rw [lI (by omega) (by unfold maxLen at hcap;omega),bK];refine ⟨⟨j+1,rfl,by omega,x1.trans x2,λy hy=>?_⟩,by simp only [aK];omega⟩;rw [List.take_add_one,hx] at hy;rcases List.mem_append.1 hy with hy|hy
   ·exact hno y hy
   ·simp at hy;subst hy;exact λh=>by have:=hb.2 h;cases this
 ·have hjl:j=l.length:=by omega
  subst hjl;rw [List.take_length] at hno;exact hk _ _ x1 ⟨λh=>by omega,λ⟨x,h1,h2⟩=>absurd h2 (hno x h1)⟩
theorem aEv {lv:Y} {l:List jR} {q:jR->Prop} {g:Nat} (hs:bR mF 4 w lv l) (hf:∀ x∈l,∀ row w',mF w' row x->aG w w'->aB prog g #[.agg row.toArray] w' (cY (q x) w')) :
  aB prog 110 #[lv,.func (.func g) #[] #[]] w (cY (∀ x∈l,q x) w):=by
 apply bAj;unfold SQ;refine bx λb w1 hb x1=>fnK ?_;refine aB.mono (R:=cY (∃ x∈l,¬ q x) w1) ?_ λv w2 ⟨t,hv,ht,x2⟩=>?_
 ·apply aYf;unfold QS;refine NJ (q:=λx=>¬ q x) (bR.ext (λh k=>h.ext k) hs x1) (λx hx row w2 hrow x2=>⟨_,_,rfl,?_⟩) λr w2 x2 hr=>fK.2 ⟨_,rfl,decide_eq_true_iff.trans hr,x2⟩;show aB prog _ #[.agg row.toArray,_] w2 _;apply aYe;unfold QR;refine bx λb2 w3 hb2 x3=>?_;refine ldP iV ((hb.ext x2).ext x3) rfl ?_;have hl:=pX w2 row x hrow;have hb2:bF w3 b2 row:=hb2;refine iC hb2 nW hl ?_;refine ⟨_,_,rfl,?_⟩;refine (hf x hx row w3 (hrow.ext x3) ((x1.trans x2).trans x3)).mono λv w4 ⟨t,hv,ht,x4⟩=>?_;subst hv;refine dO.2 ⟨_,rfl,?_,x3.trans x4⟩;rw [Bool.not_eq_true',Bool.eq_false_iff,ne_eq,ht]
 ·subst hv;refine dO.2 ⟨_,rfl,?_,x1.trans x2⟩;rw [Bool.not_eq_true',Bool.eq_false_iff,ne_eq,ht];constructor
  ·intro h x hx;exact Classical.byContradiction λhn=>h ⟨x,hx,hn⟩
  ·rintro h ⟨x,hx,hn⟩;exact hn (h x hx)
theorem UM {lv:Y} {l:List lT} {q:lT->Prop} (hs:bR KX 3 w lv l) (hf:∀ x∈l,∀ row w',KX w' row x->aG w w'->rY prog fv #[.agg row.toArray] w' (cY (q x) w')) (hk:∀ r w',aG w w'->(0<=r↔∃ x∈l,q x)->K (i64 r) w') :
  aB prog 219 #[lv,fv] w K:=by
 apply aVy;unfold OR;have hcap:=CZ hs;refine yR kQ hs ?_;refine ⟨λv w'=>∃ j:Nat,v=i64 j/\j<=l.length/\aG w w'/\∀ x∈l.take j,¬ q x,λv _=>l.length - (RowKit.intOf v).toNat,⟨0,rfl,Nat.zero_le _,aG.refl _,λ_ h=>by simp at h⟩,?_⟩;rintro _ w1 ⟨j,rfl,hj,x1,hno⟩ _;refine aZ.2 (aC (λhlt=>?_) λhge=>?_)
 ·obtain ⟨x,hx⟩:=bI (l:=l) (j:=j) (by omega);refine XL kQ gS (bR.ext (λh k=>h.ext k) hs x1) hx XO λrow hrow=>?_;refine (hf x (List.mem_of_getElem? hx) row w1 hrow x1).mono λv w2 ⟨b,hv,hb,x2⟩=>?_;subst hv;cases b with
  | true=>rw [bH];exact hk _ _ (x1.trans x2) ⟨λ_=>⟨x,List.mem_of_getElem? hx,hb.1 rfl⟩,λ_=>by omega⟩
  | false=>
   rw [aM];refine bJ.2 ?_;rw [lI (by omega) (by unfold maxLen at hcap;omega),bK];refine ⟨⟨j+1,rfl,by omega,x1.trans x2,λy hy=>?_⟩,by simp only [aK];omega⟩;rw [List.take_add_one,hx] at hy;rcases List.mem_append.1 hy with hy|hy
   ·exact hno y hy
   ·simp at hy;subst hy;exact λh=>by have:=hb.2 h;cases this
 ·have hjl:j=l.length:=by omega
  subst hjl;rw [List.take_length] at hno;exact hk _ _ x1 ⟨λh=>by omega,λ⟨x,h1,h2⟩=>absurd h2 (hno x h1)⟩
theorem aKh {lv:Y} {l:List lT} {q:lT->Prop} {g:Nat} (hs:bR KX 3 w lv l) (hf:∀ x∈l,∀ row w',KX w' row x->aG w w'->aB prog g #[.agg row.toArray] w' (cY (q x) w')) :
  aB prog 164 #[lv,.func (.func g) #[] #[]] w (cY (∀ x∈l,q x) w):=by
 apply aYd;unfold QQ;refine bx λb w1 hb x1=>fnK ?_;refine aB.mono (R:=cY (∃ x∈l,¬ q x) w1) ?_ λv w2 ⟨t,hv,ht,x2⟩=>?_
 ·apply aWu;unfold PM;refine UM (q:=λx=>¬ q x) (bR.ext (λh k=>h.ext k) hs x1) (λx hx row w2 hrow x2=>⟨_,_,rfl,?_⟩) λr w2 x2 hr=>fK.2 ⟨_,rfl,decide_eq_true_iff.trans hr,x2⟩;show aB prog _ #[.agg row.toArray,_] w2 _;apply aWt;unfold PL;refine bx λb2 w3 hb2 x3=>?_;refine ldP iX ((hb.ext x2).ext x3) rfl ?_;have hl:=XO w2 row x hrow;have hb2:bF w3 b2 row:=hb2;refine iC hb2 gS hl ?_;refine ⟨_,_,rfl,?_⟩;refine (hf x hx row w3 (hrow.ext x3) ((x1.trans x2).trans x3)).mono λv w4 ⟨t,hv,ht,x4⟩=>?_;subst hv;refine dO.2 ⟨_,rfl,?_,x3.trans x4⟩;rw [Bool.not_eq_true',Bool.eq_false_iff,ne_eq,ht]
 ·subst hv;refine dO.2 ⟨_,rfl,?_,x1.trans x2⟩;rw [Bool.not_eq_true',Bool.eq_false_iff,ne_eq,ht];constructor
  ·intro h x hx;exact Classical.byContradiction λhn=>h ⟨x,hx,hn⟩
  ·rintro h ⟨x,hx,hn⟩;exact hn (h x hx)
end Go.Proofs.YtjcmcfidblhnnaaGreatDoor
namespace Go.Tc
def lT.rg (x:lT):Prop:=-9223372036854775808<=x.b/\x.b<=9223372036854775807
def iA.rg (i:iA):Prop:=∀ m∈i.methods,∀ x∈m.code,x.rg
theorem aSs {b:Int} (h0:0<=b) (h1:b<=9223372036854775807):IntKind.i64.wrap (BitVec.ofInt IntKind.i64.bits b &&& ~~~ BitVec.ofInt IntKind.i64.bits 4).toNat<=2↔(0<=b/\b<=2)\/(4<=b/\b<=6):=by
 obtain ⟨n,rfl⟩:∃ n:Nat,b=n:=⟨b.toNat,by omega⟩
 have e:(BitVec.ofInt IntKind.i64.bits (n:Int) &&& ~~~ BitVec.ofInt IntKind.i64.bits 4).toNat=n &&& 18446744073709551611:=by
  have hb:IntKind.i64.bits=64:=rfl;rw [BitVec.toNat_and,BitVec.toNat_not]
  have e1:(BitVec.ofInt IntKind.i64.bits (n:Int)).toNat=n:=by
   rw [hb,BitVec.ofInt_natCast,BitVec.toNat_ofNat];exact Nat.mod_eq_of_lt (by omega)
  have e2:(BitVec.ofInt IntKind.i64.bits 4).toNat=4:=by decide
  rw [e1,e2,hb]
 rw [e];have hle:n &&& 18446744073709551611<=n:=Nat.and_le_left
 have hw:IntKind.i64.wrap ((n &&& 18446744073709551611:Nat):Int)=((n &&& 18446744073709551611:Nat):Int):=by
  simp only [IntKind.wrap_i64];omega
 rw [hw];by_cases h8:n < 8
 ·have:n=0\/n=1\/n=2\/n=3\/n=4\/n=5\/n=6\/n=7:=by omega
  rcases this with rfl|rfl|rfl|rfl|rfl|rfl|rfl|rfl<;>decide
 ·have e3:(n &&& 18446744073709551611) >>> 3=n >>> 3:=by
   rw [Nat.shiftRight_and_distrib];have e4:18446744073709551611 >>> 3=2 ^ 61 - 1:=by decide
   rw [e4,Nat.and_two_pow_sub_one_eq_mod];refine Nat.mod_eq_of_lt ?_;rw [Nat.shiftRight_eq_div_pow];omega
  rw [Nat.shiftRight_eq_div_pow,Nat.shiftRight_eq_div_pow] at e3;constructor
  iterate 2
   ·intro h;omega
end Go.Tc
namespace Go.Proofs.YtjcmcfidblhnnaaGreatDoor
open Tryz
open Go.Vc Go.Tc
variable {w:O} {K:Y->O->Prop}
variable {P:Program} {a op:Int} {x:lT} {w':O} {m:jR} {i:iA} {p:iE}
theorem MD {t:TypeId} {k:IntKind} {b:Int}:(binOp .andNot t (.int k a) (.int k b)).run P w=.ok (.int k (k.wrap (BitVec.ofInt k.bits a &&& ~~~ BitVec.ofInt k.bits b).toNat)) w:=by simp [binOp,Op.intBits]
theorem aGj (hr:x.rg):aB prog 165 #[.agg #[i64 x.op,i64 x.a,i64 x.b]] w (cY x.right w):=by
 obtain ⟨op,a,b⟩:=x;apply aYc;suffices key:∀ R:Y->O->Prop,(∀ v w',cY (lT.right ⟨op,a,b⟩) w v w'->R v w')->FN (.agg #[i64 op,i64 a,i64 b]) w R from key _ λ_ _ h=>h;intro R hR;unfold FN;refine bx λb1 w1 hb x1=>?_;refine aV hb aS aE rfl ?_;refine aDo ?_;refine gR.2 (gQ.2 ?_);have no:¬ lT.right ⟨op,a,b⟩->R (.bool false) w1:=λhn=>hR _ _ (cY.no hn x1);refine aV hb aS aE rfl (aZ.2 ?_);by_cases h1:op < 1
 ·simp only [h1,aR];exact no λh=>by have:=h.1.1;dsimp only at this;omega
 simp only [h1,aR];refine aV hb aS aE rfl (jF.2 ?_);by_cases h2:op > 39
 ·simp only [h2,aR];exact no λh=>by have:=h.1.2;dsimp only at this;omega
 simp only [h2,aR];refine aV hb aX aE rfl (aZ.2 ?_);by_cases h3:a < (lim op).1
 ·simp only [h3,aR];exact no λh=>by have:=h.2.1;dsimp only at this;omega
 simp only [h3,aR];refine aV hb aX aE rfl (jF.2 ?_);by_cases h4:a > (lim op).2
 ·simp only [h4,aR];exact no λh=>by have:=h.2.2.1;dsimp only at this;omega
 simp only [h4,aR];refine aV hb aS aE rfl (aJ.2 ?_);have base:(1<=op/\op<=39)/\(lim op).1<=a/\a<=(lim op).2:=⟨by omega,by omega,by omega⟩;by_cases h5:op=27
 ·simp only [h5,aR]
  have hright:lT.right ⟨op,a,b⟩↔(0<=b/\b<=2)\/(4<=b/\b<=6):=by
   unfold lT.right;dsimp only;rw [if_pos h5];exact ⟨λh=>h.2.2.2,λh=>⟨base.1,base.2.1,base.2.2,h⟩⟩
  refine aV hb lV aE rfl (fK.2 ?_);by_cases h6:b>=0
  ·simp only [h6,aR];refine aV hb lV aE rfl (V.ok MD (uJ.2 ?_));exact hR _ _ ⟨_,rfl,decide_eq_true_iff.trans ((aSs h6 hr.2).trans hright.symm),x1⟩
  ·simp only [h6,aR];exact no λh=>by rw [hright] at h;omega
 ·simp only [h5,aR];refine aV hb lV aE rfl (aJ.2 ?_);refine hR _ _ ⟨_,rfl,decide_eq_true_iff.trans ?_,x1⟩;unfold lT.right;dsimp only;rw [if_neg h5];exact ⟨λh=>⟨base.1,base.2.1,base.2.2,h⟩,λh=>h.2.2.2⟩
def vF (w0:O) (nm:ByteArray):Prop:=∀ w,aG w0 w->aB prog 90 #[.string nm] w (cY True w)/\aB prog 106 #[.string nm] w (cY True w)
def lO (w0:O) (i:iA):Prop:=vF w0 i.name/\∀ x∈i.imports,vF w0 x.name
theorem vF.ext {nm:ByteArray} (h:vF w nm) (hx:aG w w'):vF w' nm:=λw2 hx2=>h w2 (hx.trans hx2)
theorem lO.ext {w w':O} {i:iA} (h:lO w i) (hx:aG w w'):lO w' i:=⟨h.1.ext hx,λx hm=>(h.2 x hm).ext hx⟩
theorem cY.T {v:Y} (h:cY True w v w'):v=.bool true/\aG w w':=by
 obtain ⟨b,hv,hb,x⟩:=h;rw [hb.2 trivial] at hv;exact ⟨hv,x⟩
theorem aDv {row:List Y} {x:IM} (hrow:wN w row x) (hn:vF w x.name):aB prog 109 #[.agg row.toArray] w (cY x.right w):=by
 obtain ⟨pv,rfl,hp⟩:=hrow;apply bAl;suffices key:∀ R:Y->O->Prop,(∀ v w',cY x.right w v w'->R v w')->FT (.agg [.string x.name,i64 x.exp,pv,i64 x.result].toArray) w R from key _ λ_ _ h=>h;intro R hR;unfold FT;refine bx λb1 w1 hb x1=>?_;refine aV hb eN aIi rfl ?_;refine (hn w1 x1).2.mono λv w2 hv=>?_;obtain ⟨rfl,x2⟩:=hv.T;have hb:=hb.ext x2;have xx:=x1.trans x2;simp only [aR];refine aV hb dQ aE rfl (fK.2 ?_);by_cases h1:x.exp>=0
 case neg=>simp only [h1,aR];exact hR _ _ (cY.no (λh=>h1 h.1.1) xx)
 simp only [h1,aR];refine aV hb dQ aE rfl (aZ.2 ?_);by_cases h2:x.exp < 4
 case neg=>simp only [h2,aR];exact hR _ _ (cY.no (λh=>h2 h.1.2) xx)
 simp only [h2,aR];refine aV hb bY bE rfl ?_;refine (yU (hp.ext xx)).mono λv w3 ⟨b,hv,hbk,x3⟩=>?_;subst hv;have hb:=hb.ext x3;have xx:=xx.trans x3;cases b with
 | false=>simp only [aR];exact hR _ _ (cY.no (λh=>by have:=hbk.2 h.2.1;cases this) xx)
 | true=>
  simp only [aR];refine aV hb cF aE rfl (BI ?_);exact hR _ _ ⟨_,rfl,decide_eq_true_iff.trans ⟨λh=>⟨⟨h1,h2⟩,hbk.1 rfl,h⟩,λh=>h.2.2⟩,xx⟩
theorem aDl {row:List Y} (hrow:mF w row m) (hr:∀ x∈m.code,x.rg):aB prog 111 #[.agg row.toArray] w (cY m.right w):=by
 obtain ⟨pv,lv,cv,rfl,hp,hl,hc⟩:=hrow;have cp:=uX hp;apply bAi;suffices key:∀ R:Y->O->Prop,(∀ v w',cY m.right w v w'->R v w')->FS (.agg [pv,i64 m.result,lv,cv].toArray) w R from key _ λ_ _ h=>h;intro R hR;unfold FS;refine bx λb1 w1 hb x1=>?_;refine aV hb dM bE rfl ?_;refine (yU (hp.ext x1)).mono λv w2 ⟨b,hv,hk1,x2⟩=>?_;subst hv;have hb:=hb.ext x2;have xx:=x1.trans x2;cases b with
 | false=>simp only [aR];exact hR _ _ (cY.no (λh=>by have:=hk1.2 h.1;cases this) xx)
 | true=>
 simp only [aR];refine aV hb gG aE rfl (BI ?_);by_cases h2:0<=m.result/\m.result<=4
 case neg=>simp only [h2,aR];exact hR _ _ (cY.no (λh=>h2 h.2.1) xx)
 simp only [h2,and_self,aR];refine aV hb lB bE rfl ?_;refine aV hb dM bE rfl (gE aP (hp.ext xx) (fT.2 ?_));rw [lI (by unfold maxLen at cp;omega) (by omega)];refine (yU (hl.ext xx)).mono λv w3 ⟨b,hv,hk3,x3⟩=>?_;subst hv;have hb:=hb.ext x3;have xx:=xx.trans x3;cases b with
 | false=>simp only [aR];exact hR _ _ (cY.no (λh=>by have:=hk3.2 h.2.2.1;cases this) xx)
 | true=>
 simp only [aR];refine aV hb cC hU rfl (gE kQ (hc.ext xx) (fK.2 ?_));by_cases h4:(m.code.length:Int)>=1
 case neg=>simp only [h4,aR];exact hR _ _ (cY.no (λh=>h4 (by have:=h.2.2.2.1.1;omega)) xx)
 simp only [h4,aR];refine aV hb cC hU rfl (gE kQ (hc.ext xx) (uJ.2 ?_));by_cases h5:(m.code.length:Int)<=120
 case neg=>simp only [h5,aR];exact hR _ _ (cY.no (λh=>h5 (by have:=h.2.2.2.1.2;omega)) xx)
 simp only [h5,aR];refine aV hb cC hU rfl ?_;refine (aKh (q:=λx=>x.right) (hc.ext xx).strs λx hx row w' hrow _=>?_).mono λv w4 ⟨b,hv,hk6,x4⟩=>?_
 ·cases hrow;exact aGj (hr x hx)
 ·subst hv;refine hR _ _ ⟨b,rfl,?_,xx.trans x4⟩;rw [hk6];exact ⟨λh=>⟨hk1.1 rfl,h2,hk3.1 rfl,⟨by omega,by omega⟩,h⟩,λh=>h.2.2.2.2⟩
theorem bBh (h:1<=i.methods.length):i.methods[0]?=some (i.meth 0):=by
 unfold iA.meth;rw [Int.toNat_zero,List.getD_eq_getElem?_getD,List.getElem?_eq_getElem (by omega)];rfl
theorem aGk (h:kF w p i) (hr:i.rg) (hn:lO w i):aB prog 56 #[p.val i] w (cY i.right w):=by
 apply bIg;suffices key:∀ R:Y->O->Prop,(∀ v w',cY i.right w v w'->R v w')->LA (p.val i) w R from key _ λ_ _ h=>h;intro R hR;unfold LA iE.val;refine bx λb1 w1 hb x1=>?_;refine aV hb lN aIi rfl ?_;refine (hn.1 w1 x1).2.mono λv w2 hv=>?_;obtain ⟨rfl,x2⟩:=hv.T;have hb:=hb.ext x2;have xx:=x1.trans x2;simp only [aR];refine aV hb jT bE rfl ?_;refine (yU (h.ext xx).fl).mono λv w3 ⟨b,hv,hk1,x3⟩=>?_;subst hv;have hb:=hb.ext x3;have xx:=xx.trans x3;cases b with
 | false=>simp only [aR];exact hR _ _ (cY.no (λh=>by have:=hk1.2 h.1;cases this) xx)
 | true=>
 simp only [aR];refine aV hb fP iT rfl (yR oD (h.ext xx).im (jF.2 ?_));by_cases h2:(i.imports.length:Int) > 4
 ·simp only [h2,aR];exact hR _ _ (cY.no (λh=>by have:=h.2.1.1;omega) xx)
 simp only [h2,aR];refine aV hb fP iT rfl ?_;refine (aEw (q:=λx=>x.right) (h.ext xx).im λx hx row w' hrow xw=>aDv hrow ((hn.2 x hx).ext (xx.trans xw))).mono λv w4 ⟨b,hv,hk3,x4⟩=>?_;subst hv;have hb:=hb.ext x4;have xx:=xx.trans x4;cases b with
 | false=>simp only [aR];exact hR _ _ (cY.no (λh=>by have:=hk3.2 h.2.1.2;cases this) xx)
 | true=>
 simp only [aR];refine aV hb bP dN rfl (yR iF (h.ext xx).mt (aZ.2 ?_));by_cases h4:(i.methods.length:Int) < 1
 ·simp only [h4,aR];exact hR _ _ (cY.no (λh=>by have:=h.2.2.1.1.1;omega) xx)
 simp only [h4,aR];refine aV hb bP dN rfl (yR iF (h.ext xx).mt (jF.2 ?_));by_cases h5:(i.methods.length:Int) > 8
 ·simp only [h5,aR];exact hR _ _ (cY.no (λh=>by have:=h.2.2.1.1.2;omega) xx)
 simp only [h5,aR];refine aV hb bP dN rfl ?_;refine (aEv (q:=λx=>x.right) (h.ext xx).mt λx hx row w' hrow _=>aDl hrow (hr x hx)).mono λv w5 ⟨b,hv,hk6,x5⟩=>?_;subst hv;have hb:=hb.ext x5;have xx:=xx.trans x5;cases b with
 | false=>simp only [aR];exact hR _ _ (cY.no (λh=>by have:=hk6.2 h.2.2.1.2.1;cases this) xx)
 | true=>
 simp only [aR];have h0:=bBh (i:=i) (by omega);refine aV hb bP dN rfl ?_;refine rS (i:=0) iF dM bE (h.ext xx).mt h0 λrow hrow=>?_;obtain ⟨pv,lv,cv,rfl,hp,_,_⟩:=hrow;refine ⟨pv,rfl,by decide,gE aP hp (jF.2 ?_)⟩;by_cases h7:((i.meth 0).params.length:Int) > ((0:Nat):Int)
 ·have h7':((i.meth 0).params.length:Int) > 0:=h7;simp only [h7',aR];exact hR _ _ (cY.no (λh=>by rw [h.2.2.1.2.2.1] at h7;simp at h7) xx)
 have h7':¬ ((i.meth 0).params.length:Int) > 0:=h7;simp only [h7',aR];refine aV hb bP dN rfl ?_;refine rS (i:=0) iF gG aE (h.ext xx).mt h0 λrow hrow=>?_;obtain ⟨pv,lv,cv,rfl,_,_,_⟩:=hrow;refine ⟨i64 (i.meth 0).result,rfl,by decide,cL.2 ?_⟩;by_cases h8:(i.meth 0).result=0
 case neg=>simp only [h8,aR];exact hR _ _ (cY.no (λh=>h8 h.2.2.1.2.2.2) xx)
 simp only [h8,aR];refine aV hb kP bE rfl (gE aP (h.ext xx).ex (uJ.2 ?_));by_cases h9:(i.exports.length:Int)<=4
 case neg=>simp only [h9,aR];exact hR _ _ (cY.no (λh=>h9 (by have:=h.2.2.2.1;omega)) xx)
 simp only [h9,aR];refine aV hb kP bE rfl (fnK ?_)
 have fin:aB prog 112 #[p.xv,.func (.func 113) #[] #[.pointer (some ⟨b1,0,none⟩)]] w5 (cY (∀ n∈i.exports,0<=n/\n < (i.methods.length:Int)) w5):=by
  have hb5:=hb;have h5':=h.ext xx;apply bAh;unfold SP;refine bx λb2 w6 hb2 x6=>fnK ?_;refine (bBz (q:=λn=>¬ (0<=n/\n < (i.methods.length:Int))) (h5'.ext x6).ex λn _ w7 x7=>⟨_,_,rfl,?_⟩).mono λv w8 ⟨t,hv,ht,x8⟩=>?_
  ·show aB prog _ #[i64 n,_] w7 _;apply aYb;unfold QP;refine ldP iU (hb2.ext x7) rfl ?_;refine ⟨_,_,rfl,?_⟩;show aB prog _ #[i64 n,_] w7 _;apply bAg;suffices key:∀ R:Y->O->Prop,(∀ b,(b=true↔(0<=n/\n < (i.methods.length:Int)))->R (.bool b) w7)->FR (i64 n) (.pointer (some ⟨b1,0,none⟩)) w7 R from key _ λb hb=>dO.2 ⟨_,rfl,by rw [Bool.not_eq_true',Bool.eq_false_iff,ne_eq,hb],aG.refl _⟩;intro R hR;unfold FR;refine fK.2 ?_;by_cases hn0:n>=0
   ·simp only [hn0,aR];refine aV ((hb5.ext x6).ext x7) bP dN rfl (yR iF ((h5'.ext x6).ext x7).mt (aZ.2 ?_));exact hR _ (by simp;omega)
   ·simp only [hn0,aR];exact hR _ ⟨λh=>(by cases h),λh=>absurd h.1 hn0⟩
  ·subst hv;refine dO.2 ⟨_,rfl,?_,x6.trans x8⟩;rw [Bool.not_eq_true',Bool.eq_false_iff,ne_eq,ht];constructor
   ·intro hh x hx;exact Classical.byContradiction λhn=>hh ⟨x,hx,hn⟩
   ·rintro hh ⟨x,hx,hn⟩;exact hn (hh x hx)
 refine fin.mono λv w6 ⟨b,hv,hk,x6⟩=>?_;subst hv;refine hR _ _ ⟨b,rfl,?_,xx.trans x6⟩;rw [hk];exact ⟨λhh=>⟨hk1.1 rfl,⟨by omega,hk3.1 rfl⟩,⟨⟨by omega,by omega⟩,hk6.1 rfl,List.eq_nil_of_length_eq_zero (by omega),h8⟩,by omega,hh⟩,λhh=>hh.2.2.2.2⟩
theorem K53 {lv:Y} {l:List Int} {most:Int} (hs:aO w lv l) (hk:∀ b,(b=true↔sV l most)->K (.bool b) w):aB prog 91 #[lv,i64 most] w K:=aRs hs hk
theorem aQj (h:kF w p i) (hn:lO w i):aB prog 44 #[p.val i] w (cY i.right w):=by
 apply bIq;suffices key:∀ R:Y->O->Prop,(∀ v w',cY i.right w v w'->R v w')->LB (p.val i) w R from key _ λ_ _ h=>h;intro R hR;unfold LB iE.val;refine bx λb1 w1 hb x1=>?_;refine aV hb lN aIi rfl ?_;refine (hn.1 w1 x1).1.mono λv w2 hv=>?_;obtain ⟨rfl,x2⟩:=hv.T;have hb:=hb.ext x2;have xx:=x1.trans x2;simp only [aR];have no:∀ {w'},aG w2 w'->¬ i.right->R (.bool false) w':=λhx hn=>hR _ _ (cY.no hn (xx.trans hx));refine aV hb jT bE rfl (K53 (h.ext xx).fl λb hk1=>?_);cases b with
 | false=>simp only [aR];exact no (aG.refl _) λh=>by have:=hk1.2 h.1;cases this
 | true=>
 simp only [aR];refine aV hb fP iT rfl (yR oD (h.ext xx).im (jF.2 ?_));by_cases h2:(i.imports.length:Int) > 4
 ·simp only [h2,aR];exact no (aG.refl _) λh=>by have:=h.2.1.1;omega
 simp only [h2,aR];refine aV hb bP dN rfl (yR iF (h.ext xx).mt (aZ.2 ?_));by_cases h4:(i.methods.length:Int) < 1
 ·simp only [h4,aR];exact no (aG.refl _) λh=>by have:=h.2.2.1.1.1;omega
 simp only [h4,aR];refine aV hb bP dN rfl (yR iF (h.ext xx).mt (jF.2 ?_));by_cases h5:(i.methods.length:Int) > 8
 ·simp only [h5,aR];exact no (aG.refl _) λh=>by have:=h.2.2.1.1.2;omega
 simp only [h5,aR];refine aV hb kP bE rfl (gE aP (h.ext xx).ex (jF.2 ?_));by_cases h9:(i.exports.length:Int) > 4
 ·simp only [h9,aR];exact no (aG.refl _) λh=>by have:=h.2.2.2.1;omega
 simp only [h9,aR];have hw2:=h.ext xx;refine ⟨λv w'=>∃ j:Nat,v=i64 j/\j<=i.imports.length/\aG w2 w'/\∀ x∈i.imports.take j,x.right,λv _=>i.imports.length - (RowKit.intOf v).toNat,⟨0,rfl,Nat.zero_le _,aG.refl _,λ_ h=>by simp at h⟩,?_⟩;rintro _ w3 ⟨j,rfl,hj,x3,hall⟩ _;refine aV (hb.ext x3) fP iT rfl (yR oD (hw2.ext x3).im (aZ.2 (aC (λhlt=>?_) λhge=>?_)))
 ·obtain ⟨x,hx⟩:=bI (l:=i.imports) (j:=j) (by omega);have hxm:x∈i.imports:=List.mem_of_getElem? hx;refine aV (hb.ext x3) fP iT rfl ?_;refine XL oD JV (hw2.ext x3).im hx CD λrow hrow=>?_;obtain ⟨pv,rfl,hp⟩:=hrow;obtain ⟨pa,pc,rfl⟩:=hp.shape;refine sG aGc rfl rfl λb2 w4 hb2 x4=>?_;refine aV hb2 eN aIi rfl ?_;refine (hn.2 x hxm w4 ((xx.trans x3).trans x4)).1.mono λv w5 hv=>?_;obtain ⟨rfl,x5⟩:=hv.T;have hb2:=hb2.ext x5;have x35:=(x3.trans x4).trans x5;simp only [aR];have noI:¬ x.right->R (.bool false) w5:=λhn=>no x35 λh=>hn (h.2.1.2 x hxm);refine aV hb2 dQ aE rfl (aZ.2 ?_);by_cases g1:x.exp < 0
  ·simp only [g1,aR];exact noI λh=>by have:=h.1.1;omega
  simp only [g1,aR];refine aV hb2 dQ aE rfl (fK.2 ?_);by_cases g2:x.exp>=4
  ·simp only [g2,aR];exact noI λh=>by have:=h.1.2;omega
  simp only [g2,aR];refine aV hb2 bY bE rfl (K53 (hp.ext (x4.trans x5)) λb hk3=>?_);cases b with
  | false=>simp only [aR];exact noI λh=>by have:=hk3.2 h.2.1;cases this
  | true=>
  simp only [aR];refine aV hb2 cF aE rfl (aZ.2 ?_);by_cases g3:x.result < 0
  ·simp only [g3,aR];exact noI λh=>by have:=h.2.2.1;omega
  simp only [g3,aR];refine aV hb2 cF aE rfl (jF.2 ?_);by_cases g4:x.result > 4
  ·simp only [g4,aR];exact noI λh=>by have:=h.2.2.2;omega
  simp only [g4,aR];refine jS (by omega) ?_;refine ⟨⟨j+1,rfl,by omega,x35,λy hy=>?_⟩,by simp only [aK];omega⟩;rw [List.take_add_one,hx] at hy;rcases List.mem_append.1 hy with hy|hy
  ·exact hall y hy
  ·simp at hy;subst hy;exact ⟨⟨by omega,by omega⟩,hk3.1 rfl,by omega,by omega⟩
 have hjl:j=i.imports.length:=by omega
 subst hjl;rw [List.take_length] at hall;refine ⟨λv w'=>∃ j:Nat,v=i64 j/\j<=i.methods.length/\aG w2 w'/\∀ x∈i.methods.take j,x.right,λv _=>i.methods.length - (RowKit.intOf v).toNat,⟨0,rfl,Nat.zero_le _,x3,λ_ h=>by simp at h⟩,?_⟩;rintro _ w4 ⟨j,rfl,hj,x4,hallm⟩ _;refine aV (hb.ext x4) bP dN rfl (yR iF (hw2.ext x4).mt (aZ.2 (aC (λhlt=>?_) λhge=>?_)))
 ·obtain ⟨m,hm⟩:=bI (l:=i.methods) (j:=j) (by omega);have hmm:m∈i.methods:=List.mem_of_getElem? hm;refine aV (hb.ext x4) bP dN rfl ?_;refine XL iF nW (hw2.ext x4).mt hm pX λrow hrow=>?_;obtain ⟨pv,lv,cv,rfl,hp,hl,hc⟩:=hrow;obtain ⟨pa,pc,rfl⟩:=hp.shape;obtain ⟨la,lc,rfl⟩:=hl.shape;obtain ⟨ca,cc,rfl⟩:=aA.shape hc;refine sG DB rfl rfl λb2 w5 hb2 x5=>?_;have x45:=x4.trans x5;have noM:∀ {w'},aG w5 w'->¬ m.right->R (.bool false) w':=λhx hn=>no (x45.trans hx) λh=>hn (h.2.2.1.2.1 m hmm);refine aV hb2 dM bE rfl (K53 (hp.ext x5) λb hk3=>?_);cases b with
  | false=>simp only [aR];exact noM (aG.refl _) λh=>by have:=hk3.2 h.1;cases this
  | true=>
  simp only [aR];refine aV hb2 gG aE rfl (aZ.2 ?_);by_cases g3:m.result < 0
  ·simp only [g3,aR];exact noM (aG.refl _) λh=>by have:=h.2.1.1;omega
  simp only [g3,aR];refine aV hb2 gG aE rfl (jF.2 ?_);by_cases g4:m.result > 4
  ·simp only [g4,aR];exact noM (aG.refl _) λh=>by have:=h.2.1.2;omega
  simp only [g4,aR];have cp:=uX hp;refine aV hb2 lB bE rfl ?_;refine aV hb2 dM bE rfl (gE aP (hp.ext x5) (fT.2 ?_));rw [lI (by unfold maxLen at cp;omega) (by omega)];refine K53 (hl.ext x5) λb hk5=>?_;cases b with
  | false=>simp only [aR];exact noM (aG.refl _) λh=>by have:=hk5.2 h.2.2.1;cases this
  | true=>
  simp only [aR];refine aV hb2 cC hU rfl (gE kQ (hc.ext x5) (aZ.2 ?_));by_cases g6:(m.code.length:Int) < 1
  ·simp only [g6,aR];exact noM (aG.refl _) λh=>by have:=h.2.2.2.1.1;omega
  simp only [g6,aR];refine aV hb2 cC hU rfl (gE kQ (hc.ext x5) (jF.2 ?_));by_cases g7:(m.code.length:Int) > 120
  ·simp only [g7,aR];exact noM (aG.refl _) λh=>by have:=h.2.2.2.1.2;omega
  simp only [g7,aR];refine ⟨λv w'=>∃ q:Nat,v=i64 q/\q<=m.code.length/\aG w5 w'/\∀ x∈m.code.take q,x.right,λv _=>m.code.length - (RowKit.intOf v).toNat,⟨0,rfl,Nat.zero_le _,aG.refl _,λ_ h=>by simp at h⟩,?_⟩;rintro _ w6 ⟨q,rfl,hq,x6,hallc⟩ _;have hc6:=(hc.ext x5).ext x6;refine aV (hb2.ext x6) cC hU rfl (gE kQ hc6 (aZ.2 (aC (λhlt2=>?_) λhge2=>?_)))
  ·obtain ⟨x,hx⟩:=bI (l:=m.code) (j:=q) (by omega);have hxm:x∈m.code:=List.mem_of_getElem? hx;refine aV (hb2.ext x6) cC hU rfl (ldI hc6 hx ?_);refine aQi λb w7 hbr x7=>?_;cases b with
   | false=>simp only [aR];exact noM (x6.trans x7) λh=>by have:=hbr.2 (h.2.2.2.2 x hxm);cases this
   | true=>
   simp only [aR];refine jS (by omega) ?_;refine ⟨⟨q+1,rfl,by omega,x6.trans x7,λy hy=>?_⟩,by simp only [aK];omega⟩;rw [List.take_add_one,hx] at hy;rcases List.mem_append.1 hy with hy|hy
   ·exact hallc y hy
   ·simp at hy;subst hy;exact hbr.1 rfl
  ·have hql:q=m.code.length:=by omega
   subst hql;rw [List.take_length] at hallc;refine jS (by omega) ?_;refine ⟨⟨j+1,rfl,by omega,x45.trans x6,λy hy=>?_⟩,by simp only [aK];omega⟩;rw [List.take_add_one,hm] at hy;rcases List.mem_append.1 hy with hy|hy
   ·exact hallm y hy
   ·simp at hy;subst hy;exact ⟨hk3.1 rfl,⟨by omega,by omega⟩,hk5.1 rfl,⟨by omega,by omega⟩,hallc⟩
 have hjl:j=i.methods.length:=by omega
 subst hjl;rw [List.take_length] at hallm;refine ⟨λv w'=>∃ j:Nat,v=i64 j/\j<=i.exports.length/\aG w2 w'/\∀ x∈i.exports.take j,0<=x/\x < (i.methods.length:Int),λv _=>i.exports.length - (RowKit.intOf v).toNat,⟨0,rfl,Nat.zero_le _,x4,λ_ h=>by simp at h⟩,?_⟩;rintro _ w5 ⟨j,rfl,hj,x5,halle⟩ _;have h5':=hw2.ext x5;refine aV (hb.ext x5) kP bE rfl (gE aP h5'.ex (aZ.2 (aC (λhlt=>?_) λhge=>?_)))
 ·obtain ⟨x,hx⟩:=bI (l:=i.exports) (j:=j) (by omega);have hxm:x∈i.exports:=List.mem_of_getElem? hx;have D1:aG w5 w5.drew:=(aG.refl _).drew;have hbS:∀ w',aG w5 w'->bF w' b1 _:=λw' hx=>(hb.ext x5).ext hx;obtain ⟨mcs,hms⟩:=h5'.mt.sl;refine aL.mk' (λw'=>aG w5 w') D1 ?_;refine iB hbS kP bE rfl ?_;refine nT aP aE h5'.ex (λ_ h=>h) (by omega) (by omega) (cM hx) (aCj ?_);by_cases g1:x < 0
  ·simp only [g1,aR];exact no (x5.trans D1) λh=>by have:=(h.2.2.2.2 x hxm).1;omega
  simp only [g1,aR];refine iB hbS kP bE rfl ?_;refine nT aP aE h5'.ex (λ_ h=>h) (by omega) (by omega) (cM hx) ?_;refine iB hbS bP dN rfl (sZ iF hms (bKj ?_));by_cases g2:x>=((i.methods.length:Nat):Int)
  ·simp only [g2,aR];exact no (x5.trans D1) λh=>by have:=(h.2.2.2.2 x hxm).2;omega
  simp only [g2,aR];refine jS (by omega) ?_;refine ⟨⟨j+1,rfl,by omega,x5.trans D1,λy hy=>?_⟩,by simp only [aK];omega⟩;rw [List.take_add_one,hx] at hy;rcases List.mem_append.1 hy with hy|hy
  ·exact halle y hy
  ·simp at hy;subst hy;exact ⟨by omega,by omega⟩
 have hjl:j=i.exports.length:=by omega
 subst hjl;rw [List.take_length] at halle;have h0:=bBh (i:=i) (by omega);have fin:∀ b,(b=true↔(i.meth 0).params=[]/\(i.meth 0).result=0)->R (.bool b) w5:=λb hbb=>hR _ _ ⟨b,rfl,hbb.trans ⟨λhh=>⟨hk1.1 rfl,⟨by omega,hall⟩,⟨⟨by omega,by omega⟩,hallm,hh.1,hh.2⟩,by omega,halle⟩,λhh=>hh.2.2.1.2.2⟩,xx.trans x5⟩;refine aV (hb.ext x5) bP dN rfl ?_;refine rS (i:=0) iF dM bE h5'.mt h0 λrow hrow=>?_;obtain ⟨pv,lv,cv,rfl,hp,_,_⟩:=hrow;refine ⟨pv,rfl,by decide,gE aP hp (aJ.2 ?_)⟩;by_cases h7:(((i.meth 0).params.length:Nat):Int)=0
 case neg=>
  simp only [h7,aR];exact fin _ ⟨λh=>(by cases h),λh=>by rw [h.1] at h7;simp at h7⟩
 simp only [h7,aR];refine aV (hb.ext x5) bP dN rfl ?_;refine rS (i:=0) iF gG aE h5'.mt h0 λrow hrow=>?_;obtain ⟨pv,lv,cv,rfl,_,_,_⟩:=hrow;refine ⟨i64 (i.meth 0).result,rfl,by decide,aJ.2 ?_⟩;exact fin _ (decide_eq_true_iff.trans ⟨λh=>⟨List.eq_nil_of_length_eq_zero (by omega),h⟩,λh=>h.2⟩)
theorem fO {l:List Int} {a:Nat} (h:a < l.length):l[a]?=some (l.getD a 0):=by
 rw [List.getD_eq_getElem?_getD,List.getElem?_eq_getElem h];rfl
theorem aHz {a:Nat}:m.locs.getD a 0=if a < m.params.length then m.params.getD a 0 else m.locals.getD (a - m.params.length) 0:=by
 unfold jR.locs;simp only [List.getD_eq_getElem?_getD,List.getElem?_append];split<;>rfl
theorem JR {row:List Y} (hm:mF w row m) (hr:m.right) (h0:0<=a) (hk:∀ w',aG w w'->K (.tuple #[i64 (m.locs.getD a.toNat 0),.bool (decide (a < (m.locs.length:Int)))]) w') :
  aB prog 146 #[.agg row.toArray,i64 a] w K:=by
 obtain ⟨pv,lv,cv,rfl,hp,hl,hc⟩:=hm;obtain ⟨k,rfl⟩:∃ k:Nat,a=k:=⟨a.toNat,by omega⟩;have c1:=hr.1.2;have c2:=hr.2.2.1.2;have hlen:m.locs.length=m.params.length+m.locals.length:=by simp [jR.locs]
 apply aYx;unfold RK;refine bx λb1 w1 hb x1=>?_;have hk:=hk _ x1;rw [aHz] at hk;simp only [Int.toNat_natCast,hlen] at hk;refine aV hb dM bE rfl (gE aP (hp.ext x1) (aZ.2 (aC (λhlt=>?_) λhge=>?_)))
 ·refine aV hb dM bE rfl ?_;refine mH aP aE (hp.ext x1) (by omega) (by omega) (cM (fO (by omega))) ?_;rw [if_pos (by omega),decide_eq_true (by omega)] at hk;exact hk
 ·rw [if_neg (by omega)] at hk;refine aV hb dM bE rfl (gE aP (hp.ext x1) ?_);refine aV hb lB bE rfl (gE aP (hl.ext x1) (bJ.2 ?_));rw [aQ (by omega)];refine aZ.2 (aC (λhlt2=>?_) λhge2=>?_)
  ·refine aV hb lB bE rfl ?_;refine aV hb dM bE rfl (gE aP (hp.ext x1) (fT.2 ?_));rw [aQ (by omega),show (k:Int) - (m.params.length:Int)=((k - m.params.length:Nat):Int) by omega];refine mH aP aE (hl.ext x1) (by omega) (by omega) (cM (fO (by omega))) ?_;rw [decide_eq_true (by omega)] at hk;exact hk
  ·rw [decide_eq_false (by omega)] at hk;have:m.locals.getD (k - m.params.length) 0=0:=by rw [List.getD_eq_getElem?_getD,List.getElem?_eq_none (by omega)];rfl
   rw [this] at hk;exact hk
theorem gI (h0:0<=a) (h:a < i.methods.length):i.methods[a.toNat]?=some (i.meth a):=by
 unfold iA.meth;rw [List.getD_eq_getElem?_getD,List.getElem?_eq_getElem (by omega)];rfl
theorem tY (h0:0<=a) (h:a < i.imports.length):i.imports[a.toNat]?=some (i.imp a):=by
 unfold iA.imp;rw [List.getD_eq_getElem?_getD,List.getElem?_eq_getElem (by omega)];rfl
theorem aRj {row:List Y} (h:kF w p i) (hm:mF w row m) (hr:m.right) (hx:x.right) :
  aB prog 93 #[p.val i,.agg row.toArray,.agg #[i64 x.op,i64 x.a,i64 x.b]] w (cY (fL i m x) w):=by
 obtain ⟨op,a,b⟩:=x;obtain ⟨ho,a1,a2,_⟩:=hx;have hm0:=hm;obtain ⟨pv,lv,cv,rfl,hp,hl,hc⟩:=hm;apply bGv;suffices key:∀ R:Y->O->Prop,(∀ v w',cY (fL i m ⟨op,a,b⟩) w v w'->R v w')->KY (p.val i) (.agg [pv,i64 m.result,lv,cv].toArray) (.agg #[i64 op,i64 a,i64 b]) w R from key _ λ_ _ h=>h;intro R hR;unfold KY iE.val;refine bx λb1 w1 hb1 x1=>?_;refine bx λb2 w2 hb2 x2=>?_;refine bx λb3 w3 hb3 x3=>?_;have hb1:=(hb1.ext x2).ext x3;have hb2:bF w3 b2 [pv,i64 m.result,lv,cv]:=hb2.ext x3;have xx:=(x1.trans x2).trans x3;have h':=h.ext xx;refine aV hb3 aS aE rfl ?_;by_cases c1:op=2\/op=3
 ·have hs:fL i m ⟨op,a,b⟩↔a < (m.locs.length:Int):=by unfold fL;dsimp only;rw [if_pos c1]
  have ha:0<=a:=by rcases c1 with rfl|rfl<;>exact a1
  rcases c1 with rfl|rfl
  all_goals
   simp only [aR,Int.reduceEq];refine iC hb2 nW rfl ?_;refine aV hb3 (by first|exact cX|exact cW|exact cA|exact cV|exact cK|exact cJ|exact bZ|exact cU|exact cT|exact cS|exact cI|exact cH|exact cG|exact bW|exact cR|exact bV|exact dG|exact cQ|exact cP|exact dF|exact dE|exact dL|exact dK|exact dJ|exact dD|exact dI|exact dT|exact dS|exact eC|exact eQ|exact eB|exact dR|exact fB|exact eO|exact fA|exact bU|exact eA|exact dZ|exact dY|exact eN|exact dQ|exact bY|exact cF|exact eZ|exact eM|exact cE|exact dX|exact fH|exact dW|exact fS|exact eY|exact bG|exact eX|exact cD|exact eJ|exact eW|exact fR|exact dC|exact fQ|exact gM|exact gD|exact iK|exact jE|exact dV|exact gK|exact jD|exact iJ|exact jC|exact jB|exact jA|exact iZ|exact iI|exact bQ|exact gC|exact gJ|exact eI|exact eG|exact kL|exact kK|exact lN|exact jT|exact fP|exact bP|exact kP|exact lM|exact gT|exact eR|exact dM|exact gG|exact lB|exact cC|exact lL|exact oA|exact rG|exact qG|exact qF|exact qE|exact qD|exact qC|exact qB|exact rF|exact oY|exact oX|exact mK|exact nZ|exact qA|exact mJ|exact mV|exact mU|exact mI|exact rE|exact nL|exact mT|exact rD|exact aS|exact aX) (by first|exact iD|exact iY|exact iN|exact iX|exact kT|exact iW|exact kZ|exact iV|exact iU|exact bE|exact jP|exact iT|exact dN|exact aE) rfl ?_
   refine JR (hm0.ext xx) hr ha λw4 x4=>?_;refine gR.2 (gQ.2 ?_);exact hR _ _ ⟨_,rfl,decide_eq_true_iff.trans hs.symm,xx.trans x4⟩
 by_cases c2:op=33\/op=34
 ·have hs:fL i m ⟨op,a,b⟩↔a < (i.fields.length:Int):=by unfold fL;dsimp only;rw [if_neg c1,if_pos c2]
  rcases c2 with rfl|rfl
  all_goals
   simp only [aR,Int.reduceEq];refine aV hb3 (by first|exact cX|exact cW|exact cA|exact cV|exact cK|exact cJ|exact bZ|exact cU|exact cT|exact cS|exact cI|exact cH|exact cG|exact bW|exact cR|exact bV|exact dG|exact cQ|exact cP|exact dF|exact dE|exact dL|exact dK|exact dJ|exact dD|exact dI|exact dT|exact dS|exact eC|exact eQ|exact eB|exact dR|exact fB|exact eO|exact fA|exact bU|exact eA|exact dZ|exact dY|exact eN|exact dQ|exact bY|exact cF|exact eZ|exact eM|exact cE|exact dX|exact fH|exact dW|exact fS|exact eY|exact bG|exact eX|exact cD|exact eJ|exact eW|exact fR|exact dC|exact fQ|exact gM|exact gD|exact iK|exact jE|exact dV|exact gK|exact jD|exact iJ|exact jC|exact jB|exact jA|exact iZ|exact iI|exact bQ|exact gC|exact gJ|exact eI|exact eG|exact kL|exact kK|exact lN|exact jT|exact fP|exact bP|exact kP|exact lM|exact gT|exact eR|exact dM|exact gG|exact lB|exact cC|exact lL|exact oA|exact rG|exact qG|exact qF|exact qE|exact qD|exact qC|exact qB|exact rF|exact oY|exact oX|exact mK|exact nZ|exact qA|exact mJ|exact mV|exact mU|exact mI|exact rE|exact nL|exact mT|exact rD|exact aS|exact aX) (by first|exact iD|exact iY|exact iN|exact iX|exact kT|exact iW|exact kZ|exact iV|exact iU|exact bE|exact jP|exact iT|exact dN|exact aE) rfl ?_
   refine aV hb1 (by first|exact cX|exact cW|exact cA|exact cV|exact cK|exact cJ|exact bZ|exact cU|exact cT|exact cS|exact cI|exact cH|exact cG|exact bW|exact cR|exact bV|exact dG|exact cQ|exact cP|exact dF|exact dE|exact dL|exact dK|exact dJ|exact dD|exact dI|exact dT|exact dS|exact eC|exact eQ|exact eB|exact dR|exact fB|exact eO|exact fA|exact bU|exact eA|exact dZ|exact dY|exact eN|exact dQ|exact bY|exact cF|exact eZ|exact eM|exact cE|exact dX|exact fH|exact dW|exact fS|exact eY|exact bG|exact eX|exact cD|exact eJ|exact eW|exact fR|exact dC|exact fQ|exact gM|exact gD|exact iK|exact jE|exact dV|exact gK|exact jD|exact iJ|exact jC|exact jB|exact jA|exact iZ|exact iI|exact bQ|exact gC|exact gJ|exact eI|exact eG|exact kL|exact kK|exact lN|exact jT) (by first|exact iD|exact iY|exact iN|exact iX|exact kT|exact iW|exact kZ|exact iV|exact iU|exact bE) rfl (gE aP h'.fl (aZ.2 ?_));exact hR _ _ ⟨_,rfl,decide_eq_true_iff.trans hs.symm,xx⟩
 by_cases c3:op=37
 ·have hs:fL i m ⟨op,a,b⟩↔a < (i.methods.length:Int):=by unfold fL;dsimp only;rw [if_neg c1,if_neg c2,if_pos c3]
  subst c3;simp only [aR,Int.reduceEq];refine aV hb3 aX aE rfl ?_;refine aV hb1 bP dN rfl (yR iF h'.mt (aZ.2 ?_));exact hR _ _ ⟨_,rfl,decide_eq_true_iff.trans hs.symm,xx⟩
 by_cases c4:op=38
 ·have hs:fL i m ⟨op,a,b⟩↔a < (i.imports.length:Int):=by unfold fL;dsimp only;rw [if_neg c1,if_neg c2,if_neg c3,if_pos c4]
  subst c4;simp only [aR,Int.reduceEq];refine aV hb3 aX aE rfl ?_;refine aV hb1 fP iT rfl (yR oD h'.im (aZ.2 ?_));exact hR _ _ ⟨_,rfl,decide_eq_true_iff.trans hs.symm,xx⟩
 by_cases c5:op=23\/op=24
 ·have hs:fL i m ⟨op,a,b⟩↔a < (m.code.length:Int):=by unfold fL;dsimp only;rw [if_neg c1,if_neg c2,if_neg c3,if_neg c4,if_pos c5]
  rcases c5 with rfl|rfl
  all_goals
   simp only [aR,Int.reduceEq];refine aV hb3 (by first|exact cX|exact cW|exact cA|exact cV|exact cK|exact cJ|exact bZ|exact cU|exact cT|exact cS|exact cI|exact cH|exact cG|exact bW|exact cR|exact bV|exact dG|exact cQ|exact cP|exact dF|exact dE|exact dL|exact dK|exact dJ|exact dD|exact dI|exact dT|exact dS|exact eC|exact eQ|exact eB|exact dR|exact fB|exact eO|exact fA|exact bU|exact eA|exact dZ|exact dY|exact eN|exact dQ|exact bY|exact cF|exact eZ|exact eM|exact cE|exact dX|exact fH|exact dW|exact fS|exact eY|exact bG|exact eX|exact cD|exact eJ|exact eW|exact fR|exact dC|exact fQ|exact gM|exact gD|exact iK|exact jE|exact dV|exact gK|exact jD|exact iJ|exact jC|exact jB|exact jA|exact iZ|exact iI|exact bQ|exact gC|exact gJ|exact eI|exact eG|exact kL|exact kK|exact lN|exact jT|exact fP|exact bP|exact kP|exact lM|exact gT|exact eR|exact dM|exact gG|exact lB|exact cC|exact lL|exact oA|exact rG|exact qG|exact qF|exact qE|exact qD|exact qC|exact qB|exact rF|exact oY|exact oX|exact mK|exact nZ|exact qA|exact mJ|exact mV|exact mU|exact mI|exact rE|exact nL|exact mT|exact rD|exact aS|exact aX) (by first|exact iD|exact iY|exact iN|exact iX|exact kT|exact iW|exact kZ|exact iV|exact iU|exact bE|exact jP|exact iT|exact dN|exact aE) rfl ?_
   refine aV hb2 (by first|exact cX|exact cW|exact cA|exact cV|exact cK|exact cJ|exact bZ|exact cU|exact cT|exact cS|exact cI|exact cH|exact cG|exact bW|exact cR|exact bV|exact dG|exact cQ|exact cP|exact dF|exact dE|exact dL|exact dK|exact dJ|exact dD|exact dI|exact dT|exact dS|exact eC|exact eQ|exact eB|exact dR|exact fB|exact eO|exact fA|exact bU|exact eA|exact dZ|exact dY|exact eN|exact dQ|exact bY|exact cF|exact eZ|exact eM|exact cE|exact dX|exact fH|exact dW|exact fS|exact eY|exact bG|exact eX|exact cD|exact eJ|exact eW|exact fR|exact dC|exact fQ|exact gM|exact gD|exact iK|exact jE|exact dV|exact gK|exact jD|exact iJ|exact jC|exact jB|exact jA|exact iZ|exact iI|exact bQ|exact gC|exact gJ|exact eI|exact eG|exact kL|exact kK|exact lN|exact jT|exact fP|exact bP|exact kP|exact lM|exact gT|exact eR|exact dM|exact gG|exact lB|exact cC) (by first|exact iD|exact iY|exact iN|exact iX|exact kT|exact iW|exact kZ|exact iV|exact iU|exact bE|exact jP|exact iT|exact dN|exact aE|exact kY|exact hU) rfl (gE kQ (hc.ext xx) (aZ.2 ?_));exact hR _ _ ⟨_,rfl,decide_eq_true_iff.trans hs.symm,xx⟩
 ·have hs:fL i m ⟨op,a,b⟩:=by unfold fL;dsimp only;rw [if_neg c1,if_neg c2,if_neg c3,if_neg c4,if_neg c5];trivial
  simp only [not_or] at c1 c2 c5;simp only [c1.1,c1.2,c2.1,c2.2,c3,c4,c5.1,c5.2,aR];exact hR _ _ (cY.yes hs xx)
theorem aCo {pc:Nat} (hp:pc<=1000) (hk:∀ v w',w'.ownsRow w.heap.size 3 1 v (fN x pc).length ((fN x pc).map i64)->aG w w'->K v w'):aB prog 95 #[.agg #[i64 x.op,i64 x.a,i64 x.b],i64 pc] w K:=by
 obtain ⟨op,a,b⟩:=x;apply bGt;unfold ZG;refine bx λb1 w1 hb x1=>?_;refine aV hb aS aE rfl (aJ.2 (aC (λc1=>?_) λc1=>aJ.2 (aC (λc2=>?_) λc2=>aJ.2 (aC (λc3=>?_) λc3=>?_))))
 ·refine aV hb aX aE rfl ?_;refine jG bB [i64 a] rfl rfl (by simp) rfl λv w2 ho x2=>hk _ _ ?_ (x1.trans x2);have e:fN ⟨op,a,b⟩ pc=[a]:=by unfold fN;dsimp only;rw [if_pos c1]
  rw [e];exact aU ho x1.size
 ·refine bJ.2 ?_;rw [aQ (by omega)];refine aV hb aX aE rfl ?_;refine jG bB [i64 ((pc:Int)+1),i64 a] rfl rfl (by simp) rfl λv w2 ho x2=>hk _ _ ?_ (x1.trans x2);have e:fN ⟨op,a,b⟩ pc=[(pc:Int)+1,a]:=by unfold fN;dsimp only;rw [if_neg c1,if_pos c2]
  rw [e];exact aU ho x1.size
 ·have e:fN ⟨op,a,b⟩ pc=[]:=by unfold fN;dsimp only;rw [if_neg c1,if_neg c2,if_pos c3]
  refine hk _ _ ?_ x1;rw [e];exact World.ownsRow_nil _ _ _ _
 ·refine bJ.2 ?_;rw [aQ (by omega)];refine jG bB [i64 ((pc:Int)+1)] rfl rfl (by simp) rfl λv w2 ho x2=>hk _ _ ?_ (x1.trans x2);have e:fN ⟨op,a,b⟩ pc=[(pc:Int)+1]:=by unfold fN;dsimp only;rw [if_neg c1,if_neg c2,if_neg c3]
  rw [e];exact aU ho x1.size
def jI (op:Int):List UInt8:=
 if kU op then [105,105] else if op=15\/op=16 then [105] else if op=17\/op=18 then [112,112] else if op=24\/op=27 then [112] else if op=26\/op=28 then [97]
 else if op=29 then [97,112] else if op=30 then [97,112,105] else if op=31\/op=32 then [97,112,97,112,112] else if op=36 then [97,112,112] else []
theorem GW (ho:1<=op/\op<=39) (hk:K (.string ⟨(jI op).toArray⟩) w):aB prog 147 #[i64 op] w K:=by
 apply aYw;unfold RJ;rcases AD ho with rfl|rfl|rfl|rfl|rfl|rfl|rfl|rfl|rfl|rfl|rfl|rfl|rfl|rfl|rfl|rfl|rfl|rfl|rfl|rfl|rfl|rfl|rfl|rfl|rfl|rfl|rfl|rfl|rfl|rfl|rfl|rfl|rfl|rfl|rfl|rfl|rfl|rfl|rfl<;>(simp only [aR,Int.reduceEq];exact hk)
theorem aEs {b:Int} (ho:1<=op/\op<=39) (h:op≠3/\op≠4/\op≠5/\op≠34/\op≠22/\op≠37/\op≠38/\op≠39):(aY i m ⟨op,a,b⟩).length=(jI op).length:=by
 obtain ⟨h1,h2,h3,h4,h5,h6,h7,h8⟩:=h;rcases AD ho with rfl|rfl|rfl|rfl|rfl|rfl|rfl|rfl|rfl|rfl|rfl|rfl|rfl|rfl|rfl|rfl|rfl|rfl|rfl|rfl|rfl|rfl|rfl|rfl|rfl|rfl|rfl|rfl|rfl|rfl|rfl|rfl|rfl|rfl|rfl|rfl|rfl|rfl|rfl<;>first|rfl|contradiction
theorem uW {t ty:TypeId} (ht:P.underlying t=some .string) {s:ByteArray}:(Builtin.len_ #[t] ty #[.string s]).run P w=.ok (i64 s.size) w:=by
 simp [Builtin.len_,run_underlying ht,goInt]
theorem WE {row:List Y} (h:kF w p i) (hm:mF w row m) (hx:xR i m x) (hk:∀ w',aG w w'->K (i64 (aY i m x).length) w') :
  aB prog 126 #[p.val i,.agg row.toArray,.agg #[i64 x.op,i64 x.a,i64 x.b]] w K:=by
 obtain ⟨op,a,b⟩:=x;obtain ⟨_,_,⟨ho,a1,a2,_⟩,hn⟩:=hx;obtain ⟨pv,lv,cv,rfl,hp,hl,hc⟩:=hm;apply aZs;unfold SD iE.val;refine bx λb1 w1 hb1 x1=>?_;refine bx λb2 w2 hb2 x2=>?_;refine bx λb3 w3 hb3 x3=>?_;have hb1:=(hb1.ext x2).ext x3;have hb2:bF w3 b2 [pv,i64 m.result,lv,cv]:=hb2.ext x3;have xx:=(x1.trans x2).trans x3;have h':=h.ext xx;refine aV hb3 aS aE rfl ?_;by_cases c1:op=3\/op=4\/op=5\/op=34
 ·rcases c1 with rfl|rfl|rfl|rfl<;>(simp only [aR,Int.reduceEq];exact hk _ xx)
 by_cases c2:op=22
 ·subst c2;simp only [aR,Int.reduceEq];exact hk _ xx
 by_cases c3:op=37
 ·subst c3;simp only [aR,Int.reduceEq];have ha:a < (i.methods.length:Int):=hn;have a1:0<=a:=a1;refine aV hb1 bP dN rfl ?_;refine aV hb3 aX aE rfl ?_;obtain ⟨k,rfl⟩:∃ k:Nat,a=k:=⟨a.toNat,by omega⟩;refine rS iF dM bE h'.mt (gI a1 ha) λrow hrow=>?_;obtain ⟨pv,lv,cv,rfl,hp,_,_⟩:=hrow;exact ⟨pv,rfl,by decide,gE aP hp (hk _ xx)⟩
 by_cases c4:op=38
 ·subst c4;simp only [aR,Int.reduceEq];have ha:a < (i.imports.length:Int):=hn;have a1:0<=a:=a1;refine aV hb1 fP iT rfl ?_;refine aV hb3 aX aE rfl ?_;obtain ⟨k,rfl⟩:∃ k:Nat,a=k:=⟨a.toNat,by omega⟩;refine rS oD bY bE h'.im (tY a1 ha) λrow hrow=>?_;obtain ⟨pv,rfl,hp⟩:=hrow;exact ⟨pv,rfl,by decide,gE aP hp (hk _ xx)⟩
 by_cases c5:op=39
 ·subst c5;simp only [aR,Int.reduceEq];refine aV hb2 gG aE rfl (cL.2 ?_);have e:aY i m ⟨39,a,b⟩=mC m.result:=rfl;rw [e] at hk;by_cases hr:m.result=0
  ·simp only [hr,aR];simp only [mC,hr,reduceIte] at hk;exact hk _ xx
  ·simp only [hr,aR];simp only [mC,hr,reduceIte] at hk;exact hk _ xx
 ·simp only [not_or] at c1;obtain ⟨c11,c12,c13,c14⟩:=c1;simp only [c11,c12,c13,c14,c2,c3,c4,c5,aR];refine aV hb3 aS aE rfl (GW ho ?_);have e:=aEs (i:=i) (m:=m) (a:=a) (b:=b) ho ⟨c11,c12,c13,c14,c2,c3,c4,c5⟩;rw [e] at hk;exact V.ok (uW underlying9) (hk _ xx)
theorem LY {r:Int} (h:0<=r/\r<=4):∀ c,(c=1\/c=r)->c<=1->c<=r->c=((mC r).length:Int):=by
 intro c h1 h2 h3;unfold mC;split<;>simp<;>omega
theorem YH (h:kF w p i) (hx:xR i m x) (hk:∀ w',aG w w'->K (i64 (hgt i m x)) w') :
  aB prog 127 #[p.val i,.agg #[i64 x.op,i64 x.a,i64 x.b]] w K:=by
 obtain ⟨op,a,b⟩:=x;obtain ⟨ir,_,⟨ho,a1,a2,_⟩,hn⟩:=hx;apply aZr;unfold SC iE.val;refine bx λb1 w1 hb1 x1=>?_;refine bx λb3 w3 hb3 x3=>?_;have hb1:=hb1.ext x3;have xx:=x1.trans x3;have h':=h.ext xx;refine aV hb3 aS aE rfl ?_;by_cases c3:op=37
 ·subst c3;simp only [aR,Int.reduceEq];have ha:a < (i.methods.length:Int):=hn;have a1:0<=a:=a1;refine aV hb1 bP dN rfl ?_;refine aV hb3 aX aE rfl ?_;have hr:=(ir.2.2.1.2.1 _ (iA.meth_mem a1 ha)).2.1;have e:hgt i m ⟨37,a,b⟩=(mC (i.meth a).result).length:=rfl;rw [e] at hk;obtain ⟨k,rfl⟩:∃ k:Nat,a=k:=⟨a.toNat,by omega⟩;refine rS iF gG aE h'.mt (gI a1 ha) λrow hrow=>?_;obtain ⟨pv,lv,cv,rfl,hp,_,_⟩:=hrow;refine ⟨i64 (i.meth (k:Int)).result,rfl,by decide,mn2 λc h1 h2 h3=>?_⟩;rw [LY hr c h1 h2 h3];exact hk _ xx
 by_cases c4:op=38
 ·subst c4;simp only [aR,Int.reduceEq];have ha:a < (i.imports.length:Int):=hn;have a1:0<=a:=a1;refine aV hb1 fP iT rfl ?_;refine aV hb3 aX aE rfl ?_;have hr:=(ir.2.1.2 _ (iA.imp_mem a1 ha)).2.2;have e:hgt i m ⟨38,a,b⟩=(mC (i.imp a).result).length:=rfl;rw [e] at hk;obtain ⟨k,rfl⟩:∃ k:Nat,a=k:=⟨a.toNat,by omega⟩;refine rS oD cF aE h'.im (tY a1 ha) λrow hrow=>?_;obtain ⟨pv,rfl,hp⟩:=hrow;refine ⟨i64 (i.imp (k:Int)).result,rfl,by decide,mn2 λc h1 h2 h3=>?_⟩;rw [LY hr c h1 h2 h3];exact hk _ xx
 ·rcases AD ho with rfl|rfl|rfl|rfl|rfl|rfl|rfl|rfl|rfl|rfl|rfl|rfl|rfl|rfl|rfl|rfl|rfl|rfl|rfl|rfl|rfl|rfl|rfl|rfl|rfl|rfl|rfl|rfl|rfl|rfl|rfl|rfl|rfl|rfl|rfl|rfl|rfl|rfl|rfl<;>first|contradiction|(simp only [aR,Int.reduceEq];exact hk _ xx)
theorem aJb {row:List Y} {tv:Y} {l:List Int} (h:kF w p i) (hm:mF w row m) (hx:xR i m x) (ht:aO w tv l) (hln:l.length=(aY i m x).length) (hk:∀ v w',aO w' v (jJ i m x l)->aG w w'->K v w') :
  aB prog 153 #[p.val i,.agg row.toArray,.agg #[i64 x.op,i64 x.a,i64 x.b],tv] w K:=by
 obtain ⟨op,a,b⟩:=x;obtain ⟨ir,mr,⟨ho,a1,a2,_⟩,hn⟩:=hx;have hm0:=hm;obtain ⟨pv,lv,cv,rfl,hp,hl,hc⟩:=hm;apply aYp;unfold RD iE.val;refine bx λb1 w1 hb1 x1=>?_;refine bx λb2 w2 hb2 x2=>?_;refine bx λb3 w3 hb3 x3=>?_;have hb1:=(hb1.ext x2).ext x3;have hb2:bF w3 b2 [pv,i64 m.result,lv,cv]:=hb2.ext x3;have xx:=(x1.trans x2).trans x3;have h':=h.ext xx;refine aV hb3 aS aE rfl ?_;rcases AD ho with rfl|rfl|rfl|rfl|rfl|rfl|rfl|rfl|rfl|rfl|rfl|rfl|rfl|rfl|rfl|rfl|rfl|rfl|rfl|rfl|rfl|rfl|rfl|rfl|rfl|rfl|rfl|rfl|rfl|rfl|rfl|rfl|rfl|rfl|rfl|rfl|rfl|rfl|rfl<;>simp only [aR,Int.reduceEq]
 ·refine jG bB [i64 (1)] rfl rfl (by simp) rfl λv w4 ho x4=>hk _ _ (aA.of_own ho) (xx.trans x4)
 ·have ha:a < (m.locs.length:Int):=hn;have a1:0<=a:=a1;refine iC hb2 nW rfl ?_;refine aV hb3 aX aE rfl ?_;refine JR (hm0.ext xx) mr a1 λw4 x4=>gR.2 (gQ.2 ?_);refine jG bB [i64 (m.locs.getD a.toNat 0)] rfl rfl (by simp) rfl λv w5 ho x5=>hk _ _ (aA.of_own ho) ((xx.trans x4).trans x5)
 iterate 2
  ·exact hk _ _ (aA.nil _ _) xx
 ·have hl1:l.length=1:=hln;have D1:aG w3 w3.drew:=(aG.refl _).drew;refine aL.mk' (λw'=>aG w3 w') D1 ?_;refine nT aP aE (ht.ext xx) (λ_ h=>h) (by omega) (by omega) (cM (j:=0) (fO (by omega))) ?_;refine nT aP aE (ht.ext xx) (λ_ h=>h) (by omega) (by omega) (cM (j:=0) (fO (by omega))) ?_;refine jG bB [i64 (cN l 0),i64 (cN l 0)] rfl rfl (by simp) rfl λv w4 ho x4=>⟨D1.trans x4,hk _ _ (aA.of_own ho) ((xx.trans D1).trans x4)⟩
 iterate 9
  ·have hl1:l.length=2:=hln;have D1:aG w3 w3.drew:=(aG.refl _).drew;refine aL.mk' (λw'=>aG w3 w') D1 ?_;refine nT aP aE (ht.ext xx) (λ_ h=>h) (by omega) (by omega) (cM (j:=0) (fO (by omega))) ?_;refine nT aP aE (ht.ext xx) (λ_ h=>h) (by omega) (by omega) (cM (j:=1) (fO (by omega))) ?_;refine CI ⟨D1,?_⟩;refine jG bB [i64 (rZ (cN l 0) (cN l 1))] rfl rfl (by simp) rfl λv w4 ho x4=>⟨D1.trans x4,hk _ _ (aA.of_own ho) ((xx.trans D1).trans x4)⟩
 iterate 2
  ·have hl1:l.length=1:=hln;refine mH aP aE (ht.ext xx) (by omega) (by omega) (cM (j:=0) (fO (by omega))) ?_;refine jG bB [i64 (cN l 0)] rfl rfl (by simp) rfl λv w4 ho x4=>hk _ _ (aA.of_own ho) (xx.trans x4)
 iterate 2
  ·refine jG bB [i64 (1)] rfl rfl (by simp) rfl λv w4 ho x4=>hk _ _ (aA.of_own ho) (xx.trans x4)
 iterate 3
  ·have hl1:l.length=2:=hln;have D1:aG w3 w3.drew:=(aG.refl _).drew;refine aL.mk' (λw'=>aG w3 w') D1 ?_;refine nT aP aE (ht.ext xx) (λ_ h=>h) (by omega) (by omega) (cM (j:=0) (fO (by omega))) ?_;refine nT aP aE (ht.ext xx) (λ_ h=>h) (by omega) (by omega) (cM (j:=1) (fO (by omega))) ?_;refine CI ⟨D1,?_⟩;refine jG bB [i64 (rZ (cN l 0) (cN l 1))] rfl rfl (by simp) rfl λv w4 ho x4=>⟨D1.trans x4,hk _ _ (aA.of_own ho) ((xx.trans D1).trans x4)⟩
 ·have hl1:l.length=3:=hln;have e:∀ v w',aO w' v [BB l]->aG w w'->K v w':=hk;unfold BB at e;refine mH aP aE (ht.ext xx) (by omega) (by omega) (cM (j:=1) (fO (by omega))) ?_;refine tX ?_;change aI (.bool (fZ (cN l 1))) _ _;cases hz:fZ (cN l 1)
  ·rw [hz] at e;refine aM.2 ?_;have D1:aG w3 w3.drew:=(aG.refl _).drew;refine aL.mk' (λw'=>aG w3 w') D1 ?_;refine nT aP aE (ht.ext xx) (λ_ h=>h) (by omega) (by omega) (cM (j:=0) (fO (by omega))) ?_;refine nT aP aE (ht.ext xx) (λ_ h=>h) (by omega) (by omega) (cM (j:=1) (fO (by omega))) ?_;refine nT aP aE (ht.ext xx) (λ_ h=>h) (by omega) (by omega) (cM (j:=2) (fO (by omega))) ?_;refine CI ⟨D1,CI ⟨D1,?_⟩⟩;refine jG bB [i64 (rZ (cN l 0) (rZ (cN l 1) (cN l 2)))] rfl rfl (by simp) rfl λv w4 ho x4=>⟨D1.trans x4,e _ _ (aA.of_own ho) ((xx.trans D1).trans x4)⟩
  ·rw [hz] at e;refine bH.2 ?_;refine mH aP aE (ht.ext xx) (by omega) (by omega) (cM (j:=1) (fO (by omega))) ?_;refine jG bB [i64 (cN l 1)] rfl rfl (by simp) rfl λv w4 ho x4=>e _ _ (aA.of_own ho) (xx.trans x4)
 iterate 2
  ·exact hk _ _ (aA.nil _ _) xx
 ·refine aV hb3 aX aE rfl ?_;refine jG bB [i64 (a)] rfl rfl (by simp) rfl λv w4 ho x4=>hk _ _ (aA.of_own ho) (xx.trans x4)
 ·refine jG bB [i64 (1)] rfl rfl (by simp) rfl λv w4 ho x4=>hk _ _ (aA.of_own ho) (xx.trans x4)
 ·refine aV hb3 aX aE rfl ?_;refine jG bB [i64 (a)] rfl rfl (by simp) rfl λv w4 ho x4=>hk _ _ (aA.of_own ho) (xx.trans x4)
 ·refine jG bB [i64 (1)] rfl rfl (by simp) rfl λv w4 ho x4=>hk _ _ (aA.of_own ho) (xx.trans x4)
 ·have hl1:l.length=2:=hln;refine mH aP aE (ht.ext xx) (by omega) (by omega) (cM (j:=0) (fO (by omega))) ?_;refine bLk ?_;refine jG bB [i64 (ofK (cN l 0))] rfl rfl (by simp) rfl λv w4 ho x4=>hk _ _ (aA.of_own ho) (xx.trans x4)
 iterate 2
  ·exact hk _ _ (aA.nil _ _) xx
 ·have hl1:l.length=5:=hln;have e:∀ v w',aO w' v (if cN l 0=4\/cN l 2=4 then [2] else [1])->aG w w'->K v w':=hk;refine mH aP aE (ht.ext xx) (by omega) (by omega) (cM (j:=0) (fO (by omega))) ?_;change V _ (do eqGuard .eql _ _ _ (i64 (cN l 0)) _;binOp .eql _ (i64 (cN l 0)) _) _ _;refine aJ.2 ?_;by_cases z0:cN l 0=4
  ·simp only [z0,true_or,aR] at e ⊢;refine jG bB [i64 (2)] rfl rfl (by simp) rfl λv w4 ho x4=>e _ _ (aA.of_own ho) (xx.trans x4)
  ·simp only [z0,aR];refine mH aP aE (ht.ext xx) (by omega) (by omega) (cM (j:=2) (fO (by omega))) ?_;change V _ (do eqGuard .eql _ _ _ (i64 (cN l 2)) _;binOp .eql _ (i64 (cN l 2)) _) _ _;refine aJ.2 ?_;by_cases z2:cN l 2=4
   ·simp only [z2,or_true,aR] at e ⊢;refine jG bB [i64 (2)] rfl rfl (by simp) rfl λv w4 ho x4=>e _ _ (aA.of_own ho) (xx.trans x4)
   ·simp only [z0,z2,or_self,aR] at e ⊢;refine jG bB [i64 (1)] rfl rfl (by simp) rfl λv w4 ho x4=>e _ _ (aA.of_own ho) (xx.trans x4)
 ·have ha:a < (i.fields.length:Int):=hn;have a1:0<=a:=a1;refine aV hb1 jT bE rfl ?_;refine aV hb3 aX aE rfl ?_;obtain ⟨k,rfl⟩:∃ k:Nat,a=k:=⟨a.toNat,by omega⟩;refine mH aP aE h'.fl (by omega) (by omega) (cM (fO (by omega))) ?_;refine jG bB [i64 (i.fields.getD k 0)] rfl rfl (by simp) rfl λv w4 ho x4=>hk _ _ (aA.of_own ho) (xx.trans x4)
 ·exact hk _ _ (aA.nil _ _) xx
 ·have a1:1<=a:=a1;have a2:a<=2:=a2;refine aV hb3 aX aE rfl (bJ.2 ?_);rw [lI (by dsimp only;omega) (by dsimp only;omega)];refine fT.2 ?_;rw [lI (by dsimp only;omega) (by dsimp only;omega)];refine jG bB [i64 (3+a - 1)] rfl rfl (by simp) rfl λv w4 ho x4=>hk _ _ (aA.of_own ho) (xx.trans x4)
 ·exact hk _ _ (aA.nil _ _) xx
 ·have ha:a < (i.methods.length:Int):=hn;have a1:0<=a:=a1;refine aV hb1 bP dN rfl ?_;refine aV hb3 aX aE rfl ?_;have e:∀ v w',aO w' v (mC (i.meth a).result)->aG w w'->K v w':=hk;obtain ⟨k,rfl⟩:∃ k:Nat,a=k:=⟨a.toNat,by omega⟩;refine rS iF gG aE h'.mt (gI a1 ha) λrow hrow=>?_;obtain ⟨pv2,lv2,cv2,rfl,_,_,_⟩:=hrow;refine ⟨i64 (i.meth (k:Int)).result,rfl,by decide,cL.2 ?_⟩;by_cases hr:(i.meth (k:Int)).result=0
  ·simp only [hr,aR];refine e _ _ ?_ xx;rw [mC,if_pos hr];exact aA.nil _ _
  ·simp only [hr,aR];refine jG bB [i64 (i.meth (k:Int)).result] rfl rfl (by simp) rfl λv w4 ho x4=>e _ _ ?_ (xx.trans x4);rw [mC,if_neg hr];exact aA.of_own ho
 ·have ha:a < (i.imports.length:Int):=hn;have a1:0<=a:=a1;refine aV hb1 fP iT rfl ?_;refine aV hb3 aX aE rfl ?_;have e:∀ v w',aO w' v (mC (i.imp a).result)->aG w w'->K v w':=hk;obtain ⟨k,rfl⟩:∃ k:Nat,a=k:=⟨a.toNat,by omega⟩;refine rS oD cF aE h'.im (tY a1 ha) λrow hrow=>?_;obtain ⟨pv2,rfl,_⟩:=hrow;refine ⟨i64 (i.imp (k:Int)).result,rfl,by decide,cL.2 ?_⟩;by_cases hr:(i.imp (k:Int)).result=0
  ·simp only [hr,aR];refine e _ _ ?_ xx;rw [mC,if_pos hr];exact aA.nil _ _
  ·simp only [hr,aR];refine jG bB [i64 (i.imp (k:Int)).result] rfl rfl (by simp) rfl λv w4 ho x4=>e _ _ ?_ (xx.trans x4);rw [mC,if_neg hr];exact aA.of_own ho
 ·exact hk _ _ (aA.nil _ _) xx
end Go.Proofs.YtjcmcfidblhnnaaGreatDoor
namespace Go.Tc
def pK:List UInt8->List Int->Bool
 | c::p,k::l=>(if c=97 then !fZ k else !eF k)||pK p l
 | _,_=>false
def rB:List UInt8->List Int->Bool
 | c::p,k::l=>(c == 112&&(k == 2||k == 4))||rB p l
 | _,_=>false
def GK (c:UInt8):Int:=if c=97 then -4 else if c=112 then -3 else -2
theorem bLg:∀ {p:List UInt8} {l:List Int},(∀ c∈p,c=97\/c=112\/c=105)->sY l->((pK p l||rB p l)=false↔kD (p.map GK) l=true/\gP (p.map GK) l=false)
 | [],_,_,_=>by simp [pK,rB,kD,gP]
 | _::_,[],_,_=>by simp [pK,rB,kD,gP]
 | c::p,k::l,hp,hl=>by
  have ih:=bLg (p:=p) (l:=l) (λc hc=>hp c (by simp [hc])) λk hk=>hl k (by simp [hk]);have hk:Kd k:=hl k (by simp);have ek:k=1\/k=2\/k=3\/k=4:=by obtain ⟨h1,h2⟩:=hk;omega
  simp only [pK,rB,kD,gP,List.map_cons];generalize pK p l=A at ih ⊢;generalize rB p l=B at ih ⊢;generalize kD (p.map GK) l=C at ih ⊢;generalize gP (p.map GK) l=D at ih ⊢
  rcases hp c (by simp) with rfl|rfl|rfl<;>rcases ek with rfl|rfl|rfl|rfl <;>
   (simp [GK,uI,wS,eF,fZ];try (revert ih;cases A<;>cases B<;>cases C<;>cases D<;>simp))
def BK (a b:Int):Int:=if eF a≠eF b\/(fZ a=true/\a≠b) then 11 else if (a == b||(a == 1&&b == 2)) then 0 else 12
def UO:List Int->List Int->Bool
 | a::t,k::l=>(BK k a == 11)||UO t l
 | _,_=>false
def UN:List Int->List Int->Bool
 | a::t,k::l=>(BK k a == 12)||UN t l
 | _,_=>false
theorem aIs {k a:Int} (hk:Kd k) (ha:Kd a):((BK k a == 11)||(BK k a == 12))=false↔uI k a=true/\wS k a=false:=by
 have ek:k=1\/k=2\/k=3\/k=4:=by obtain ⟨h1,h2⟩:=hk;omega
 have ea:a=1\/a=2\/a=3\/a=4:=by obtain ⟨h1,h2⟩:=ha;omega
 rcases ek with rfl|rfl|rfl|rfl<;>rcases ea with rfl|rfl|rfl|rfl<;>decide
theorem inA:∀ {t l:List Int},sY t->sY l->((UO t l||UN t l)=false↔kD t l=true/\gP t l=false)
 | [],_,_,_=>by simp [UO,UN,kD,gP]
 | _::_,[],_,_=>by simp [UO,UN,kD,gP]
 | a::t,k::l,ht,hl=>by
  have ih:=inA (t:=t) (l:=l) (λc hc=>ht c (by simp [hc])) λk hk=>hl k (by simp [hk]);have h1:=aIs (hl k (by simp)) (ht a (by simp));simp only [UO,UN,kD,gP];generalize UO t l=A at ih ⊢;generalize UN t l=B at ih ⊢;generalize kD t l=C at ih ⊢;generalize gP t l=D at ih ⊢;generalize (BK k a == 11)=E at h1 ⊢;generalize (BK k a == 12)=F at h1 ⊢;generalize uI k a=G at h1 ⊢;generalize wS k a=H at h1 ⊢;revert ih h1;cases A<;>cases B<;>cases C<;>cases D<;>cases E<;>cases F<;>cases G<;>cases H<;>simp
theorem EQ:∀ {t l:List Int} {j:Nat} {a k:Int},t[j]?=some a->l[j]?=some k->UO (t.take (j+1)) (l.take (j+1))=(UO (t.take j) (l.take j)||BK k a == 11)
 | [],_,_,_,_,h,_=>by simp at h
 | _::_,[],_,_,_,_,h=>by simp at h
 | a::t,k::l,0,_,_,h1,h2=>by simp at h1 h2;subst h1 h2;simp [UO]
 | a::t,k::l,j+1,_,_,h1,h2=>by
  have:=EQ (t:=t) (l:=l) (j:=j) (by simpa using h1) (by simpa using h2);simp only [List.take_succ_cons,UO] at this ⊢;rw [this,Bool.or_assoc]
theorem EP:∀ {t l:List Int} {j:Nat} {a k:Int},t[j]?=some a->l[j]?=some k->UN (t.take (j+1)) (l.take (j+1))=(UN (t.take j) (l.take j)||BK k a == 12)
 | [],_,_,_,_,h,_=>by simp at h
 | _::_,[],_,_,_,_,h=>by simp at h
 | a::t,k::l,0,_,_,h1,h2=>by simp at h1 h2;subst h1 h2;simp [UN]
 | a::t,k::l,j+1,_,_,h1,h2=>by
  have:=EP (t:=t) (l:=l) (j:=j) (by simpa using h1) (by simpa using h2);simp only [List.take_succ_cons,UN] at this ⊢;rw [this,Bool.or_assoc]
theorem GY:∀ {p:List UInt8} {l:List Int} {j:Nat} {c:UInt8} {k:Int},p[j]?=some c->l[j]?=some k->pK (p.take (j+1)) (l.take (j+1))=(pK (p.take j) (l.take j)||(if c=97 then !fZ k else !eF k))
 | [],_,_,_,_,h,_=>by simp at h
 | _::_,[],_,_,_,_,h=>by simp at h
 | a::t,k::l,0,_,_,h1,h2=>by simp at h1 h2;subst h1 h2;simp [pK]
 | a::t,k::l,j+1,_,_,h1,h2=>by
  have:=GY (p:=t) (l:=l) (j:=j) (by simpa using h1) (by simpa using h2);simp only [List.take_succ_cons,pK] at this ⊢;rw [this,Bool.or_assoc]
theorem GX:∀ {p:List UInt8} {l:List Int} {j:Nat} {c:UInt8} {k:Int},p[j]?=some c->l[j]?=some k->rB (p.take (j+1)) (l.take (j+1))=(rB (p.take j) (l.take j)||(c == 112&&(k == 2||k == 4)))
 | [],_,_,_,_,h,_=>by simp at h
 | _::_,[],_,_,_,_,h=>by simp at h
 | a::t,k::l,0,_,_,h1,h2=>by simp at h1 h2;subst h1 h2;simp [rB]
 | a::t,k::l,j+1,_,_,h1,h2=>by
  have:=GX (p:=t) (l:=l) (j:=j) (by simpa using h1) (by simpa using h2);simp only [List.take_succ_cons,rB] at this ⊢;rw [this,Bool.or_assoc]
end Go.Tc
namespace Go.Proofs.YtjcmcfidblhnnaaGreatDoor
open Tryz
open Go.Vc Go.Tc
variable {w:O} {K:Y->O->Prop}
abbrev Wr (w:O) (g:Nat) (kf lf:Bool):Prop:=bO w g [.bool kf,.bool lf] 248
theorem zI {g:Nat} {kf lf:Bool} {e:Int} (hb:Wr w g kf lf) (hk:∀ w',Wr w' g (kf||e == 11) (lf||e == 12)->(∀ a,aG a w->a.heap.size<=g->aG a w')->K (.tuple #[]) w') :
  aB prog 151 #[.pointer (some ⟨g,0,none⟩),i64 e] w K:=by
 apply aYr;unfold RF;refine ⟨.inl ⟨_,rfl⟩,?_⟩;refine aV hb.boxed eI oM rfl ?_
 cases kf<;>cases lf <;>
  (simp only [aR]
   refine ⟨.inl ⟨_,rfl⟩,?_⟩;refine FZ (by first|exact cX|exact cW|exact cA|exact cV|exact cK|exact cJ|exact bZ|exact cU|exact cT|exact cS|exact cI|exact cH|exact cG|exact bW|exact cR|exact bV|exact dG|exact cQ|exact cP|exact dF|exact dE|exact dL|exact dK|exact dJ|exact dD|exact dI|exact dT|exact dS|exact eC|exact eQ|exact eB|exact dR|exact fB|exact eO|exact fA|exact bU|exact eA|exact dZ|exact dY|exact eN|exact dQ|exact bY|exact cF|exact eZ|exact eM|exact cE|exact dX|exact fH|exact dW|exact fS|exact eY|exact bG|exact eX|exact cD|exact eJ|exact eW|exact fR|exact dC|exact fQ|exact gM|exact gD|exact iK|exact jE|exact dV|exact gK|exact jD|exact iJ|exact jC|exact jB|exact jA|exact iZ|exact iI|exact bQ|exact gC|exact gJ|exact eI) lE hb (n:=2) rfl (by decide) rfl ⟨.inl ⟨_,rfl⟩,?_⟩;have hb1:=hb.set 0;refine aV (hb1 _).boxed (by first|exact cX|exact cW|exact cA|exact cV|exact cK|exact cJ|exact bZ|exact cU|exact cT|exact cS|exact cI|exact cH|exact cG|exact bW|exact cR|exact bV|exact dG|exact cQ|exact cP|exact dF|exact dE|exact dL|exact dK|exact dJ|exact dD|exact dI|exact dT|exact dS|exact eC|exact eQ|exact eB|exact dR|exact fB|exact eO|exact fA|exact bU|exact eA|exact dZ|exact dY|exact eN|exact dQ|exact bY|exact cF|exact eZ|exact eM|exact cE|exact dX|exact fH|exact dW|exact fS|exact eY|exact bG|exact eX|exact cD|exact eJ|exact eW|exact fR|exact dC|exact fQ|exact gM|exact gD|exact iK|exact jE|exact dV|exact gK|exact jD|exact iJ|exact jC|exact jB|exact jA|exact iZ|exact iI|exact bQ|exact gC|exact gJ|exact eI|exact eG) (by first|exact iD|exact iY|exact iN|exact iX|exact kT|exact iW|exact kZ|exact iV|exact iU|exact bE|exact jP|exact iT|exact dN|exact aE|exact kY|exact hU|exact oM) rfl ?_
   simp only [aR];refine ⟨.inl ⟨_,rfl⟩,?_⟩;refine FZ (by first|exact cX|exact cW|exact cA|exact cV|exact cK|exact cJ|exact bZ|exact cU|exact cT|exact cS|exact cI|exact cH|exact cG|exact bW|exact cR|exact bV|exact dG|exact cQ|exact cP|exact dF|exact dE|exact dL|exact dK|exact dJ|exact dD|exact dI|exact dT|exact dS|exact eC|exact eQ|exact eB|exact dR|exact fB|exact eO|exact fA|exact bU|exact eA|exact dZ|exact dY|exact eN|exact dQ|exact bY|exact cF|exact eZ|exact eM|exact cE|exact dX|exact fH|exact dW|exact fS|exact eY|exact bG|exact eX|exact cD|exact eJ|exact eW|exact fR|exact dC|exact fQ|exact gM|exact gD|exact iK|exact jE|exact dV|exact gK|exact jD|exact iJ|exact jC|exact jB|exact jA|exact iZ|exact iI|exact bQ|exact gC|exact gJ|exact eI|exact eG) lE (hb1 _) (n:=2) rfl (by decide) rfl ?_;exact hk _ ((hb1 _).set 1 _) λa ha hg=>(ha.setCell hg _).setCell hg _)
end Go.Proofs.YtjcmcfidblhnnaaGreatDoor
namespace Go.Tc
theorem xF:∀ {a b acc:List Int} {j:Nat} {x y k:Int},a[j]?=some x->b[j]?=some y->mO (a.take j) (b.take j)=some acc->BH x y=some k->mO (a.take (j+1)) (b.take (j+1))=some (acc++[k])
 | [],_,_,_,_,_,_,h,_,_,_=>by simp at h
 | _::_,[],_,_,_,_,_,_,h,_,_=>by simp at h
 | a::l,b::m,acc,0,x,y,k,h1,h2,h3,h4=>by
  simp at h1 h2;subst h1 h2;simp [mO] at h3;subst h3;simp [mO,h4]
 | a::l,b::m,acc,j+1,x,y,k,h1,h2,h3,h4=>by
  simp only [List.take_succ_cons,mO,Option.bind_eq_some_iff,Option.map_eq_some_iff] at h3;obtain ⟨q,hq,r,hr,rfl⟩:=h3;have:=xF (a:=l) (b:=m) (by simpa using h1) (by simpa using h2) hr h4;simp only [List.take_succ_cons,mO] at this ⊢;rw [hq,this];rfl
theorem EC:∀ {a b:List Int} {j:Nat} {x y:Int},a[j]?=some x->b[j]?=some y->BH x y=none->mO a b=none
 | [],_,_,_,_,h,_,_=>by simp at h
 | _::_,[],_,_,_,_,h,_=>by simp at h
 | a::l,b::m,0,x,y,h1,h2,h4=>by
  simp at h1 h2;subst h1 h2;simp [mO,h4]
 | a::l,b::m,j+1,x,y,h1,h2,h4=>by
  have:=EC (a:=l) (b:=m) (by simpa using h1) (by simpa using h2) h4;simp [mO,this]
theorem ED:∀ {a b:List Int},a.length≠b.length->mO a b=none
 | [],[],h=>absurd rfl h
 | [],_::_,_=>rfl
 | _::_,[],_=>rfl
 | a::l,b::m,h=>by
  have:=ED (a:=l) (b:=m) (by simpa using h);simp [mO,this]
end Go.Tc
namespace Go.Proofs.YtjcmcfidblhnnaaGreatDoor
open Tryz
open Go.Vc Go.Tc
variable {w:O} {K:Y->O->Prop}
theorem TG {av bv:Y} {a b:List Int} (ha:aO w av a) (hb:aO w bv b) (hk:∀ w',aG w w'->K (.bool (decide (a=b))) w'):aB prog 97 #[av,bv] w K:=by
 have ca:=uX ha;apply bGr;unfold ZE;refine gE aP ha (gE aP hb (cL.2 (aC (λhne=>?_) λheq=>?_)))
 ·have:¬ a=b:=λe=>hne (by rw [e]);rw [decide_eq_false this] at hk;exact hk _ (aG.refl _)
 have hl:a.length=b.length:=by omega
 refine ⟨λv w'=>∃ j:Nat,v=i64 j/\j<=a.length/\aG w w'/\a.take j=b.take j,λv _=>a.length - (RowKit.intOf v).toNat,⟨0,rfl,Nat.zero_le _,aG.refl _,rfl⟩,?_⟩;rintro _ w1 ⟨j,rfl,hj,x1,hjs⟩ _;refine gE aP (ha.ext x1) (aZ.2 (aC (λhlt=>?_) λhge=>?_))
 ·obtain ⟨x,hx⟩:=bI (l:=a) (j:=j) (by omega);obtain ⟨y,hy⟩:=bI (l:=b) (j:=j) (by omega);have D1:aG w1 w1.drew:=(aG.refl _).drew;refine aL.mk' (λw'=>aG w1 w') D1 ?_;refine nT aP aE (ha.ext x1) (λ_ h=>h) (by omega) (by omega) (cM hx) ?_;refine nT aP aE (hb.ext x1) (λ_ h=>h) (by omega) (by omega) (cM hy) ?_;refine aF.ok (λw' _=>wX) (aC (λhne=>?_) λheq=>?_)
  ·have:¬ a=b:=λe=>hne (by subst e;rw [hx] at hy;cases hy;rfl);rw [decide_eq_false this] at hk;exact hk _ (x1.trans D1)
  ·have:x=y:=by simpa using heq
   subst this;refine bJ.2 ?_;rw [lI (by omega) (by unfold maxLen at ca;omega),bK];exact ⟨⟨j+1,rfl,by omega,x1.trans D1,by rw [List.take_add_one,List.take_add_one,hx,hy,hjs]⟩,by simp only [aK];omega⟩
 ·have hjl:j=a.length:=by omega
  subst hjl
  have:a=b:=by
   rw [List.take_length,hl,List.take_length] at hjs;exact hjs
  rw [decide_eq_true this] at hk;exact hk _ x1
theorem aEy {av bv:Y} {a b:List Int} (ha:aO w av a) (hb:aO w bv b) (ka:sY a) (kb:sY b) (hl8:a.length<=1000)
  (yes:∀ j v w',mO a b=some j->w'.ownsRow w.heap.size 3 1 v j.length (j.map i64)->aG w w'->K (.tuple #[v,.bool true]) w') (no:∀ w',mO a b=none->aG w w'->K (.tuple #[bC,.bool false]) w') :
  aB prog 96 #[av,bv] w K:=by
 apply bGs;unfold ZF;refine gE aP ha (gE aP hb (cL.2 (aC (λhne=>?_) λheq=>?_)))
 ·exact no _ (ED λe=>hne (by rw [e])) (aG.refl _)
 have hl:a.length=b.length:=by omega
 refine ⟨λov v w'=>∃ (j:Nat) (acc:List Int),v=i64 j/\j<=a.length/\aG w w'/\mO (a.take j) (b.take j)=some acc/\acc.length=j/\w'.ownsRow w.heap.size 3 1 ov j (acc.map i64),λ_ v _=>a.length - (RowKit.intOf v).toNat,
  ⟨0,[],rfl,Nat.zero_le _,aG.refl _,rfl,rfl,World.ownsRow_nil _ _ _ _⟩,?_⟩
 rintro ov _ w1 ⟨j,acc,rfl,hj,x1,hacc,hal,ho⟩ _;refine gE aP (ha.ext x1) (aZ.2 (aC (λhlt=>?_) λhge=>?_))
 ·obtain ⟨x,hx⟩:=bI (l:=a) (j:=j) (by omega);obtain ⟨y,hy⟩:=bI (l:=b) (j:=j) (by omega);have D1:aG w1 w1.drew:=(aG.refl _).drew;have xd:=x1.trans D1;refine aL.mk' (λw'=>aG w1 w') D1 ?_;refine nT aP aE (ha.ext x1) (λ_ h=>h) (by omega) (by omega) (cM hx) ?_;refine nT aP aE (hb.ext x1) (λ_ h=>h) (by omega) (by omega) (cM hy) ?_;refine aRv (ka x (List.mem_of_getElem? hx)) (kb y (List.mem_of_getElem? hy)) ⟨D1,?_⟩;unfold XN;cases hk:BH x y with
  | none=>
   refine aF.ok (λw' _=>nQ) (aF.ok (λw' _=>nP) (dO.2 (bH.2 ?_)));exact no _ (EC hx hy hk) xd
  | some k=>
   refine aF.ok (λw' _=>nQ) (aF.ok (λw' _=>nP) (dO.2 (aM.2 ?_)));refine jG bB [i64 k] rfl rfl (by simp) rfl λv2 w2 ho2 x2=>?_;have x12:=D1.trans x2;refine LD bB (x12.own ho) (aA.of_own ho2) rfl (by omega) (by unfold maxLen;omega) (xd.trans x2).size λv3 w3 ho3 hg3=>?_;refine jS (by omega) ?_;refine ⟨⟨j+1,acc++[k],rfl,by omega,(xd.trans x2).grown hg3 λq hq=>((x12.own ho).lt q hq).1,xF hx hy hacc hk,by simp [hal],by simpa using ho3⟩,by simp only [aK];omega⟩
 ·have hjl:j=a.length:=by omega
  subst hjl;rw [List.take_length,hl,List.take_length] at hacc;refine yes acc ov _ hacc ?_ x1;have:=ho;rw [<- hal] at this;exact this
end Go.Proofs.YtjcmcfidblhnnaaGreatDoor
namespace Go.Vc
section
variable {P:Program} {w:O} {S:O->Prop} {L:Y->Prop}
theorem wY {t:TypeId} (ht:P.underlying t=some .string) {s:ByteArray} {j:Nat} {c:UInt8} (h:s[j]?=some c):(Instr.index t (.string s) (i64 j)).run P w=.ok (.int .u8 c.toNat) w:=by
 simp [Instr.index,asIntOf,run_underlying ht,h]
end
end Go.Vc
namespace Go.Tc
theorem aQy {i:iA} {m:jR} {op a b:Int} (ho:1<=op/\op<=39):(∀ c∈Go.Proofs.YtjcmcfidblhnnaaGreatDoor.jI op,c=97\/c=112\/c=105)/\(Go.Proofs.YtjcmcfidblhnnaaGreatDoor.jI op).length<=(aY i m ⟨op,a,b⟩).length/\(¬ (op=3\/op=34\/op=22\/op=37\/op=38\/op=39\/op=4\/op=5)->aY i m ⟨op,a,b⟩=(Go.Proofs.YtjcmcfidblhnnaaGreatDoor.jI op).map GK):=by
 have:op=1\/op=2\/op=3\/op=4\/op=5\/op=6\/op=7\/op=8\/op=9\/op=10\/op=11\/op=12\/op=13\/op=14\/op=15\/op=16\/op=17\/op=18\/op=19\/op=20\/op=21\/op=22\/op=23\/op=24\/op=25\/op=26\/op=27\/op=28\/op=29\/op=30\/op=31\/op=32\/op=33\/op=34\/op=35\/op=36\/op=37\/op=38\/op=39:=by omega
 rcases this with rfl|rfl|rfl|rfl|rfl|rfl|rfl|rfl|rfl|rfl|rfl|rfl|rfl|rfl|rfl|rfl|rfl|rfl|rfl|rfl|rfl|rfl|rfl|rfl|rfl|rfl|rfl|rfl|rfl|rfl|rfl|rfl|rfl|rfl|rfl|rfl|rfl|rfl|rfl<;>refine ⟨by decide,?_,?_⟩<;>first|exact Nat.zero_le _|exact Nat.le_refl _|exact λ_=>rfl|exact λh=>absurd (by omega) h
end Go.Tc
namespace Go.Proofs.YtjcmcfidblhnnaaGreatDoor
open Tryz
open Go.Vc Go.Tc
variable {w:O} {K:Y->O->Prop}
variable {A B S:Bool} {i:iA} {m:jR} {a k0 k1 k2:Int}
theorem ySF {S:O->Prop} {L:Y->Prop} {α:Type} {T:O->List Y->α->Prop} {sz:Nat} {t s f o ft:Nat} {v:Y} {l:List α} {i:Nat} {e:α} (h:XA prog t sz) (hf:FA prog s f o) (hl:L1 prog ft) (hs:bR T sz w v l) (hx:∀ w',S w'->aG w w') (hi:l[i]?=some e)
  (hk:∀ row,T w row e->∃ u,row[o]?=some u/\o < sz/\L u):aF prog S (Instr.indexAt t v (i64 i)) λp=>aF prog S (Instr.fieldAt s p f) λq=>aF prog S (Instr.loadAt ft q) L:=by
 obtain ⟨cs,h1,h2⟩:=hs;obtain ⟨row,h3,h4⟩:=h2 i e hi;have hlt:i < l.length:=(List.getElem?_eq_some_iff.1 hi).1;obtain ⟨u,hu,ho,hK⟩:=hk row h4;obtain ⟨e',z,b',hte,hinf⟩:=h;obtain ⟨d,hd,ha⟩:=hl;obtain ⟨b,off,cap,rfl,hcell⟩:=h1.there (by omega)
 have hu':cs[i*sz+o]?=some u:=by
  rw [<- h3,List.getElem?_take,if_pos ho,List.getElem?_drop] at hu;exact hu
 have hc:=hcell _ _ hu';rw [<- Nat.add_assoc] at hc;refine aF.ok (λw' _=>jZ hte hinf (by omega) (by omega)) (aF.ok (λw' _=>hf.ex w' b _) (aF.ok (λw' hw=>jN hd ha ?_) hK));have:=(hx w' hw).cell hc;simpa using this
theorem OJ (l:List Int):(l.map i64).all bX=true:=List.all_eq_true.2 λv hv=>by obtain ⟨x,_,rfl⟩:=List.mem_map.1 hv;rfl
theorem aRe {l:List Int} (h:l.length=1):l=[cN l 0]:=by
 match l,h with
 | [a],_=>rfl
theorem bDh {l:List Int} (h:l.length=3):l=[cN l 0,cN l 1,cN l 2]:=by
 match l,h with
 | [a,b,c],_=>rfl
theorem lQ {l:List Int} {j:Nat} (h:j < l.length):l[j]?=some (cN l j):=fO h
def vG (i:iA) (m:jR) (x:lT) (l:List Int):Prop:=mY x (aY i m x) l=true/\kO x (aY i m x) l=false
theorem ER {op b:Int} {l:List Int} (h:op≠22/\op≠30/\op≠31/\op≠36):vG i m ⟨op,a,b⟩ l↔kD (aY i m ⟨op,a,b⟩) l=true/\gP (aY i m ⟨op,a,b⟩) l=false:=by
 unfold vG mY kO;dsimp only;rw [if_neg h.1,if_neg h.1,if_neg h.2.1,if_neg h.2.2.1,if_neg h.2.2.2];simp
theorem UR {D z:Bool} (h:(A||B)=false↔D=true/\S=false):(A||(B||z))=false↔D=true/\(S||z)=false:=by
 revert h;cases A<;>cases B<;>cases D<;>cases S<;>cases z<;>simp
theorem bEx (h0:Kd k0) (h1:Kd k1) (h2:Kd k2):((!eF k0||(eF k1 != eF k2)||(fZ k1&&(k1 != k2)))||(fZ k1&&EF k0))=false ↔
  (kD [-2,-1,-1] [k0,k1,k2]&&(eF k1&&eF k2||fZ k1&&k1 == k2))=true/\(fZ k1&&k0 == 2)=false:=by
 rcases LC h0 with rfl|rfl|rfl|rfl<;>rcases LC h1 with rfl|rfl|rfl|rfl<;>rcases LC h2 with rfl|rfl|rfl|rfl<;>decide
theorem bEw (h0:Kd k0) (_:Kd k1) (h2:Kd k2) (h:(A||B)=false↔kD [-4,-3,-2] [k0,k1,k2]=true/\S=false) :
  (A||(B||(decide (k0=3)&&EF k2)))=false↔kD [-4,-3,-2] [k0,k1,k2]=true/\(S||(k0 == 3&&k2 == 2))=false:=by
 rw [UR h];rcases LC h0 with rfl|rfl|rfl|rfl<;>rcases LC h2 with rfl|rfl|rfl|rfl<;>cases S<;>simp [kD,uI,fZ,eF,EF]
theorem MQ (h:i.right) (h0:0<=a) (ha:a < i.methods.length):sY (i.meth a).params:=(h.2.2.1.2.1 _ (iA.meth_mem h0 ha)).1.1
theorem XR (h:i.right) (h0:0<=a) (ha:a < i.imports.length):sY (i.imp a).params:=(h.2.1.2 _ (iA.imp_mem h0 ha)).2.1.1
theorem bFi {p:iE} {row:List Y} {x:lT} {sv:Y} {s:List Int} (h:kF w p i) (hm:mF w row m) (hx:xR i m x) (hs:aO w sv s) (ks:sY s) (h8:s.length<=8)
  (yes:∀ out v w',CG i m x s=some out->w'.ownsRow w.heap.size 3 1 v out.length (out.map i64)->aG w w'->K (.tuple #[v,i64 0]) w') (no:∀ e w',CG i m x s=none->e≠0->aG w w'->K (.tuple #[bC,i64 e]) w') :
  aB prog 94 #[p.val i,.agg row.toArray,.agg #[i64 x.op,i64 x.a,i64 x.b],sv] w K:=by
 obtain ⟨op,a,b⟩:=x;have hx0:=hx;obtain ⟨ir,mr,⟨ho,a1,a2,_⟩,hn⟩:=hx;dsimp only at ho a1 a2;have hm0:=hm;obtain ⟨pv,lv,cv,rfl,hp,hl,hc⟩:=hm;apply bGu;unfold ZH iE.val;refine bx λb1 w1 hb1 x1=>?_;refine bx λb2 w2 hb2 x2=>?_;refine bx λb3 w3 hb3 x3=>?_;have hb1:=(hb1.ext x2).ext x3;have hb2:bF w3 b2 [pv,i64 m.result,lv,cv]:=hb2.ext x3;have xx:=(x1.trans x2).trans x3;refine iC hb1 kJ rfl (iC hb2 nW rfl (iC hb3 gS rfl ?_));refine WE (h.ext xx) (hm0.ext xx) hx0 λw4 x4=>?_;have xx4:=xx.trans x4;refine gE aP (hs.ext xx4) (aZ.2 (aC (λhlt=>?_) λhge=>?_))
 ·refine no 10 _ ?_ (by decide) xx4;unfold CG;dsimp only;rw [if_pos (.inl (by omega))]
 refine gE aP (hs.ext xx4) (fT.2 ?_);rw [aQ (by omega),show (s.length:Int) - ((aY i m ⟨op,a,b⟩).length:Int)=((s.length - (aY i m ⟨op,a,b⟩).length:Nat):Int) by omega];obtain ⟨tv,trun,tsl⟩:=aCz underlying23 bT (hs.ext xx4) (lo:=some (.int .i64 ((s.length - (aY i m ⟨op,a,b⟩).length:Nat):Int))) (hi':=none) (a:=s.length - (aY i m ⟨op,a,b⟩).length) (b:=s.length) (.inr rfl) (.inl ⟨rfl,rfl⟩) (by omega) (Nat.le_refl _);refine V.ok (trun _) ?_;refine gE aP (hs.ext xx4) (fT.2 ?_);rw [aQ (by omega),show (s.length:Int) - ((aY i m ⟨op,a,b⟩).length:Int)=((s.length - (aY i m ⟨op,a,b⟩).length:Nat):Int) by omega];obtain ⟨uv,urun,usl⟩:=aCz underlying23 bT (hs.ext xx4) (lo:=none) (hi':=some (.int .i64 ((s.length - (aY i m ⟨op,a,b⟩).length:Nat):Int))) (a:=0) (b:=s.length - (aY i m ⟨op,a,b⟩).length) (.inl ⟨rfl,rfl⟩) (.inr rfl) (by omega) (by omega);refine V.ok (urun _) ?_
 have hu4:aA w4 uv 1 (s.length - (aY i m ⟨op,a,b⟩).length) ((s.take (s.length - (aY i m ⟨op,a,b⟩).length)).map i64):=by
  have:=usl _ (hs.ext xx4);simpa [List.map_take] using this
 have ht4:aO w4 tv (s.drop (s.length - (aY i m ⟨op,a,b⟩).length)):=by
  have:=tsl _ (hs.ext xx4);unfold aO;rw [List.length_drop,List.map_drop];have e2:((s.map i64).drop (s.length - (aY i m ⟨op,a,b⟩).length)).take (s.length - (s.length - (aY i m ⟨op,a,b⟩).length))=(s.map i64).drop (s.length - (aY i m ⟨op,a,b⟩).length):=List.take_of_length_le (by simp)
  rwa [e2] at this
 refine gE aP hu4 ?_;refine iC (hb1.ext x4) kJ rfl (iC (hb3.ext x4) gS rfl ?_);refine YH (h.ext xx4) hx0 λw5 x5=>bJ.2 ?_;have xx5:=xx4.trans x5
 have hh2:hgt i m ⟨op,a,b⟩<=2:=by
  unfold hgt;rcases AD ho with rfl|rfl|rfl|rfl|rfl|rfl|rfl|rfl|rfl|rfl|rfl|rfl|rfl|rfl|rfl|rfl|rfl|rfl|rfl|rfl|rfl|rfl|rfl|rfl|rfl|rfl|rfl|rfl|rfl|rfl|rfl|rfl|rfl|rfl|rfl|rfl|rfl|rfl|rfl<;>first|exact Nat.zero_le _|exact Nat.le_succ 1|exact Nat.le_refl _|exact Nat.le_succ_of_le (DL _)
 rw [aQ (by omega)];refine jF.2 (aC (λhgt8=>?_) λhle8=>?_)
 ·refine no 10 _ ?_ (by decide) xx5;unfold CG;dsimp only;rw [if_pos (.inr (by omega))]
 have hdo:∀ {l},l=s.drop (s.length - (aY i m ⟨op,a,b⟩).length)->CG i m ⟨op,a,b⟩ s=if mY ⟨op,a,b⟩ (aY i m ⟨op,a,b⟩) l=true/\kO ⟨op,a,b⟩ (aY i m ⟨op,a,b⟩) l=false then some (s.take (s.length - (aY i m ⟨op,a,b⟩).length)++jJ i m ⟨op,a,b⟩ l) else none:=by
  rintro _ rfl;unfold CG;dsimp only;rw [if_neg (by omega)]
 have hkl:sY (s.drop (s.length - (aY i m ⟨op,a,b⟩).length)):=λk hk=>ks k (List.mem_of_mem_drop hk);have hll:(s.drop (s.length - (aY i m ⟨op,a,b⟩).length)).length=(aY i m ⟨op,a,b⟩).length:=by rw [List.length_drop];omega
 have ht5:=ht4.ext x5;generalize hL:s.drop (s.length - (aY i m ⟨op,a,b⟩).length)=l at ht5 hkl hll;have hdo:=hdo hL.symm;refine lF bFr [] rfl rfl ?_;refine bxK λw6 hW0 x6=>?_;have x36:=(x4.trans x5).trans x6;have hb1:=hb1.ext x36;have hb2:=hb2.ext x36;have hb3:=hb3.ext x36;have xx6:=xx5.trans x6;have hg0:w5.heap.size<=w5.heap.size:=Nat.le_refl _;generalize hg:w5.heap.size=g at hW0 hg0;have hW0:Wr w6 g false false:=hW0;have f1:=(h.ext xx5);have f2:=hm0.ext xx5;have fb1:∀ {w'},aG w5 w'->bF w' b1 [.string i.name,p.fv,p.iv,p.mv,p.xv]:=λhx=>(((‹bF w3 b1 _›).ext x4).ext x5).ext hx;have fb2:∀ {w'},aG w5 w'->bF w' b2 [pv,i64 m.result,lv,cv]:=λhx=>(((‹bF w3 b2 [pv,i64 m.result,lv,cv]›).ext x4).ext x5).ext hx;have fb3:∀ {w'},aG w5 w'->bF w' b3 [i64 op,i64 a,i64 b]:=λhx=>(((‹bF w3 b3 _›).ext x4).ext x5).ext hx;have hgs:w5.heap.size<=g:=by omega
 refine aV hb3 aS aE rfl (GW ho ?_);obtain ⟨pc1,pc2,pc3⟩:=aQy (i:=i) (m:=m) (a:=a) (b:=b) ho;refine ⟨λv w'=>∃ j:Nat,v=i64 j/\j<=(jI op).length/\aG w5 w'/\Wr w' g (pK ((jI op).take j) (l.take j)) (rB ((jI op).take j) (l.take j)),λv _=>(jI op).length - (RowKit.intOf v).toNat,⟨0,rfl,Nat.zero_le _,x6,hW0⟩,?_⟩;rintro _ w7 ⟨j,rfl,hj,x7,hW⟩ _;refine V.ok (uW underlying9) (aZ.2 (aC (λhlt=>?_) λhge=>?_))
 ·have hlt':j < (jI op).length:=by simpa [ByteArray.size] using hlt
  obtain ⟨c,hc1⟩:∃ c,(jI op)[j]?=some c:=⟨_,List.getElem?_eq_getElem hlt'⟩;have hk1:=lQ (l:=l) (j:=j) (by omega);have hkd:=hkl _ (List.mem_of_getElem? hk1);have eK:=GY hc1 hk1;have eL:=GX hc1 hk1;generalize pK ((jI op).take j) (l.take j)=A at hW eK;generalize rB ((jI op).take j) (l.take j)=B at hW eL
  have hsc:(⟨(jI op).toArray⟩:ByteArray)[j]?=some c:=by
   rw [List.getElem?_eq_some_iff] at hc1;obtain ⟨hq,he⟩:=hc1;rw [getElem?_pos _ _ (by simpa [ByteArray.size] using hq)];exact congrArg some he
  refine V.ok (wY underlying9 hsc) (aJ.2 ?_)
  have go:∀ {w'} {A' B'},aG w5 w'->Wr w' g A' B'->A'=pK ((jI op).take (j+1)) (l.take (j+1))->B'=rB ((jI op).take (j+1)) (l.take (j+1))->V prog (binOp .add 3 (i64 j) (i64 1)) w' λt w2=>
    (∃ j:Nat,t=i64 j/\j<=(jI op).length/\aG w5 w2/\Wr w2 g (pK ((jI op).take j) (l.take j)) (rB ((jI op).take j) (l.take j)))/\(jI op).length - (RowKit.intOf t).toNat < (jI op).length - (RowKit.intOf (i64 (j:Int))).toNat:=by
   intro w' A' B' hx hw e1 e2;subst e1 e2;refine bJ.2 ?_;have:(jI op).length<=8:=by omega
   rw [aQ (by omega),bK];exact ⟨⟨j+1,rfl,by omega,hx,hw⟩,by simp only [aK];omega⟩
  by_cases h97:c=97
  ·subst h97;simp only [show (((97:UInt8).toNat:Nat):Int)=97 from rfl,aR];refine ⟨.inl ⟨_,rfl⟩,aV hW.boxed eI oM rfl ?_⟩;rw [if_pos rfl] at eK;simp only [show ((97:UInt8) == 112)=false from rfl,Bool.false_and,Bool.or_false] at eL
   have st:∀ v,v=pK ((jI op).take (j+1)) (l.take (j+1))->V prog (Instr.fieldAt 248 (.pointer (some ⟨g,0,none⟩)) 0) w7 λt76 w43=>U prog (Instr.storeAt 4 t76 (.bool v)) w43 λ_ w44=>V prog (binOp .add 3 (i64 j) (i64 1)) w44 λt w2=>
    (∃ j:Nat,t=i64 j/\j<=(jI op).length/\aG w5 w2/\Wr w2 g (pK ((jI op).take j) (l.take j)) (rB ((jI op).take j) (l.take j)))/\(jI op).length - (RowKit.intOf t).toNat < (jI op).length - (RowKit.intOf (i64 (j:Int))).toNat:=by
    rintro v hv;refine FZ eI lE hW (n:=2) rfl (by decide) rfl ?_;exact go (x7.setCell hgs _) (hW.set 0 _) hv eL.symm
   cases A with
   | true=>simp only [aR];exact ⟨.inl ⟨_,rfl⟩,st _ (by rw [eK];rfl)⟩
   | false=>
    simp only [aR];refine mH aP aE (ht5.ext x7) (by omega) (by omega) (cM hk1) (tX (dO.2 ?_));exact ⟨.inl ⟨_,rfl⟩,st _ (by rw [eK];rfl)⟩
  ·have hcn:¬ ((c.toNat:Int)=97):=λe=>h97 (by
    apply UInt8.toNat_inj.1;have:c.toNat=97:=by omega
    exact this)
   simp only [hcn,aR];rw [if_neg h97] at eK;refine ⟨.inl ⟨_,rfl⟩,aV hW.boxed eI oM rfl ?_⟩
   have second:∀ {w1},aG w5 w1->Wr w1 g (pK ((jI op).take (j+1)) (l.take (j+1))) B->∀ v,v=rB ((jI op).take (j+1)) (l.take (j+1))->V prog (Instr.fieldAt 248 (.pointer (some ⟨g,0,none⟩)) 1) w1 λt76 w43=>U prog (Instr.storeAt 4 t76 (.bool v)) w43 λ_ w44=>V prog (binOp .add 3 (i64 j) (i64 1)) w44 λt w2=>
    (∃ j:Nat,t=i64 j/\j<=(jI op).length/\aG w5 w2/\Wr w2 g (pK ((jI op).take j) (l.take j)) (rB ((jI op).take j) (l.take j)))/\(jI op).length - (RowKit.intOf t).toNat < (jI op).length - (RowKit.intOf (i64 (j:Int))).toNat:=by
    rintro w1 hx hw v hv;refine FZ eG lE hw (n:=2) rfl (by decide) rfl ?_;exact go (hx.setCell hgs _) (hw.set 1 _) rfl hv
   have kpart:∀ v,v=pK ((jI op).take (j+1)) (l.take (j+1))->aG w5 (w7.setCell ⟨g,0,none⟩ (.bool v))/\Wr (w7.setCell ⟨g,0,none⟩ (.bool v)) g (pK ((jI op).take (j+1)) (l.take (j+1))) B:=by
    rintro _ rfl;exact ⟨x7.setCell hgs _,hW.set 0 _⟩
   have hch:c=112\/c=105:=by
    rcases pc1 c (List.mem_of_getElem? hc1) with h1|h1|h1
    ·exact absurd h1 h97
    ·exact .inl h1
    ·exact .inr h1
   cases A with
   | true=>
    simp only [aR];refine ⟨.inl ⟨_,rfl⟩,?_⟩;refine FZ eI lE hW (n:=2) rfl (by decide) rfl ⟨.inl ⟨_,rfl⟩,?_⟩;obtain ⟨kx,kw⟩:=kpart true (by rw [eK];rfl);refine aV kw.boxed eG oM rfl ?_;cases B with
    | true=>simp only [aR];exact ⟨.inl ⟨_,rfl⟩,second kx kw _ (by rw [eL];rfl)⟩
    | false=>
     simp only [aR];refine V.ok (wY underlying9 hsc) (aJ.2 ?_);rcases hch with rfl|rfl
     ·simp only [show (((112:UInt8).toNat:Nat):Int)=112 from rfl,aR];refine mH aP aE (ht5.ext kx) (by omega) (by omega) (cM hk1) (CC ?_);exact ⟨.inl ⟨_,rfl⟩,second kx kw _ (by rw [eL];rfl)⟩
     ·simp only [show (((105:UInt8).toNat:Nat):Int)=105 from rfl,aR,Int.reduceEq];exact ⟨.inl ⟨_,rfl⟩,second kx kw _ (by rw [eL];rfl)⟩
   | false=>
    simp only [aR];refine mH aP aE (ht5.ext x7) (by omega) (by omega) (cM hk1) (tW (dO.2 ?_));refine ⟨.inl ⟨_,rfl⟩,?_⟩;refine FZ eI lE hW (n:=2) rfl (by decide) rfl ⟨.inl ⟨_,rfl⟩,?_⟩;obtain ⟨kx,kw⟩:=kpart (!eF (cN l j)) (by rw [eK];rfl);refine aV kw.boxed eG oM rfl ?_;cases B with
    | true=>simp only [aR];exact ⟨.inl ⟨_,rfl⟩,second kx kw _ (by rw [eL];rfl)⟩
    | false=>
     simp only [aR];refine V.ok (wY underlying9 hsc) (aJ.2 ?_);rcases hch with rfl|rfl
     ·simp only [show (((112:UInt8).toNat:Nat):Int)=112 from rfl,aR];refine mH aP aE (ht5.ext kx) (by omega) (by omega) (cM hk1) (CC ?_);exact ⟨.inl ⟨_,rfl⟩,second kx kw _ (by rw [eL];rfl)⟩
     ·simp only [show (((105:UInt8).toNat:Nat):Int)=105 from rfl,aR,Int.reduceEq];exact ⟨.inl ⟨_,rfl⟩,second kx kw _ (by rw [eL];rfl)⟩
 have hjl:j=(jI op).length:=by
  have:¬ j < (jI op).length:=λhh=>hge (by simpa [ByteArray.size] using hh);omega
 subst hjl;rw [List.take_length] at hW;have J:∀ {w' kf lf},aG w5 w'->Wr w' g kf lf->((kf||lf)=false↔vG i m ⟨op,a,b⟩ l)->∃ kf lf,Wr w' g kf lf/\aG w5 w'/\((kf||lf)=false↔vG i m ⟨op,a,b⟩ l):=λh1 h2 h3=>⟨_,_,h2,h1,h3⟩
 have rd:∀ {w' n u K},aG w5 w'->n < l.length->u=i64 (cN l n)->K u w'->V prog (Instr.indexAt 23 tv (i64 (n:Nat))) w' λp w1=>V prog (Instr.loadAt 3 p) w1 K:=λ{w' n u K} hx hn hu hK=>by
  subst hu;exact mH aP aE (ht5.ext hx) (by omega) (by omega) (cM (lQ hn)) hK
 refine ⟨λw'=>∃ kf lf,Wr w' g kf lf/\aG w5 w'/\((kf||lf)=false↔vG i m ⟨op,a,b⟩ l),?_,?_⟩
 ·refine aV (fb3 x7) aS aE rfl ?_;by_cases c3:op=3
  ·subst c3;have a1:0<=a:=a1;have hna:a < (m.locs.length:Int):=hn;have hl1:l.length=1:=hll;have hkd:=tT (JM mr) (k:=a.toNat) (by omega);have hk0:=oS hkl (n:=0) (by omega);simp only [aR,Int.reduceEq];refine iC (fb2 x7) nW rfl ?_;refine aV (fb3 x7) aX aE rfl ?_;refine JR (f2.ext x7) mr a1 λw8 x8=>gR.2 (gQ.2 ?_);refine rd (n:=0) (x7.trans x8) (by omega) rfl ?_;refine EG hk0 hkd ?_;refine zI (bO.ext hW x8) λw9 hW9 hx9=>J (hx9 _ (x7.trans x8) hgs) hW9 ?_;rw [ER ⟨by decide,by decide,by decide,by decide⟩,aRe hl1];have:=inA (t:=[m.locs.getD a.toNat 0]) (l:=[cN l 0]) (by intro k hk;rw [List.mem_singleton] at hk;subst hk;exact hkd) (by intro k hk;rw [List.mem_singleton] at hk;subst hk;exact hk0);simp only [UO,UN,Bool.or_false] at this;exact this
  by_cases c34:op=34
  ·subst c34;have a1:0<=a:=a1;have hna:a < (i.fields.length:Int):=hn;have hl1:l.length=1:=hll;have hkd:=tT ir.1.1 (k:=a.toNat) (by omega);have hk0:=oS hkl (n:=0) (by omega);simp only [aR,Int.reduceEq];have D1:aG w7 w7.drew:=(aG.refl _).drew;have xd:=x7.trans D1;refine aL.mk' (λw'=>aG w5 w') xd ?_;refine nT aP aE ht5 (λ_ h=>h) (by omega) (by omega) (cM (j:=0) (lQ (by omega))) ?_;refine iB (λw' hw=>fb1 hw) jT bE rfl ?_;refine iB (λw' hw=>fb3 hw) aX aE rfl ?_;obtain ⟨ka,hka⟩:∃ ka:Nat,a=ka:=⟨a.toNat,by omega⟩;have hfi:i.fields[ka]?=some (i.fields.getD a.toNat 0):=by rw [hka,Int.toNat_natCast];exact fO (by omega)
   refine nT aP aE f1.fl (λ_ h=>h) a1 hna (by rw [hka];exact cM hfi) ?_;refine EG hk0 hkd ⟨xd,?_⟩;refine zI (bO.ext hW D1) λw9 hW9 hx9=>J (hx9 _ xd hgs) hW9 ?_;rw [ER ⟨by decide,by decide,by decide,by decide⟩,aRe hl1];have:=inA (t:=[i.fields.getD a.toNat 0]) (l:=[cN l 0]) (by intro k hk;rw [List.mem_singleton] at hk;subst hk;exact hkd) (by intro k hk;rw [List.mem_singleton] at hk;subst hk;exact hk0);simp only [UO,UN,Bool.or_false] at this;exact this
  by_cases c22:op=22
  ·subst c22;have hl3:l.length=3:=hll;have hk0:=oS hkl (n:=0) (by omega);have hk1:=oS hkl (n:=1) (by omega);have hk2:=oS hkl (n:=2) (by omega)
   have hgood:vG i m ⟨22,a,b⟩ l↔(kD [-2,-1,-1] [cN l 0,cN l 1,cN l 2]&&(eF (cN l 1)&&eF (cN l 2)||fZ (cN l 1)&&cN l 1 == cN l 2))=true/\(fZ (cN l 1)&&cN l 0 == 2)=false:=by
    have e:vG i m ⟨22,a,b⟩ l=((kD [-2,-1,-1] l&&(eF (cN l 1)&&eF (cN l 2)||fZ (cN l 1)&&cN l 1 == cN l 2))=true/\(fZ (cN l 1)&&cN l 0 == 2)=false):=rfl;rw [e,<- bDh hl3]
   have hf:=(bEx hk0 hk1 hk2).trans hgood.symm;have hW:Wr w7 g false false:=hW;simp only [aR,Int.reduceEq];have D1:aG w7 w7.drew:=(aG.refl _).drew;have xd:=x7.trans D1;have hWd:Wr w7.drew g false false:=bO.ext hW D1;refine aL.mk' (λw'=>aG w5 w'/\Wr w' g false false) ⟨xd,hWd⟩ ⟨.inl ⟨_,rfl⟩,?_⟩;refine iB (λw' hw=>(bO.boxed hw.2)) eI oM rfl ?_;simp only [aR];have yr:∀ {n L},n < l.length->L (i64 (cN l n))->aF prog (λw'=>aG w5 w'/\Wr w' g false false) (Instr.indexAt 23 tv (i64 (n:Nat))) λp=>aF prog (λw'=>aG w5 w'/\Wr w' g false false) (Instr.loadAt 3 p) L:=λ{n L} hn hL=>nT aP aE ht5 (λ_ h=>h.1) (by omega) (by omega) (cM (lQ hn)) hL;refine yr (n:=0) (by omega) (tW ⟨⟨xd,hWd⟩,aF.ok (λw' _=>vZ) ?_⟩)
   have leak:∀ (kf:Bool) {w'},kf=(!eF (cN l 0)||(eF (cN l 1) != eF (cN l 2))||(fZ (cN l 1)&&(cN l 1 != cN l 2)))->w'=w7.drew.setCell ⟨g,0,none⟩ (.bool kf)->(aG w5 w'/\Wr w' g kf false):=by
    rintro kf _ _ rfl;exact ⟨xd.setCell hgs _,bO.set hWd 0 _⟩
   have fin:∀ (kf lf:Bool) {w'},kf=(!eF (cN l 0)||(eF (cN l 1) != eF (cN l 2))||(fZ (cN l 1)&&(cN l 1 != cN l 2)))->lf=(fZ (cN l 1)&&EF (cN l 0))->aG w5 w'->Wr w' g kf false ->
     V prog (Instr.fieldAt 248 (.pointer (some ⟨g,0,none⟩)) 1) w' λt204 w117=>U prog (Instr.storeAt 4 t204 (.bool lf)) w117 λ_ w118=>∃ kf lf,Wr w118 g kf lf/\aG w5 w118/\((kf||lf)=false↔vG i m ⟨22,a,b⟩ l):=by
    intro kf lf w' e1 e2 hx hw;refine FZ eG lE hw (n:=2) rfl (by decide) rfl ?_;exact J (hx.setCell hgs _) (hw.set 1 _) (by rw [e1,e2];exact hf)
   have rest:∀ (kf:Bool),kf=(!eF (cN l 0)||(eF (cN l 1) != eF (cN l 2))||(fZ (cN l 1)&&(cN l 1 != cN l 2)))->aF prog (λw'=>aG w5 w'/\Wr w' g false false) (Instr.fieldAt 248 (.pointer (some ⟨g,0,none⟩)) 0) λt185=>U prog (Instr.storeAt 4 t185 (.bool kf)) w7.drew λ_ w101=>
     Go.Vc.bN (.pointer (some ⟨g,0,none⟩))/\V prog (Instr.fieldAt 248 (.pointer (some ⟨g,0,none⟩)) 1) w101 λt189 w103=>V prog (Instr.loadAt 4 t189) w103 λt190 w104=>
     gd t190 false (λK=>K tv w104) w104 λt192 w105=>gd t190 false (λK=>V prog (Instr.indexAt 23 t192 (i64 1)) w105 K) w105 λt193 w106=>gd t190 false (λK=>V prog (Instr.loadAt 3 t193) w106 K) w106 λt194 w107=>gd t190 false (λK=>aB prog 148 #[t194] w107 K) w107 λt195 w108=>
     gd t190 false (λK=>K t195 w108) w108 λt196 w109=>gd t196 true (λK=>K tv w109) w109 λt197 w110=>gd t196 true (λK=>V prog (Instr.indexAt 23 t197 (i64 0)) w110 K) w110 λt198 w111=>gd t196 true (λK=>V prog (Instr.loadAt 3 t198) w111 K) w111 λt199 w112=>
     gd t196 true (λK=>aB prog 150 #[t199] w112 K) w112 λt200 w113=>gd t190 false (λK=>aH t196 t200 (.bool false) λv=>K v w113) w113 λt201 w114=>aH t190 (.bool true) t201 λt202=>
     Go.Vc.bN (.pointer (some ⟨g,0,none⟩))/\V prog (Instr.fieldAt 248 (.pointer (some ⟨g,0,none⟩)) 1) w114 λt204 w117=>U prog (Instr.storeAt 4 t204 t202) w117 λ_ w118=>∃ kf lf,Wr w118 g kf lf/\aG w5 w118/\((kf||lf)=false↔vG i m ⟨22,a,b⟩ l):=by
    intro kf e1;refine aF.ok (λw' _=>(eI:FA prog 248 0 0).ex w' g 0) ?_;refine bCu lE hWd (n:=2) rfl (o:=0) (by decide) rfl ⟨.inl ⟨_,rfl⟩,?_⟩;obtain ⟨lx,lw⟩:=leak kf e1 rfl;refine aV lw.boxed eG oM rfl ?_;simp only [aR];refine rd (n:=1) lx (by omega) rfl (tX ?_);cases hz:fZ (cN l 1) with
    | false=>simp only [aR];exact ⟨.inl ⟨_,rfl⟩,fin kf _ e1 (by rw [hz];rfl) lx lw⟩
    | true=>
     simp only [aR];refine rd (n:=0) lx (by omega) rfl (CC ?_);exact ⟨.inl ⟨_,rfl⟩,fin kf _ e1 (by rw [hz];rfl) lx lw⟩
   cases i0:eF (cN l 0) with
   | false=>
    simp only [aR];exact ⟨⟨xd,hWd⟩,⟨xd,hWd⟩,⟨xd,hWd⟩,.inl ⟨_,rfl⟩,rest _ (by rw [i0];rfl)⟩
   | true=>
    simp only [aR];refine yr (n:=1) (by omega) (yr (n:=2) (by omega) ?_);refine tW ⟨⟨xd,hWd⟩,tW ⟨⟨xd,hWd⟩,aF.ok (λw' _=>aGr) ?_⟩⟩;cases i12:(eF (cN l 1) != eF (cN l 2)) with
    | true=>
     simp only [aR];exact ⟨⟨xd,hWd⟩,.inl ⟨_,rfl⟩,rest _ (by rw [i0,i12];rfl)⟩
    | false=>
     simp only [aR];refine yr (n:=1) (by omega) (tX ⟨⟨xd,hWd⟩,?_⟩);cases a1':fZ (cN l 1) with
     | false=>simp only [aR];exact ⟨.inl ⟨_,rfl⟩,rest _ (by rw [i0,i12,a1'];rfl)⟩
     | true=>
      simp only [aR];refine yr (n:=1) (by omega) (yr (n:=2) (by omega) (aF.ok (λw' _=>wX) ?_));exact ⟨.inl ⟨_,rfl⟩,rest _ (by rw [i0,i12,a1'];by_cases hq:cN l 1=cN l 2<;>simp [hq])⟩
  have hP:=bLg (p:=jI op) (l:=l) pc1 hkl
  have st1:∀ (kf lf:Bool) {w'},((kf||lf)=false↔vG i m ⟨op,a,b⟩ l)->(∃ lf0,Wr w' g kf lf0)->aG w5 w' ->
    V prog (Instr.fieldAt 248 (.pointer (some ⟨g,0,none⟩)) 1) w' λt204 w117=>U prog (Instr.storeAt 4 t204 (.bool lf)) w117 λ_ w118=>∃ kf lf,Wr w118 g kf lf/\aG w5 w118/\((kf||lf)=false↔vG i m ⟨op,a,b⟩ l):=by
   rintro kf lf w' hf ⟨lf0,hw⟩ hx;refine FZ eG lE hw (n:=2) rfl (by decide) rfl ?_;exact J (hx.setCell hgs _) (hw.set 1 _) hf
  by_cases c30:op=30
  ·subst c30;have hl3:l.length=3:=hll;have hk0:=oS hkl (n:=0) (by omega);have hk1:=oS hkl (n:=1) (by omega);have hk2:=oS hkl (n:=2) (by omega);have e3:l.take (jI 30).length=l:=List.take_of_length_le (by rw [hl3];exact Nat.le_refl _);rw [e3] at hW
   have hgood:vG i m ⟨30,a,b⟩ l↔kD [-4,-3,-2] [cN l 0,cN l 1,cN l 2]=true/\(gP [-4,-3,-2] [cN l 0,cN l 1,cN l 2]||(cN l 0 == 3&&cN l 2 == 2))=false:=by
    rw [<- bDh hl3];unfold vG mY kO;dsimp only;rw [if_neg (by decide),if_neg (by decide),if_pos rfl,show aY i m ⟨30,a,b⟩=[-4,-3,-2] from rfl,Bool.and_true]
   have hP:(pK (jI 30) l||rB (jI 30) l)=false↔kD [-4,-3,-2] [cN l 0,cN l 1,cN l 2]=true/\gP [-4,-3,-2] [cN l 0,cN l 1,cN l 2]=false:=by
    rw [<- bDh hl3];exact hP
   have hz:=(bEw hk0 hk1 hk2 hP).trans hgood.symm;generalize pK (jI 30) l=A at hW hz;generalize rB (jI 30) l=B at hW hz;simp only [aR,Int.reduceEq];refine ⟨.inl ⟨_,rfl⟩,aV hW.boxed eG oM rfl ?_⟩;cases B with
   | true=>simp only [aR];exact ⟨.inl ⟨_,rfl⟩,st1 A _ (by simpa using hz) ⟨_,hW⟩ x7⟩
   | false=>
    simp only [aR];refine rd (n:=0) x7 (by omega) rfl (aJ.2 ?_);by_cases z0:cN l 0=3
    ·simp only [z0,aR];refine rd (n:=2) x7 (by omega) rfl (CC ?_);exact ⟨.inl ⟨_,rfl⟩,st1 A _ (by simpa [z0] using hz) ⟨_,hW⟩ x7⟩
    ·simp only [z0,aR];exact ⟨.inl ⟨_,rfl⟩,st1 A _ (by simpa [z0] using hz) ⟨_,hW⟩ x7⟩
  by_cases c31:op=31
  ·subst c31;have hl5:l.length=5:=hll;have e3:l.take (jI 31).length=l:=List.take_of_length_le (by rw [hl5];exact Nat.le_refl _);rw [e3] at hW
   have hgood:vG i m ⟨31,a,b⟩ l↔kD [-4,-3,-4,-3,-3] l=true/\(gP [-4,-3,-4,-3,-3] l||(cN l 0 == 3&&cN l 2 == 4))=false:=by
    unfold vG mY kO;dsimp only;rw [if_neg (by decide),if_neg (by decide),if_neg (by decide),if_pos rfl,show aY i m ⟨31,a,b⟩=[-4,-3,-4,-3,-3] from rfl,Bool.and_true]
   have hP:(pK (jI 31) l||rB (jI 31) l)=false↔kD [-4,-3,-4,-3,-3] l=true/\gP [-4,-3,-4,-3,-3] l=false:=hP;have hz:=(UR (z:=(cN l 0 == 3&&cN l 2 == 4)) hP).trans hgood.symm;generalize pK (jI 31) l=A at hW hz;generalize rB (jI 31) l=B at hW hz;simp only [aR,Int.reduceEq];refine ⟨.inl ⟨_,rfl⟩,aV hW.boxed eG oM rfl ?_⟩;cases B with
   | true=>simp only [aR];exact ⟨.inl ⟨_,rfl⟩,st1 A _ (by simpa using hz) ⟨_,hW⟩ x7⟩
   | false=>
    simp only [aR];refine rd (n:=0) x7 (by omega) rfl (aJ.2 ?_);by_cases z0:cN l 0=3
    ·simp only [z0,aR];refine rd (n:=2) x7 (by omega) rfl (aJ.2 ?_);exact ⟨.inl ⟨_,rfl⟩,st1 A _ (by simpa [z0] using hz) ⟨_,hW⟩ x7⟩
    ·simp only [z0,aR];exact ⟨.inl ⟨_,rfl⟩,st1 A _ (by simpa [z0] using hz) ⟨_,hW⟩ x7⟩
  by_cases c36:op=36
  ·subst c36;have hl3:l.length=3:=hll;have e3:l.take (jI 36).length=l:=List.take_of_length_le (by rw [hl3];exact Nat.le_refl _);rw [e3] at hW
   have hgood:vG i m ⟨36,a,b⟩ l↔kD [-4,-3,-3] l=true/\(gP [-4,-3,-3] l||(a == 1&&cN l 0 == 4))=false:=by
    unfold vG mY kO;dsimp only;rw [if_neg (by decide),if_neg (by decide),if_neg (by decide),if_neg (by decide),if_pos rfl,show aY i m ⟨36,a,b⟩=[-4,-3,-3] from rfl,Bool.and_true]
   have hP:(pK (jI 36) l||rB (jI 36) l)=false↔kD [-4,-3,-3] l=true/\gP [-4,-3,-3] l=false:=hP;have hz:=(UR (z:=(a == 1&&cN l 0 == 4)) hP).trans hgood.symm;generalize pK (jI 36) l=A at hW hz;generalize rB (jI 36) l=B at hW hz;simp only [aR,Int.reduceEq];refine ⟨.inl ⟨_,rfl⟩,aV hW.boxed eG oM rfl ?_⟩;cases B with
   | true=>simp only [aR];exact ⟨.inl ⟨_,rfl⟩,st1 A _ (by simpa using hz) ⟨_,hW⟩ x7⟩
   | false=>
    simp only [aR];refine aV (fb3 x7) aX aE rfl (aJ.2 ?_);by_cases z0:a=1
    ·subst z0;simp only [aR];refine rd (n:=0) x7 (by omega) rfl (aJ.2 ?_);exact ⟨.inl ⟨_,rfl⟩,st1 A (decide (cN l 0=4)) (by simpa using hz) ⟨_,hW⟩ x7⟩
    ·simp only [z0,aR];exact ⟨.inl ⟨_,rfl⟩,st1 A _ (by simpa [z0] using hz) ⟨_,hW⟩ x7⟩
  by_cases c37:op=37
  ·subst c37;have a1:0<=a:=a1;obtain ⟨ka,rfl⟩:∃ ka:Nat,a=ka:=⟨a.toNat,by omega⟩;have hna:(ka:Int) < (i.methods.length:Int):=hn;have hlp:l.length=(i.meth (ka:Int)).params.length:=hll;have hkp:sY (i.meth (ka:Int)).params:=MQ ir a1 hna;have hW:Wr w7 g false false:=hW;have e3:aY i m ⟨37,(ka:Int),b⟩=(i.meth (ka:Int)).params:=rfl;simp only [aR,Int.reduceEq];refine ⟨λv w'=>∃ j:Nat,v=i64 j/\j<=l.length/\aG w5 w'/\Wr w' g (UO ((i.meth (ka:Int)).params.take j) (l.take j)) (UN ((i.meth (ka:Int)).params.take j) (l.take j)),λv _=>l.length - (RowKit.intOf v).toNat,⟨0,rfl,Nat.zero_le _,x7,hW⟩,?_⟩;rintro _ w8 ⟨j,rfl,hj,x8,hW8⟩ _;rw [e3];refine aZ.2 (aC (λhlt=>?_) λhge=>?_)
   ·have hk1:=lQ (l:=l) (j:=j) (by omega);obtain ⟨q,hq⟩:=bI (l:=(i.meth (ka:Int)).params) (j:=j) (by omega);have D1:aG w8 w8.drew:=(aG.refl _).drew;have xd:=x8.trans D1;refine aL.mk' (λw'=>aG w5 w') xd ?_;refine nT aP aE ht5 (λ_ h=>h) (by omega) (by omega) (cM hk1) ?_;refine iB (λw' hw=>fb1 hw) bP dN rfl ?_;refine iB (λw' hw=>fb3 hw) aX aE rfl ?_;have hmi:=gI a1 hna;rw [Int.toNat_natCast] at hmi;refine ySF iF dM bE f1.mt (λ_ h=>h) hmi λrow hrow=>?_;obtain ⟨pv9,lv9,cv9,rfl,hp9,_,_⟩:=hrow;refine ⟨pv9,rfl,by decide,?_⟩;refine nT aP aE hp9 (λ_ h=>h) (by omega) (by omega) (cM hq) ?_;refine EG (hkl _ (List.mem_of_getElem? hk1)) (hkp _ (List.mem_of_getElem? hq)) ⟨xd,?_⟩;refine zI (bO.ext hW8 D1) λw9 hW9 hx9=>⟨hx9 _ xd hgs,bJ.2 ?_⟩;rw [aQ (by omega),bK];refine ⟨⟨j+1,rfl,by omega,hx9 _ xd hgs,?_⟩,by simp only [aK];omega⟩;rw [EQ hq hk1,EP hq hk1];exact hW9
   ·have hjl:j=l.length:=by omega
    subst hjl;rw [List.take_length,hlp,List.take_length] at hW8;refine J x8 hW8 ?_;rw [ER ⟨by decide,by decide,by decide,by decide⟩,e3];exact inA hkp hkl
  by_cases c38:op=38
  ·subst c38;have a1:0<=a:=a1;obtain ⟨ka,rfl⟩:∃ ka:Nat,a=ka:=⟨a.toNat,by omega⟩;have hna:(ka:Int) < (i.imports.length:Int):=hn;have hlp:l.length=(i.imp (ka:Int)).params.length:=hll;have hkp:sY (i.imp (ka:Int)).params:=XR ir a1 hna;have hW:Wr w7 g false false:=hW;have e3:aY i m ⟨38,(ka:Int),b⟩=(i.imp (ka:Int)).params:=rfl;simp only [aR,Int.reduceEq];refine ⟨λv w'=>∃ j:Nat,v=i64 j/\j<=l.length/\aG w5 w'/\Wr w' g (UO ((i.imp (ka:Int)).params.take j) (l.take j)) (UN ((i.imp (ka:Int)).params.take j) (l.take j)),λv _=>l.length - (RowKit.intOf v).toNat,⟨0,rfl,Nat.zero_le _,x7,hW⟩,?_⟩;rintro _ w8 ⟨j,rfl,hj,x8,hW8⟩ _;rw [e3];refine aZ.2 (aC (λhlt=>?_) λhge=>?_)
   ·have hk1:=lQ (l:=l) (j:=j) (by omega);obtain ⟨q,hq⟩:=bI (l:=(i.imp (ka:Int)).params) (j:=j) (by omega);have D1:aG w8 w8.drew:=(aG.refl _).drew;have xd:=x8.trans D1;refine aL.mk' (λw'=>aG w5 w') xd ?_;refine nT aP aE ht5 (λ_ h=>h) (by omega) (by omega) (cM hk1) ?_;refine iB (λw' hw=>fb1 hw) fP iT rfl ?_;refine iB (λw' hw=>fb3 hw) aX aE rfl ?_;have hmi:=tY a1 hna;rw [Int.toNat_natCast] at hmi;refine ySF oD bY bE f1.im (λ_ h=>h) hmi λrow hrow=>?_;obtain ⟨pv9,rfl,hp9⟩:=hrow;refine ⟨pv9,rfl,by decide,?_⟩;refine nT aP aE hp9 (λ_ h=>h) (by omega) (by omega) (cM hq) ?_;refine EG (hkl _ (List.mem_of_getElem? hk1)) (hkp _ (List.mem_of_getElem? hq)) ⟨xd,?_⟩;refine zI (bO.ext hW8 D1) λw9 hW9 hx9=>⟨hx9 _ xd hgs,bJ.2 ?_⟩;rw [aQ (by omega),bK];refine ⟨⟨j+1,rfl,by omega,hx9 _ xd hgs,?_⟩,by simp only [aK];omega⟩;rw [EQ hq hk1,EP hq hk1];exact hW9
   ·have hjl:j=l.length:=by omega
    subst hjl;rw [List.take_length,hlp,List.take_length] at hW8;refine J x8 hW8 ?_;rw [ER ⟨by decide,by decide,by decide,by decide⟩,e3];exact inA hkp hkl
  by_cases c39:op=39
  ·subst c39;have hW:Wr w7 g false false:=hW;have e3:aY i m ⟨39,a,b⟩=mC m.result:=rfl;simp only [aR,Int.reduceEq];rw [e3] at hll ⊢;by_cases hr:m.result=0
   ·have e4:mC m.result=[]:=by unfold mC;rw [if_pos hr]
    have hll0:l.length=0:=by rw [hll,e4];rfl
    simp only [e4,List.length_nil,Int.natCast_zero,aR,Int.reduceGT];refine J x7 hW ?_;rw [ER ⟨by decide,by decide,by decide,by decide⟩,e3,e4];simp [kD,gP]
   ·have e4:mC m.result=[m.result]:=by unfold mC;rw [if_neg hr]
    have hl1:l.length=1:=by rw [hll,e4];rfl
    have hk0:=oS hkl (n:=0) (by omega);have hkr:Kd m.result:=by have:=mr.2.1;unfold Kd;omega
    simp only [e4,List.length_cons,List.length_nil,Nat.zero_add,Int.natCast_one,aR,Int.reduceGT];have D1:aG w7 w7.drew:=(aG.refl _).drew;have xd:=x7.trans D1;refine aL.mk' (λw'=>aG w5 w') xd ?_;refine nT aP aE ht5 (λ_ h=>h) (by omega) (by omega) (cM (j:=0) (lQ (by omega))) ?_;refine iB (λw' hw=>fb2 hw) gG aE rfl ?_;refine EG hk0 hkr ⟨xd,?_⟩;refine zI (bO.ext hW D1) λw9 hW9 hx9=>J (hx9 _ xd hgs) hW9 ?_;rw [ER ⟨by decide,by decide,by decide,by decide⟩,e3,e4,aRe hl1];have:=inA (t:=[m.result]) (l:=[cN l 0]) (by intro k hk;rw [List.mem_singleton] at hk;subst hk;exact hkr) (by intro k hk;rw [List.mem_singleton] at hk;subst hk;exact hk0);simp only [UO,UN,Bool.or_false] at this;exact this
  simp only [c3,c34,c22,c30,c31,c36,c37,c38,c39,aR];refine J x7 hW ?_;rw [ER ⟨c22,c30,c31,c36⟩];by_cases c45:op=4\/op=5
  ·rcases c45 with rfl|rfl
   all_goals
    have hl1:l.length=1:=hll;rw [aRe hl1];simp [pK,rB,jI,kU,aY,kD,gP,uI,wS]
  ·simp only [not_or] at c45;have e5:=pc3 (by omega);have e6:l.take (jI op).length=l:=List.take_of_length_le (by rw [hll,e5];simp);rw [e5,e6];exact hP
 ·rintro w8 ⟨kf,lf,hW8,x8,hgood⟩ _;refine ⟨.inl ⟨_,rfl⟩,aV hW8.boxed eI oM rfl ?_⟩
  have bad:(kf||lf)=true->CG i m ⟨op,a,b⟩ s=none:=λhb=>by
   rw [hdo,if_neg];intro hgd;have:=hgood.2 hgd;rw [hb] at this;cases this
  cases kf with
  | true=>simp only [aR];exact no 11 _ (bad rfl) (by decide) (xx5.trans x8)
  | false=>
  simp only [aR];refine ⟨.inl ⟨_,rfl⟩,aV hW8.boxed eG oM rfl ?_⟩;cases lf with
  | true=>simp only [aR];exact no 12 _ (bad rfl) (by decide) (xx5.trans x8)
  | false=>
  simp only [aR]
  have hd2:CG i m ⟨op,a,b⟩ s=some (s.take (s.length - (aY i m ⟨op,a,b⟩).length)++jJ i m ⟨op,a,b⟩ l):=by
   have hgd:mY ⟨op,a,b⟩ (aY i m ⟨op,a,b⟩) l=true/\kO ⟨op,a,b⟩ (aY i m ⟨op,a,b⟩) l=false:=hgood.1 rfl;rw [hdo,if_pos hgd]
  have D1:aG w8 w8.drew:=(aG.refl _).drew;have xd:=x8.trans D1;refine aL.mk' (λw'=>aG w5 w') xd ?_;refine yA (λw' hw=>fb1 hw) kJ rfl ?_;refine yA (λw' hw=>fb2 hw) nW rfl ?_;refine yA (λw' hw=>fb3 hw) gS rfl ?_;refine jG bB [] rfl rfl (by simp) rfl λv1 w9 ho9 x9=>⟨xd.trans x9,?_⟩;have hul:(s.take (s.length - (aY i m ⟨op,a,b⟩).length)).length=s.length - (aY i m ⟨op,a,b⟩).length:=by rw [List.length_take];omega
  refine LD bB ho9 (hu4.ext ((x5.trans xd).trans x9)) (OJ _) (by omega) (by unfold maxLen;omega) x9.size λv2 w10 ho10 hg10=>?_;have x10:aG w8.drew w10:=x9.grown hg10 λk hk=>(ho9.lt k hk).1;have xd10:=xd.trans x10;refine ⟨xd10,?_⟩;refine aJb (f1.ext xd10) (f2.ext xd10) hx0 (ht5.ext xd10) hll λv3 w11 h11 x11=>⟨xd10.trans x11,?_⟩;have hgl:(jJ i m ⟨op,a,b⟩ l).length<=2:=by rw [KE];exact hh2
  refine LD bB (x11.own ho10) h11 (OJ _) (by omega) (by unfold maxLen;omega) (x10.trans x11).size λv4 w12 ho12 hg12=>?_;have x12:aG w8.drew w12:=(x10.trans x11).grown hg12 λk hk=>((x11.own ho10).lt k hk).1;refine ⟨xd.trans x12,yes _ v4 w12 hd2 ?_ ((xx5.trans xd).trans x12)⟩;have:=aU ho12 ((xx5.trans xd).size);simp only [List.nil_append] at this;rw [List.length_append,List.map_append,hul];simpa using this
end Go.Proofs.YtjcmcfidblhnnaaGreatDoor
