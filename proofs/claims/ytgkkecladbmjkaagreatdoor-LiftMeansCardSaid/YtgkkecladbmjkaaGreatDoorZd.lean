/- General laws of operations (from the other texts of this seed). -/
import Derived.Test.YtgkkecladbmjkaaGreatDoorZb
import Derived.Test.YtgkkecladbmjkaaGreatDoorZc
import Derived.Deep.AppendLies
import Derived.Laws.CopyRow
import Derived.Laws.BytesArg
set_option maxHeartbeats 8000000
set_option linter.unusedSimpArgs false
namespace Go.Vc
section
variable {P:Program} {w:O} {K:Z->O->Prop}
theorem stB {t x:TypeId} {z:Z} {by_:Nat} (h:XA P t 1) (hx:fH P x z 1 by_) {g n c e:Nat} {cs:List Z} (hb:dW w g cs e) (hn:cs.length=n) {k:IntKind} {i:Int} (h0:0<=i) (h1:i < n) {u:Z} (hu:gO u=true) {K':O->Prop}
  (hk:K' (w.setCell ⟨g,i.toNat,none⟩ u)) :
  V P (Instr.indexAt t (.slice (some ⟨g,0,none⟩) n c) (.int k i)) w λp w1=>U P (Instr.storeAt x p u) w1 λ_ w2=>K' w2:=by
 obtain ⟨e',z',b',ht,hi⟩:=h;refine V.ok (iG ht hi h0 h1) ?_;have hlt:i.toNat < cs.length:=by omega
 have hc:=hb.cell i.toNat;rw [List.getElem?_eq_getElem hlt] at hc;simp only [Nat.zero_add,Nat.mul_one];exact U.ok (mW hx hu hc (hb.frozen _)) hk
end
section
variable {P:Program} {w:O} {K:Z->O->Prop} {S:O->Prop} {L:Z->Prop}
theorem gY {s f o ft b:Nat} {cs:List Z} {u:Z} (hb:∀ w',S w'->fB w' b cs) (h:FA P s f o) (hl:L1 P ft) (hc:cs[o]?=some u) (hk:L u) :
  aC P S (Instr.fieldAt s (.pointer (some ⟨b,0,none⟩)) f) λq=>aC P S (Instr.loadAt ft q) L:=by
 obtain ⟨d,hd,ha⟩:=hl;exact aC.ok (λw' _=>h.ex w' b 0) (aC.ok (λw' hw=>kH hd ha (hb w' hw o u hc)) hk)
theorem lT {t x:TypeId} {v:Z} {n:Nat} {cs:List Z} {k:IntKind} {i:Int} {u:Z} (h:XA P t 1) (hl:L1 P x) (hs0:aA w v 1 n cs) (hx:∀ w',S w'->aE w w') (h0:0<=i) (h1:i < n) (hu:cs[i.toNat]?=some u) (hk:L u) :
  aC P S (Instr.indexAt t v (.int k i)) λp=>aC P S (Instr.loadAt x p) L:=by
 obtain ⟨e,z,b',ht,hi⟩:=h;obtain ⟨d,hd,ha⟩:=hl;obtain ⟨b,off,cap,rfl,hc⟩:=hs0.there (by omega);refine aC.ok (λw' _=>iG ht hi h0 h1) (aC.ok (λw' hw=>kH hd ha ((hx w' hw).cell ?_)) hk);simpa using hc _ _ hu
theorem qH {t ty n:Nat} {m:Nat} {v:Z} {size:Nat} {cs:List Z} (h:XA P t n) (hs:aA w v size m cs) (hk:L (i64 m)):aC P S (Builtin.len_ #[t] ty #[v]) L:=by
 obtain ⟨e,z,b,ht,hi⟩:=h;obtain ⟨a,c,rfl⟩:=hs.shape;exact aC.ok (λw' _=>lU ht) hk
end
theorem aRf {P:Program} {w:O} {K:Z->O->Prop} {t e by_:Nat} {z:Z} {x:Int} {n:Nat} (hx:x=(n:Int)) (ht:P.underlying t=some (.slice e)) (hi:fH P e z 1 by_) (hz:z.cells=#[z]) (hb:by_*n<=281474976710656) (h63:n<=9223372036854775807)
  (hk:∀ w',dW w' w.heap.size (List.replicate n z) e->aE w w'->w'.heap.size=w.heap.size+1->K (.slice (some ⟨w.heap.size,0,none⟩) n n) w'):V P (Instr.makeSlice t (.int .i64 x) (.int .i64 x)) w K:=by
 subst hx;exact mkB ht hi hz hb h63 hk
section
variable {P:Program} {w:O} {S:O->Prop} {L:Z->Prop}
theorem yA {t n b:Nat} {cs:List Z} (hb:∀ w',S w'->fB w' b cs) (ht:∃ d z by_,P.underlying t=some d/\nG d=true/\fH P t z n by_) (hl:cs.length=n) (hk:L (.agg cs.toArray)):aC P S (Instr.loadAt t (.pointer (some ⟨b,0,none⟩))) L:=by
 obtain ⟨d,z,by_,h1,h2,h3⟩:=ht
 exact aC.ok (λw' hw=>kZ h1 h2 h3 hl λj hj=>by
  obtain ⟨u,hu⟩:∃ u,cs[j]?=some u:=⟨_,List.getElem?_eq_getElem hj⟩;rw [hu];exact hb w' hw j u hu) hk
variable {K:Z->O->Prop}
theorem aQy {x y:Z} (h:L y):aG (.bool false) x y L:=tF (by simpa using h)
end
end Go.Vc
namespace Go.Vc
open Go.Proofs
section
variable {P:Program} {w:O} {K:Z->O->Prop}
theorem alK {t:TypeId} {z:Z} {n by_:Nat} (hi:fH P t z n by_) (hk:∀ w1,dW w1 w.heap.size z.cells.toList t->aE w w1->K (.pointer (some ⟨w.heap.size,0,none⟩)) w1):V P (Instr.alloc t true (.tuple #[])) w K:=
 V.ok (PC hi) (hk _ (by unfold dW;rw [heap_alloc_new]) ((aE.refl w).alloc _))
theorem QG {t:TypeId} {v:Z} (hk:∀ w1,dW w1 w.heap.size v.cells.toList t->aE w w1->K (.pointer (some ⟨w.heap.size,0,none⟩)) w1):V P (Instr.box t v) w K:=
 V.ok aIy (hk _ (by unfold dW;rw [heap_alloc_new]) ((aE.refl w).alloc _))
theorem UP {t n:TypeId} {v:Z} {K':Z->O->Prop} (h:SA P t n) (hn:v.cells.size=n) (h1:v.cells.toList.all gO=true) (hk:∀ w1,dW w1 w.heap.size v.cells.toList t->aE w w1->K' (.pointer (some ⟨w.heap.size,0,none⟩)) w1) :
  V P (Instr.alloc t true (.tuple #[])) w (λp w1=>U P (Instr.storeAt t p v) w1 λ_ w2=>K' p w2):=
 as_ h hn h1 (hk _ (by unfold dW;rw [heap_alloc_new]) ((aE.refl w).alloc _))
theorem apA {t e by_ ty sz:Nat} {z:Z} (ht:P.underlying t=some (.slice e)) (hi:fH P e z sz by_) (hz:(z.cells.size == sz)=true) (hsz:0 < sz) {B:Nat} {v:Z} {n:Nat} {xs:List Z} (ho:w.ownsRow B e sz v n xs) {x:Z} {m:Nat} {news:List Z} (hs:aA w x sz m news) (h1:news.all gO=true)
  (hb:(n+m)*by_<=140737488355328) (h63:n+m<=maxLen) (hB:B<=w.heap.size) (hk:∀ v' w',w'.ownsRow B e sz v' (n+m) (xs++news)->w.grownBy w' v.ownBlock->K v' w') :
  V P (Builtin.append_ #[t,t] ty #[v,x]) w K:=by
 obtain ⟨i,hi',hz',hn,hby⟩:=info_parts hi;rcases hs.2 with ⟨rfl,rfl⟩|⟨b,off,cap,rfl,_,_,hc⟩
 ·have hnews:news=[]:=by have:=hs.1;simpa using this
  subst hnews;refine V.ok (run_append_owned_none w B t ty e i sz ht hi' v n xs ho) (hk _ _ (by simpa using ho) ⟨rfl,rfl,rfl,Nat.le_refl _,λ_ _ _=>rfl⟩)
 ·obtain ⟨v',w',hr,h2,h3,_⟩:=run_append_own (P:=P) w B t ty e i z sz by_ ht hi' hz' hn hby (by simpa using hz) hsz v n xs ho ⟨b,off,none⟩ m cap news hs.1
   (λj u hj=>by rw [jQ];exact hc j u hj) (λu hu=>by rw [rC];exact List.all_eq_true.1 h1 u hu) h63 hb hB
  exact V.ok hr (hk _ _ h2 h3)
theorem dW.boxed {g:Nat} {cs:List Z} {e:TypeId} (h:dW w g cs e):fB w g cs:=λj u hj=>by rw [Nat.zero_add,h.cell];exact hj
structure Chg (w:O) (g:Nat) (w':O):Prop where
 ext:∀ a,aE a w->a.heap.size<=g->aE a w'
 same:∀ i,i≠g->w'.heap[i]?=w.heap[i]?
 size:w'.heap.size=w.heap.size
 grown:w.grownBy w' (some g)
theorem wV {g:Nat} {e:TypeId}:∀ (l done old:List Z) (w:O),l.length=old.length->(∀ u∈l,gO u=true)->dW w g (done++old) e ->
  ∃ w',(storeCells ⟨g,0,none⟩ l done.length).run P w=.ok () w'/\dW w' g (done++l) e/\Chg w g w'
 | [],done,[],w,_,_,hb=>⟨w,by simp [storeCells],hb,⟨λ_ h _=>h,λ_ _=>rfl,rfl,⟨rfl,rfl,rfl,Nat.le_refl _,λ_ _ _=>rfl⟩⟩⟩
 | v::l,done,u::old,w,hl,h1,hb=>by
  have hc:=hb.cell done.length;simp only [List.getElem?_append_right (Nat.le_refl _),Nat.sub_self,List.getElem?_cons_zero] at hc;have hs:=rZ (P:=P) (h1 v (by simp)) hc (hb.frozen done.length)
  have hb1:dW (w.setCell ⟨g,done.length,none⟩ v) g ((done++[v])++old) e:=by
   have:=hb.set done.length v;rw [List.set_append_right _ _ (Nat.le_refl _)] at this;simpa using this
  obtain ⟨w',h2,h3,h4⟩:=wV l (done++[v]) old _ (by simpa using hl) (λu hu=>h1 u (by simp [hu])) hb1;refine ⟨w',?_,by simpa using h3,⟨λa ha hg=>h4.ext a (ha.setCell hg v) hg,λi hi=>(h4.same i hi).trans (heap_setCell_other _ _ _ _ (λhe=>hi he)),h4.size.trans (by simp),⟨h4.grown.os,h4.grown.tape,h4.grown.output,by have:=h4.grown.size;simpa using this,λk hk hne=>(h4.grown.block k (by simpa using hk) hne).trans (heap_setCell_other _ _ _ _ (λhe=>hne (by simp [he])))⟩⟩⟩;simp only [storeCells,jQ,Nat.zero_add,Sem.run_bind];rw [hs,Result.andThen_ok];simpa using h2
theorem stA {t:TypeId} {z v:Z} {n by_ g:Nat} {old l:List Z} {e:TypeId} {K':Z->O->Prop} (hi:fH P t z n by_) (hb:dW w g old e) (hv:v.cells=l.toArray) (hl:l.length=n) (ho:old.length=n) (h1:l.all gO=true)
  (hk:∀ w',dW w' g l e->Chg w g w'->K' undef w'):U P (Instr.storeAt t (.pointer (some ⟨g,0,none⟩)) v) w K':=by
 obtain ⟨w',h2,h3,h4⟩:=wV (P:=P) l [] old w (by omega) (λu hu=>List.all_eq_true.1 h1 u hu) hb;refine U.ok ?_ (hk w' (by simpa using h3) h4);simp only [List.length_nil] at h2;simp [Instr.storeAt,Instr.sureAddr,storeVar,gQ hi,hv,hl,h2]
theorem xC {t:TypeId} {d:TypeDesc} {z:Z} {n by_ g:Nat} {l:List Z} {e:TypeId} (ht:P.underlying t=some d) (hd:nG d=true) (hi:fH P t z n by_) (hb:dW w g l e) (hl:l.length=n) :
  (loadVar t ⟨g,0,none⟩).run P w=.ok (.agg l.toArray) w:=by
 have:=kZ (P:=P) (w:=w) (b:=g) (off:=0) ht hd hi hl λj hj=>by
  obtain ⟨u,hu⟩:∃ u,l[j]?=some u:=⟨_,List.getElem?_eq_getElem hj⟩;rw [hu,Nat.zero_add,hb.cell];exact hu
 simpa [Instr.loadAt,Instr.sureAddr] using this
end
end Go.Vc
namespace Go.Vc
section
variable {P:Program} {w:O} {K:Z->O->Prop} {S:O->Prop} {L:Z->Prop}
theorem aLl {t x:TypeId} {v:Z} {n sz:Nat} {cs l:List Z} {k:IntKind} {i:Int} (h:XA P t sz) (ht:∃ d z by_,P.underlying x=some d/\nG d=true/\fH P x z sz by_) (hs:aA w v sz n cs) (h0:0<=i) (h1:i < n)
  (hc:(cs.drop (i.toNat*sz)).take sz=l) (hl:l.length=sz) (hk:K (.agg l.toArray) w) :
  V P (Instr.indexAt t v (.int k i)) w λp w1=>V P (Instr.loadAt x p) w1 K:=by
 obtain ⟨e,z,b',hte,hi⟩:=h;obtain ⟨d,z',by_,h2,h3,h4⟩:=ht;obtain ⟨b,off,cap,rfl,hcell⟩:=hs.there (by omega);refine V.ok (iG hte hi h0 h1) (V.ok (kZ h2 h3 h4 hl λj hj=>?_) hk);obtain ⟨u,hu⟩:∃ u,l[j]?=some u:=⟨_,List.getElem?_eq_getElem hj⟩;rw [hu,Nat.add_assoc];refine hcell _ u ?_;rw [<- hc,List.getElem?_take,List.getElem?_drop] at hu;split at hu
 ·exact hu
 ·cases hu
theorem SF {t:TypeId} {a b:Int} (hk:L (.bool (decide (a < b)))):aC P S (binOp .lss t (.int .i64 a) (.int .i64 b)) L:=aC.ok (λ_ _=>EZ) hk
theorem aTc {t:TypeId} {a b:Int} (hk:L (.bool (decide (a>=b)))):aC P S (binOp .geq t (.int .i64 a) (.int .i64 b)) L:=aC.ok (λ_ _=>aIx) hk
end
end Go.Vc
namespace Go.Vc
open Go.Proofs
section
variable {P:Program} {w:O} {K:Z->O->Prop} {S:O->Prop} {L:Z->Prop}
theorem mN {t:TypeId} {zs:List Z} (h:BD P t zs) {parts:Array (Nat × Z)} (l:List (Nat × Z)) (hp:parts=l.toArray) (h1:(l.all λx=>decide (x.1 < zs.length)&&gO x.2)=true)
  (hk:L (.agg (l.foldl (λcs x=>cs.set x.1 x.2) zs).toArray)):aC P S (Instr.build t parts) L:=by
 subst hp;obtain ⟨fs,b,hu,hi,hm⟩:=h;refine aC.ok (λw _=>?_) hk;simp only [Instr.build,Sem.run_bind,oS hi,Result.andThen_ok,run_underlying hu,hm,Value.cells];rw [YL l zs rfl h1];simp
theorem nJ {t:TypeId} (h:MI P t) {v:Z} (hk:L (.iface t v)):aC P S (Instr.makeInterface t v) L:=by
 obtain ⟨d,hu,hd⟩:=h;refine aC.ok (λw _=>?_) hk;cases d<;>first|(simp [Instr.makeInterface,run_underlying hu];done)|cases hd
theorem WG {t:TypeId} {ts:Array TypeId} {a b:Int}:(Builtin.min_ ts t #[.int .i64 a,.int .i64 b]).run P w=.ok (.int .i64 (if a < b then a else b)) w\/(Builtin.min_ ts t #[.int .i64 a,.int .i64 b]).run P w=.ok (.int .i64 (if b < a then b else a)) w:=by
 simp [Builtin.min_,Builtin.min2]
theorem mn2 {t:TypeId} {ts:Array TypeId} {a b:Int} (hk:∀ c,(c=a\/c=b)->c<=a->c<=b->K (.int .i64 c) w):V P (Builtin.min_ ts t #[.int .i64 a,.int .i64 b]) w K:=by
 rcases WG (P:=P) (w:=w) (t:=t) (ts:=ts) (a:=a) (b:=b) with h|h
 iterate 2
  ·exact V.ok h (hk _ (by split<;>simp) (by split<;>omega) (by split<;>omega))
theorem rm {t:TypeId} {a b:Int} (hb:0 < b) (hk:∀ c,c=a.tmod b->-b < c->c < b->K (.int .i64 c) w):V P (binOp .rem t (.int .i64 a) (.int .i64 b)) w K:=by
 have hne:b≠0:=by omega
 have hr:(binOp .rem t (.int .i64 a) (.int .i64 b)).run P w=.ok (.int .i64 (a.tmod b)) w:=by simp [binOp,Op.intDiv,hne]
 exact V.ok hr (hk _ rfl (by have:=Int.lt_tmod_of_pos a hb;simpa using this) (Int.tmod_lt_of_pos a hb))
theorem aQv {t e n:TypeId} {z:Z} {by_:Nat} (ht:P.underlying t=some (.array n e)) (hi:fH P e z 1 by_) {b off:Nat} {i:Int} (h0:0<=i) (h1:i < n) :
  (Instr.indexAt t (.pointer (some ⟨b,off,none⟩)) (.int .i64 i)).run P w=.ok (.pointer (some ⟨b,off+i.toNat,none⟩)) w:=by
 simp [Instr.indexAt,asIntOf,run_underlying ht,Instr.sureAddr,gQ hi,h0,h1,jQ]
theorem aQs {t e n:TypeId} {z:Z} {by_:Nat} (ht:P.underlying t=some (.array n e)) (hi:fH P e z 1 by_) (hd:∃ k,P.underlying e=some (.int k)) {cs:Array Z} {i:Int} {u:Z} (h0:0<=i) (h1:i < n) (hu:cs[i.toNat]?=some u) (_:gO u=true) :
  (Instr.index t (.agg cs) (.int .i64 i)).run P w=.ok u w:=by
 obtain ⟨k,hd⟩:=hd;simp [Instr.index,asIntOf,run_underlying ht,gQ hi,h0,h1,part,uB hd,nG,hu]
end
end Go.Vc
namespace Go.Vc
section
variable {P:Program} {w:O}
theorem thK {u x:TypeId} {v:Z} {K:Z->Z->O->Prop} (h:TA P u) (hK:K (.bool true) v w) :
  V P (Instr.typeAssert (.iface u v) x u true) w λt1 w1=>V P (Instr.extract t1 1) w1 λt2 w2=>V P (Instr.extract t1 0) w2 λt3 w3=>K t2 t3 w3:=by
 obtain ⟨z,hz,_⟩:=h;refine V.ok (hz w x u v) ?_;rw [if_pos rfl];exact V.ok lR (V.ok lS hK)
theorem tmK {u t x:TypeId} {v:Z} {K:Z->Z->O->Prop} (h:TA P u) (hne:t≠u) (hK:∀ z,K (.bool false) z w) :
  V P (Instr.typeAssert (.iface t v) x u true) w λt1 w1=>V P (Instr.extract t1 1) w1 λt2 w2=>V P (Instr.extract t1 0) w2 λt3 w3=>K t2 t3 w3:=by
 obtain ⟨z,hz,_⟩:=h;refine V.ok (hz w x t v) ?_;rw [if_neg hne];exact V.ok lR (V.ok lS (hK _))
end
structure Fr (S:Nat->Prop) (w w':O):Prop where
 os:w'.os=w.os
 tape:w'.tape=w.tape
 output:w'.output=w.output
 size:w.heap.size<=w'.heap.size
 block:∀ i,i < w.heap.size->¬ S i->w'.heap[i]?=w.heap[i]?
theorem Fr.refl (S:Nat->Prop) (w:O):Fr S w w:=⟨rfl,rfl,rfl,Nat.le_refl _,λ_ _ _=>rfl⟩
theorem Fr.trans {S T:Nat->Prop} {a b c:O} (h:Fr S a b) (k:Fr T b c) (hT:∀ i,i < a.heap.size->T i->S i):Fr S a c:=
 ⟨k.os.trans h.os,k.tape.trans h.tape,k.output.trans h.output,Nat.le_trans h.size k.size,λi hi hn=>(k.block i (Nat.lt_of_lt_of_le hi h.size) λht=>hn (hT i hi ht)).trans (h.block i hi hn)⟩
theorem Fr.or {S T:Nat->Prop} {a b c:O} (h:Fr S a b) (k:Fr T b c):Fr (λi=>S i\/T i) a c:=
 ⟨k.os.trans h.os,k.tape.trans h.tape,k.output.trans h.output,Nat.le_trans h.size k.size,λi hi hn=>(k.block i (Nat.lt_of_lt_of_le hi h.size) λht=>hn (.inr ht)).trans (h.block i hi λhs=>hn (.inl hs))⟩
theorem Fr.mono {S T:Nat->Prop} {a b:O} (h:Fr S a b) (hT:∀ i,S i->T i):Fr T a b:=⟨h.os,h.tape,h.output,h.size,λi hi hn=>h.block i hi λhs=>hn (hT i hs)⟩
theorem Fr.of_ext {S:Nat->Prop} {w w':O} (h:aE w w'):Fr S w w':=⟨h.os,h.tape,h.output,h.size,λi hi _=>h.block i hi (by simp)⟩
theorem Fr.of_grown {S:Nat->Prop} {w w':O} {row:Option Nat} (h:w.grownBy w' row) (hr:∀ k,row=some k->S k):Fr S w w':=⟨h.os,h.tape,h.output,h.size,λi hi hn=>h.block i hi λhe=>hn (hr i he.symm)⟩
theorem Fr.of_set {S:Nat->Prop} {w:O} {b o:Nat} {v:Z} (hb:S b):Fr S w (w.setCell ⟨b,o,none⟩ v):=⟨rfl,rfl,rfl,by simp,λi _ hn=>heap_setCell_other _ _ _ _ (λhe=>hn (by simp [he];exact hb))⟩
theorem Fr.set {S:Nat->Prop} {w w':O} (h:Fr S w w') {b o:Nat} {v:Z} (hb:S b):Fr S w (w'.setCell ⟨b,o,none⟩ v):=h.trans (Fr.of_set (S:=S) hb) λ_ _ h=>h
theorem Fr.ext {S:Nat->Prop} {w0 w w':O} (h:Fr S w w') (hx:aE w0 w) (hS:∀ i,S i->w0.heap.size<=i):aE w0 w':=
 ⟨h.os.trans hx.os,h.tape.trans hx.tape,h.output.trans hx.output,Nat.le_trans hx.size h.size,λi hi hn=>(h.block i (Nat.lt_of_lt_of_le hi hx.size) λhs=>by have:=hS i hs;omega).trans (hx.block i hi hn)⟩
theorem Fr.blk {S:Nat->Prop} {w w':O} {g:Nat} {cs:List Z} {e:TypeId} (h:Fr S w w') (hb:dW w g cs e) (hn:¬ S g):dW w' g cs e:=by
 unfold dW;rw [h.block g hb.lt hn];exact hb
theorem Fr.own {S:Nat->Prop} {w w':O} {B e sz n:Nat} {v:Z} {xs:List Z} (h:Fr S w w') (ho:w.ownsRow B e sz v n xs) (hn:∀ k,v.ownBlock=some k->¬ S k):w'.ownsRow B e sz v n xs:=by
 refine ⟨ho.1,?_⟩;rcases ho.2 with h1|⟨g,cap,cur,rfl,hb,hg,rest⟩
 ·exact .inl h1
 ·refine .inr ⟨g,cap,cur,rfl,hb,?_,rest⟩;rw [h.block g (Array.getElem?_eq_some_iff.1 hg).1 (hn g rfl)];exact hg
theorem apL {P:Program} {w:O} {K:Z->O->Prop} {t e by_ ty:Nat} (h:XE P t e by_) {B B':Nat} {v:Z} {n:Nat} {xs:List Z} (ho:w.ownsRow B e 1 v n xs) {x:Z} {m:Nat} {news:List Z} (hs:w.ownsRow B' e 1 x m news) (hm:0 < m) (h1:news.all gO=true)
  (hb:(n+m)*by_<=140737488355328) (h63:n+m<=maxLen) (hB:B<=w.heap.size)
  (hk:∀ g cap w',w'.ownsRow B e 1 (.slice (some ⟨g,0,none⟩) (n+m) cap) (n+m) (xs++news)->w.grownBy w' v.ownBlock->(v.ownBlock=some g\/g=w.heap.size)->K (.slice (some ⟨g,0,none⟩) (n+m) cap) w') :
  V P (Builtin.append_ #[t,t] ty #[v,x]) w K:=by
 obtain ⟨z,ht,hi,hz⟩:=h;obtain ⟨i,hi',hz',hn,hby⟩:=info_parts hi;have hs0:=hs;rcases hs.2 with ⟨_,h0⟩|⟨b,cap,cur,rfl,_⟩
 ·omega
 ·obtain ⟨g,cap,w',hr,h2,h3,h4,h5⟩:=run_append_lies (P:=P) (w:=w) t ty B e i z 1 by_ ht hi' hz' hn hby (by simpa using hz) (by omega) v n xs ho ⟨b,0,none⟩ m cap news (by have:=hs.1;simpa using this) (hs0.cells rfl) (λu hu=>by rw [rC];exact List.all_eq_true.1 h1 u hu) hm h63 hb hB _ rfl;exact V.ok hr (hk g cap w' h2 h3 h4)
theorem fnK {P:Program} {w:O} {K:Z->O->Prop} {f:Fn} {a c:Array Z} (h:K (.func f a c) w):V P (Instr.makeFunc f a c) w K:=V.ok (by simp [Instr.makeFunc]) h
theorem CK {P:Program} {w:O} {K:O->Prop} {s f o ft b n by_:Nat} {z u:Z} {cs:List Z} {e:TypeId} (hf:FA P s f o) (hi:fH P ft z 1 by_) (hb:dW w b cs e) (hn:cs.length=n) (ho:o < n) (hu:gO u=true) (hk:K (w.setCell ⟨b,o,none⟩ u)) :
  V P (Instr.fieldAt s (.pointer (some ⟨b,0,none⟩)) f) w λq w1=>U P (Instr.storeAt ft q u) w1 λ_ w2=>K w2:=by
 refine V.ok (hf.ex w b 0) ?_;have hc:=hb.cell o;rw [List.getElem?_eq_getElem (by omega)] at hc;rw [Nat.zero_add];exact U.ok (mW hi hu hc (hb.frozen _)) hk
theorem VG {P:Program} {w:O} {x:TypeId} {z:Z} {by_:Nat} (hx:fH P x z 1 by_) {g e i:Nat} {cs:List Z} (hb:dW w g cs e) (h1:i < cs.length) {u:Z} (hu:gO u=true) {K':O->Prop}
  (hk:K' (w.setCell ⟨g,i,none⟩ u)):U P (Instr.storeAt x (.pointer (some ⟨g,0+i*1,none⟩)) u) w λ_ w2=>K' w2:=by
 have hc:=hb.cell i;rw [List.getElem?_eq_getElem h1] at hc;simp only [Nat.zero_add,Nat.mul_one];exact U.ok (mW hx hu hc (hb.frozen _)) hk
theorem qV.mono {P:Program} {w:O} {f:Z} {args:Array Z} {R K:Z->O->Prop} (h:qV P f args w R) (hk:∀ v w',R v w'->K v w'):qV P f args w K:=by
 obtain ⟨g,cap,h1,h2⟩:=h;exact ⟨g,cap,h1,h2.mono hk⟩
theorem MA {P:Program} {w:O} {K:O->Prop} {ft b o n by_:Nat} {z u:Z} {cs:List Z} {e:TypeId} (hi:fH P ft z 1 by_) (hb:dW w b cs e) (hn:cs.length=n) (ho:o < n) (hu:gO u=true) (hk:K (w.setCell ⟨b,o,none⟩ u)) :
  U P (Instr.storeAt ft (.pointer (some ⟨b,0+o,none⟩)) u) w λ_ w2=>K w2:=by
 have hc:=hb.cell o;rw [List.getElem?_eq_getElem (by omega)] at hc;rw [Nat.zero_add];exact U.ok (mW hi hu hc (hb.frozen _)) hk
section
variable {P:Program} {w:O}
theorem stY {x:TypeId} {z:Z} {by_:Nat} (hx:fH P x z 1 by_) {B e n g c:Nat} {xs:List Z} (ho:w.ownsRow B e 1 (.slice (some ⟨g,0,none⟩) n c) n xs) {i:Nat} (h1:i < n) {u:Z} (hu:gO u=true) {K':O->Prop}
  (hk:∀ w',w'.ownsRow B e 1 (.slice (some ⟨g,0,none⟩) n c) n (xs.set i u)->w.grownBy w' (some g)->K' w') :
  U P (Instr.storeAt x (.pointer (some ⟨g,0+i*1,none⟩)) u) w λ_ w2=>K' w2:=by
 obtain ⟨s1,s2⟩:=ho.stored i u;have hc:=ho.cellAt i (by omega);have hlt:i < xs.length:=by have:=ho.1;omega
 rw [List.getElem?_eq_getElem hlt] at hc;simp only [Nat.zero_add,Nat.mul_one];exact U.ok (mW hx hu hc (ho.frozenAt _)) (hk _ s1 s2)
end
theorem V.mono {P:Program} {s:Sem Z} {w:O} {K K':Z->O->Prop} (h:V P s w K) (hk:∀ v w',K v w'->K' v w'):V P s w K':=by
 obtain ⟨v,w',h1,h2⟩:=h;exact ⟨v,w',h1,hk v w' h2⟩
theorem cpB {P:Program} {w:O} {K:Z->O->Prop} {t e by_ ty:Nat} (h:XE P t e by_) {g R c:Nat} {xs cs:List Z} {te:TypeId} {a:Option Addr} {n c':Nat} (hb:dW w g xs te) (hx:xs.length=R) (hcl:cs.length=n) (hs:0 < n->aA w (.slice a n c') 1 n cs) (h1:cs.all gO=true)
  (hk:∀ v w',dW w' g (cs.take (min n R)++xs.drop (min n R)) te->Fr (λi=>i=g) w w'->K v w') :
  V P (Builtin.copy_ #[t,t] ty #[.slice (some ⟨g,0,none⟩) R c,.slice a n c']) w K:=by
 obtain ⟨z,ht,hi,hz⟩:=h;obtain ⟨i,hi',hz',hn,hby⟩:=info_parts hi;have hsz:(P.info? e).map (·.size)=some 1:=by rw [hi'];simp [hn]
 by_cases h0:min n R=0
 ·refine V.ok (run_copy_none (P:=P) w t t ty e _ a R c n c' ht hsz h0) (hk _ _ ?_ (Fr.refl _ _));rw [h0];simpa using hb
 ·have hlt:0 < n:=by omega
  rcases (hs hlt).2 with ⟨h2,_⟩|⟨b,off,cap,h2,_,_,hc⟩
  ·cases h2;omega
  ·cases h2
   have hr:=run_copy_row (P:=P) w t t ty e g 0 R c ⟨b,off,none⟩ n c' xs.toArray te (cs.take (min n R)) ht hsz hb (by show _=min n R;rw [List.length_take];omega) (λj u hj=>by
    rw [jQ];rw [List.getElem?_take] at hj;split at hj
    ·exact hc j u hj
    ·cases hj) (by simp;omega) (λu hu=>by rw [rC];exact List.all_eq_true.1 h1 u (List.mem_of_mem_take hu))
   refine V.ok hr (hk _ _ ?_ ⟨rfl,rfl,rfl,by simp,λi _ hi=>setRow_other _ _ _ _ hi⟩);unfold dW;rw [setRow_heap w g _ _ te (0,0) hb];have hm:min (min n R) cs.length=min n R:=by omega
   simp [List.length_take,hm]
end Go.Vc
namespace Go.Vc
open Go.Proofs
abbrev u8 (b:Int):Z:=.int .u8 b
section
variable {P:Program} {w:O} {K:Z->O->Prop} {S:O->Prop} {L:Z->Prop}
def aAh (w:O) (v:Z) (l:List Int):Prop:=aA w v 1 l.length (l.map u8)
theorem aQw {s e:TypeId} (hs:P.underlying s=some (.pointer e)) (d:Nat) {a:Addr}:(Op.equalIn (d+1) s (.pointer (some a)) (.pointer none)).run P w=.ok false w:=by
 simp [Op.equalIn,run_underlying hs]
theorem CV {s e:TypeId} (hs:P.underlying s=some (.pointer e)) {x y:Operand} {a:Addr} :
  (do eqGuard .eql s x y (.pointer (some a)) (.pointer none);binOp .eql s (.pointer (some a)) (.pointer none)).run P w=.ok (.bool false) w:=by
 simp [eqGuard,binOp,kI,aQw hs]
theorem MK {t e:TypeId} {z:Z} {by_:Nat} (ht:P.underlying t=some (.slice e)) (hi:fH P e z 1 by_) {v:Z} {n:Nat} {cs:List Z} (h:aA w v 1 n cs) {lo hi':Option Z} {a b:Nat} (ha:(lo=none/\a=0)\/lo=some (.int .i64 a)) (hb:(hi'=none/\b=n)\/hi'=some (.int .i64 b)) (hab:a<=b) (hbn:b<=n) :
  ∃ v',(∀ w',(Instr.sliceAt t v lo hi' none).run P w'=.ok v' w')/\∀ w2,aA w2 v 1 n cs->aA w2 v' 1 (b - a) ((cs.drop a).take (b - a)):=by
 have hcl:cs.length=n:=by have:=h.1;omega
 rcases h.2 with ⟨rfl,h0⟩|⟨g,off,cap,rfl,h1,h2,_⟩
 ·have ea:a=0:=by omega
  have eb:b=0:=by omega
  subst ea eb;refine ⟨.slice none 0 0,λw'=>?_,λw2 _=>?_⟩
  ·rcases ha with ⟨rfl,_⟩|rfl<;>rcases hb with ⟨rfl,_⟩|rfl<;>simp [Instr.sliceAt,Instr.slice,run_underlying ht,gQ hi,Instr.sliceBounds,Instr.sliceBound,asIntOf]
  ·simp;exact aA.nil w2 1
 ·have hb1:(0:Int)<=b/\(b:Int)<=cap:=⟨by omega,by omega⟩;have ha1:(0:Int)<=a/\(a:Int)<=b:=⟨by omega,by omega⟩;have hbc:b<=cap:=by omega
  refine ⟨.slice (if cap=a then some ⟨g,off,none⟩ else (some (⟨g,off,none⟩:Addr)).map (·.add (a*1))) (b - a) (cap - a),λw'=>?_,λw2 hw2=>?_⟩
  ·rcases ha with ⟨rfl,rfl⟩|rfl<;>rcases hb with ⟨rfl,rfl⟩|rfl<;>simp [Instr.sliceAt,Instr.slice,run_underlying ht,gQ hi,Instr.sliceBounds,Instr.sliceBound,asIntOf,hab,hbc]
  ·refine ⟨by simp;omega,.inr ?_⟩;by_cases hca:cap=a
   ·rw [if_pos hca]
    exact ⟨g,off,cap - a,rfl,by omega,by omega,λj u hj=>by
     have:=(List.getElem?_eq_some_iff.1 hj).1;simp at this;omega⟩
   ·rw [if_neg hca];rcases hw2.2 with ⟨he,_⟩|⟨g',off',cap',he,_,_,h3⟩
    ·cases he
    ·cases he;refine ⟨g,off+a,cap - a,by simp [jQ],by omega,by omega,λj u hj=>?_⟩;rw [List.getElem?_take] at hj;split at hj
     ·rw [List.getElem?_drop] at hj;have:=h3 _ _ hj;rw [Nat.add_assoc];exact this
     ·cases hj
theorem PB {s:TypeId} {x y:Operand} {a b:ByteArray} :
  (do eqGuard .eql s x y (.string a) (.string b);binOp .eql s (.string a) (.string b)).run P w=.ok (.bool (a.toList == b.toList)) w:=by
 simp [eqGuard,binOp,Op.stringOp]
end
end Go.Vc
namespace Go.Proofs.YtgkkecladbmjkaaGreatDoor
open Tryz
open Go.Vc
inductive aL where
 | const (dst n:Int)
 | move (dst src:Int)
 | bin (op dst a b:Int)
 | un (op dst a:Int)
 | choose (dst c a b:Int)
 | tick
 | goto (to:Int)
 | branch (cond to:Int)
 | getField (dst f:Int)
 | putField (f src:Int)
 | serve (op a b dst:Int) (args:List Int)
 | call (m dst:Int) (args:List Int)
 | callX (i dst:Int) (args:List Int)
 | ret (src:Int)
def aL.val (sv:Z):aL->Z
 | .const d n=>.iface 161 (.agg #[i64 d,i32 n])
 | .move d s=>.iface 222 (.agg #[i64 d,i64 s])
 | .bin op d a b=>.iface 242 (.agg #[i64 op,i64 d,i64 a,i64 b])
 | .un op d a=>.iface 224 (.agg #[i64 op,i64 d,i64 a])
 | .choose d c a b=>.iface 226 (.agg #[i64 d,i64 c,i64 a,i64 b])
 | .tick=>.iface 164 (.agg #[])
 | .goto t=>.iface 228 (.agg #[i64 t])
 | .branch c t=>.iface 230 (.agg #[i64 c,i64 t])
 | .getField d f=>.iface 232 (.agg #[i64 d,i64 f])
 | .putField f s=>.iface 91 (.agg #[i64 f,i64 s])
 | .serve op a b d _=>.iface 276 (.agg #[i64 op,i64 a,i64 b,i64 d,sv])
 | .call m d _=>.iface 235 (.agg #[i64 m,i64 d,sv])
 | .callX i d _=>.iface 237 (.agg #[i64 i,i64 d,sv])
 | .ret s=>.iface 239 (.agg #[i64 s])
def aL.args:aL->List Int
 | .serve _ _ _ _ l|.call _ _ l|.callX _ _ l=>l
 | _=>[]
def aL.df:aL->Int
 | .const d _|.move d _|.bin _ d _ _|.un _ d _|.choose d _ _ _|.getField d _|.serve _ _ _ d _|.call _ d _|.callX _ d _=>d
 | _=>-1
def aL.us:aL->List Int
 | .move _ s=>[s]
 | .bin _ _ a b=>[a,b]
 | .un _ _ a=>[a]
 | .choose _ c a b=>[c,a,b]
 | .branch c _=>[c]
 | .putField _ s=>[s]
 | .serve _ _ _ _ l|.call _ _ l|.callX _ _ l=>l
 | .ret s=>if s=-1 then [] else [s]
 | _=>[]
def aL.nx (n:aL) (k:Int):List Int:=
 match n with
 | .goto t=>[t]
 | .branch _ t=>if t=k+1 then [k+1] else [k+1,t]
 | .ret _=>[]
 | _=>[k+1]
def aQ (w:O) (v:Z) (l:List Int):Prop:=aA w v 1 l.length (l.map i64)
def pE (w:O) (v:Z) (l:List Bool):Prop:=aA w v 1 l.length (l.map .bool)
def mT (w:O) (v:Z) (n:aL):Prop:=∃ sv,v=n.val sv/\aQ w sv n.args
theorem mT.ext {w w':O} {v:Z} {n:aL} (h:mT w v n) (hx:aE w w'):mT w' v n:=by
 obtain ⟨sv,h1,h2⟩:=h;exact ⟨sv,h1,h2.ext hx⟩
structure mM where
 params:Int
 regs:Int
 nodes:List aL
def nI (w:O) (v:Z) (l:List aL):Prop:=∃ vs,aA w v 1 l.length vs/\∀ (i:Nat) n,l[i]?=some n->∃ u,vs[i]?=some u/\mT w u n
theorem nI.ext {w w':O} {v:Z} {l:List aL} (h:nI w v l) (hx:aE w w'):nI w' v l:=by
 obtain ⟨vs,h1,h2⟩:=h;refine ⟨vs,h1.ext hx,λi n hi=>?_⟩;obtain ⟨u,h3,h4⟩:=h2 i n hi;exact ⟨u,h3,h4.ext hx⟩
def sR (w:O) (v:Z) (p:mM):Prop:=∃ ns,v=.agg #[i64 p.params,i64 p.regs,ns]/\nI w ns p.nodes/\∀ n∈p.nodes,n.args.length<=4294967296
theorem sR.ext {w w':O} {v:Z} {p:mM} (h:sR w v p) (hx:aE w w'):sR w' v p:=by
 obtain ⟨ns,h1,h2,h3⟩:=h;exact ⟨ns,h1,h2.ext hx,h3⟩
theorem aKa (n:aL):n.us.length<=n.args.length+3:=by
 cases n<;>simp [aL.us,aL.args];split<;>simp
theorem aKw (n:aL) (k:Int):(n.nx k).length<=2:=by
 cases n<;>simp [aL.nx];split<;>simp
theorem aQ.ext {w w':O} {v:Z} {l:List Int} (h:aQ w v l) (hx:aE w w'):aQ w' v l:=aA.ext h hx
theorem fD {l:List Int} {j:Nat} {u:Int} (h:l[j]?=some u):(l.map i64)[(j:Int).toNat]?=some (i64 u):=by simp [h]
theorem fQ {α:Type} {l:List α} {j:Nat} (h:j < l.length):∃ u,l[j]?=some u:=⟨_,List.getElem?_eq_getElem h⟩
theorem eI (j:Nat):Value.int .i64 ((j:Int)+1)=i64 ((j+1:Nat):Int):=by simp
theorem mJ {P:Program} {w:O} {K:Z->O->Prop} {t:TypeId} {j:Nat} (h:-9223372036854775808<=(j:Int)+1/\(j:Int)+1<=9223372036854775807) (hk:K (i64 ((j+1:Nat):Int)) w):V P (binOp .add t (i64 j) (i64 1)) w K:=by
  refine dS.2 ?_;rw [aU h,eI];exact hk
theorem aW (n:Int):RowKit.intOf (i64 n)=n:=rfl
end Go.Proofs.YtgkkecladbmjkaaGreatDoor
namespace Go.Tc
variable {a k to:Int} {f:Nat->Nat} {stack:List Int} {pc:Nat}
structure gN where
 op:Int
 a:Int
 b:Int
structure gA where
 params:List Int
 result:Int
 locals:List Int
 code:List gN
structure uO where
 name:ByteArray
 exp:Int
 params:List Int
 result:Int
structure dN where
 name:ByteArray
 fields:List Int
 imports:List uO
 methods:List gA
 exports:List Int
def gA.none:gA:=⟨[],0,[],[]⟩
def uO.none:uO:=⟨ByteArray.empty,0,[],0⟩
def gN.none:gN:=⟨0,0,0⟩
def gA.locs (m:gA):List Int:=m.params++m.locals
def dN.meth (i:dN) (k:Int):gA:=i.methods.getD k.toNat gA.none
def dN.imp (i:dN) (k:Int):uO:=i.imports.getD k.toNat uO.none
def gA.ins (m:gA) (pc:Nat):gN:=m.code.getD pc gN.none
def fL (k:Int):Bool:=k == 1||k == 2
def gC (k:Int):Bool:=k == 3||k == 4
def nT (a b:Int):Int:=if a=2\/b=2 then 2 else 1
def ofK (a:Int):Int:=if a=3 then 1 else if a=4 then 2 else 0
def nP (a b:Int):Option Int:=if fL a&&fL b then some (nT a b) else if gC a&&a == b then some a else none
def jB:List Int->List Int->Option (List Int)
 | [],[]=>some []
 | a::l,b::m=>(nP a b).bind λk=>(jB l m).map (k::·)
 | _,_=>none
def Kd (k:Int):Prop:=1<=k/\k<=4
instance (k:Int):Decidable (Kd k):=by unfold Kd;exact inferInstance
def lM (l:List Int):Prop:=∀ k∈l,Kd k
def zO (op:Int):Int × Int:=
 if op=1 then (-2147483648,2147483647) else if op=2\/op=3 then (0,9) else if op=23\/op=24 then (0,119)
 else if op=25\/op=27 then (3,4) else if op=33\/op=34 then (0,7) else if op=35\/op=36 then (1,2)
 else if op=37 then (0,7) else if op=38 then (0,3) else (0,0)
def gN.right (x:gN):Prop:=(1<=x.op/\x.op<=39)/\(zO x.op).1<=x.a/\x.a<=(zO x.op).2/\(if x.op=27 then (0<=x.b/\x.b<=2)\/(4<=x.b/\x.b<=6) else x.b=0)
def oC (l:List Int) (most:Int):Prop:=lM l/\(l.length:Int)<=most
def uO.right (x:uO):Prop:=(0<=x.exp/\x.exp < 4)/\oC x.params 4/\(0<=x.result/\x.result<=4)
def gA.right (m:gA):Prop:=oC m.params 4/\(0<=m.result/\m.result<=4)/\oC m.locals (10 - m.params.length)/\(1<=m.code.length/\m.code.length<=120)/\∀ x∈m.code,x.right
def dN.right (i:dN):Prop:=oC i.fields 8/\(i.imports.length<=4/\∀ x∈i.imports,x.right)/\((1<=i.methods.length/\i.methods.length<=8)/\(∀ m∈i.methods,m.right)/\(i.meth 0).params=[]/\(i.meth 0).result=0) /\
 i.exports.length<=4/\∀ n∈i.exports,0<=n/\n < (i.methods.length:Int)
def fI (i:dN) (m:gA) (x:gN):Prop:=
 if x.op=2\/x.op=3 then x.a < (m.locs.length:Int) else if x.op=33\/x.op=34 then x.a < (i.fields.length:Int)
 else if x.op=37 then x.a < (i.methods.length:Int) else if x.op=38 then x.a < (i.imports.length:Int)
 else if x.op=23\/x.op=24 then x.a < (m.code.length:Int) else True
def fP (op:Int):Prop:=(6<=op/\op<=14)\/(19<=op/\op<=21)
instance (op:Int):Decidable (fP op):=by unfold fP;exact inferInstance
def jD (r:Int):List Int:=if r=0 then [] else [r]
def aI (i:dN) (m:gA) (x:gN):List Int:=
 if x.op=3 then [m.locs.getD x.a.toNat 0]
 else if x.op=34 then [i.fields.getD x.a.toNat 0]
 else if x.op=4\/x.op=5 then [-1]
 else if x.op=15\/x.op=16 then [-2]
 else if fP x.op then [-2,-2]
 else if x.op=17\/x.op=18 then [-3,-3]
 else if x.op=22 then [-2,-1,-1]
 else if x.op=24\/x.op=27 then [-3]
 else if x.op=26\/x.op=28 then [-4]
 else if x.op=29 then [-4,-3]
 else if x.op=30 then [-4,-3,-2]
 else if x.op=31\/x.op=32 then [-4,-3,-4,-3,-3]
 else if x.op=36 then [-4,-3,-3]
 else if x.op=37 then (i.meth x.a).params
 else if x.op=38 then (i.imp x.a).params
 else if x.op=39 then jD m.result
 else []
def qA (k a:Int):Bool:=if a=-1 then true else if a=-2\/a=-3 then fL k else if a=-4 then gC k else fL k&&fL a||k == a
def rV (k a:Int):Bool:=(a == -3||a == 1)&&k == 2
def iN:List Int->List Int->Bool
 | a::t,k::l=>qA k a&&iN t l
 | _,_=>true
def gK:List Int->List Int->Bool
 | a::t,k::l=>rV k a||gK t l
 | _,_=>false
def cT (l:List Int) (n:Nat):Int:=l.getD n 0
def kM (x:gN) (t l:List Int):Bool:=
 iN t l&&(if x.op=22 then fL (cT l 1)&&fL (cT l 2)||gC (cT l 1)&&cT l 1 == cT l 2 else true)
def iR (x:gN) (t l:List Int):Bool:=
 if x.op=22 then gC (cT l 1)&&cT l 0 == 2
 else if x.op=30 then gK t l||(cT l 0 == 3&&cT l 2 == 2)
 else if x.op=31 then gK t l||(cT l 0 == 3&&cT l 2 == 4)
 else if x.op=36 then gK t l||(x.a == 1&&cT l 0 == 4)
 else gK t l
def uV (l:List Int):Int:=if gC (cT l 1) then cT l 1 else nT (cT l 0) (nT (cT l 1) (cT l 2))
def fU (i:dN) (m:gA) (x:gN) (l:List Int):List Int:=
 if x.op=1\/x.op=17\/x.op=18\/x.op=26\/x.op=28 then [1]
 else if x.op=2 then [m.locs.getD x.a.toNat 0]
 else if x.op=33 then [i.fields.getD x.a.toNat 0]
 else if x.op=5 then [cT l 0,cT l 0]
 else if fP x.op then [nT (cT l 0) (cT l 1)]
 else if x.op=15\/x.op=16 then [cT l 0]
 else if x.op=22 then [uV l]
 else if x.op=25\/x.op=27 then [x.a]
 else if x.op=29 then [ofK (cT l 0)]
 else if x.op=32 then (if cT l 0=4\/cT l 2=4 then [2] else [1])
 else if x.op=35 then [3+x.a - 1]
 else if x.op=37 then jD (i.meth x.a).result
 else if x.op=38 then jD (i.imp x.a).result
 else []
def hgt (i:dN) (m:gA) (x:gN):Nat:=(fU i m x (List.replicate 8 0)).length
theorem xX (i:dN) (m:gA) (x:gN) (l:List Int):(fU i m x l).length=hgt i m x:=by
 unfold hgt fU;simp only [apply_ite List.length,List.length_cons,List.length_nil,ite_self]
def tS (i:dN) (m:gA) (x:gN) (s:List Int):Option (List Int):=
 let t:=aI i m x
 if s.length < t.length\/8 < s.length - t.length+hgt i m x then none
 else
  let l:=s.drop (s.length - t.length)
  if kM x t l=true/\iR x t l=false then some (s.take (s.length - t.length)++fU i m x l) else none
def fK (x:gN) (pc:Nat):List Int:=
 if x.op=23 then [x.a] else if x.op=24 then [(pc:Int)+1,x.a] else if x.op=39 then [] else [(pc:Int)+1]
structure St where
 st:List (List Int)
 has:List Bool
 todo:List Bool
def St.ini (n:Nat):St:=⟨List.replicate n [],List.replicate n false,List.replicate n false⟩
def St.h (s:St) (k:Nat):Bool:=s.has.getD k false
def St.t (s:St) (k:Nat):Bool:=s.todo.getD k false
def St.s (s:St) (k:Nat):List Int:=s.st.getD k []
def lC (n:Nat) (s:St) (to:Int) (stack:List Int):Option St:=
 if (n:Int)<=to then none
 else if s.h to.toNat then
  (jB (s.s to.toNat) stack).bind λj=>if j=s.s to.toNat then some s else some { s with st:=s.st.set to.toNat j,todo:=s.todo.set to.toNat true }
 else some ⟨s.st.set to.toNat stack,s.has.set to.toNat true,s.todo.set to.toNat true⟩
def kB (n:Nat) (stack:List Int):List Int->St->Option St
 | [],s=>some s
 | to::l,s=>(lC n s to stack).bind (kB n stack l)
def oR (i:dN) (m:gA) (s:St) (pc:Nat):Option St:=
 (tS i m (m.ins pc) (s.s pc)).bind λstack=>kB m.code.length stack (fK (m.ins pc) pc) { s with todo:=s.todo.set pc false }
def kU:List Bool->Option Nat
 | []=>none
 | true::_=>some 0
 | false::l=>(kU l).map (·+1)
inductive mA (i:dN) (m:gA):St->Option St->Prop
 | done {s:St}:kU s.todo=none->mA i m s (some s)
 | fail {s:St} {pc:Nat}:kU s.todo=some pc->oR i m s pc=none->mA i m s none
 | go {s s':St} {pc:Nat} {r:Option St}:kU s.todo=some pc->oR i m s pc=some s'->mA i m s' r->mA i m s r
theorem mA.det {i:dN} {m:gA} {s:St} {r r':Option St} (h:mA i m s r) (h':mA i m s r'):r=r':=by
 induction h generalizing r' with
 | done h1=>cases h' with
  | done _=>rfl
  | fail h2 _=>rw [h1] at h2;cases h2
  | go h2 _ _=>rw [h1] at h2;cases h2
 | fail h1 h2=>cases h' with
  | done h3=>rw [h1] at h3;cases h3
  | fail _ _=>rfl
  | go h3 h4 _=>rw [h1] at h3;cases h3;rw [h2] at h4;cases h4
 | go h1 h2 _ ih=>cases h' with
  | done h3=>rw [h1] at h3;cases h3
  | fail h3 h4=>rw [h1] at h3;cases h3;rw [h2] at h4;cases h4
  | go h3 h4 h5=>rw [h1] at h3;cases h3;rw [h2] at h4;cases h4;exact ih h5
def St.first (n:Nat):St:=⟨(List.replicate n []).set 0 [],(List.replicate n false).set 0 true,(List.replicate n false).set 0 true⟩
def lK (i:dN) (m:gA) (r:Option St):Prop:=((∃ x∈m.code,¬ fI i m x)/\r=none)\/((∀ x∈m.code,fI i m x)/\mA i m (St.first m.code.length) r)
theorem lK.det {i:dN} {m:gA} {r r':Option St} (h:lK i m r) (h':lK i m r'):r=r':=by
 rcases h with ⟨⟨x,h1,h2⟩,rfl⟩|⟨h1,h2⟩
 ·rcases h' with ⟨_,rfl⟩|⟨h3,_⟩
  ·rfl
  ·exact absurd (h3 x h1) h2
 ·rcases h' with ⟨⟨x,h3,h4⟩,rfl⟩|⟨_,h4⟩
  ·exact absurd (h1 x h3) h4
  ·exact h2.det h4
def lL (i:dN):Prop:=i.right/\∀ m∈i.methods,∃ s,lK i m (some s)
theorem jI {α:Type} (l:List α) (k j:Nat) (v d:α):(l.set k v).getD j d=if j=k/\k < l.length then v else l.getD j d:=by
 simp only [List.getD_eq_getElem?_getD,List.getElem?_set];by_cases h:k=j
 ·subst h;by_cases hk:k < l.length
  iterate 2
   ·simp [hk]
 ·have:¬ j=k:=λe=>h e.symm;simp [h,this]
theorem pV {l:List Bool} {k:Nat} (h:l.getD k false=true):k < l.length:=by
 by_cases hk:k < l.length
 ·exact hk
 ·rw [List.getD_eq_getElem?_getD,List.getElem?_eq_none (by omega)] at h;cases h
theorem oK:∀ {l:List Bool} {k:Nat},kU l=some k->l.getD k false=true/\∀ j,j < k->l.getD j false=false
 | [],_,h=>by cases h
 | true::_,k,h=>by cases h;exact ⟨rfl,λj hj=>absurd hj (Nat.not_lt_zero _)⟩
 | false::l,k,h=>by
  simp only [kU,Option.map_eq_some_iff] at h;obtain ⟨q,hq,rfl⟩:=h;obtain ⟨h1,h2⟩:=oK hq;refine ⟨h1,λj hj=>?_⟩;cases j with
  | zero=>rfl
  | succ j=>exact h2 j (by omega)
theorem vF:∀ {l:List Bool},kU l=none->∀ j,l.getD j false=false
 | [],_,j=>rfl
 | true::_,h,_=>by cases h
 | false::l,h,j=>by
  simp only [kU,Option.map_eq_none_iff] at h;cases j with
  | zero=>rfl
  | succ j=>exact vF h j
theorem uK:∀ {l:List Bool} {k:Nat},l.getD k false=true->(∀ j,j < k->l.getD j false=false)->kU l=some k
 | [],k,h,_=>by cases h
 | true::l,k,h,h2=>by
  cases k with
  | zero=>rfl
  | succ k=>have:=h2 0 (by omega);cases this
 | false::l,k,h,h2=>by
  cases k with
  | zero=>cases h
  | succ k=>
   have:=uK (l:=l) (k:=k) h λj hj=>h2 (j+1) (by omega);simp [kU,this]
theorem sN:∀ {l:List Bool},(∀ j,j < l.length->l.getD j false=false)->kU l=none
 | [],_=>rfl
 | true::l,h=>by have:=h 0 (by simp);cases this
 | false::l,h=>by
  have:=sN (l:=l) λj hj=>h (j+1) (by simpa using hj);simp [kU,this]
theorem XV {b:Int} (ha:Kd a) (hb:Kd b) (h:nP a b=some k):Kd k/\(k=a\/(a=1/\k=2)):=by
 obtain ⟨a1,a2⟩:=ha;obtain ⟨b1,b2⟩:=hb;have ea:a=1\/a=2\/a=3\/a=4:=by omega
 have eb:b=1\/b=2\/b=3\/b=4:=by omega
 unfold Kd;rcases ea with rfl|rfl|rfl|rfl<;>rcases eb with rfl|rfl|rfl|rfl<;>simp [nP,fL,gC,nT] at h<;>subst h<;>simp
def vJ (l:List Int):Nat:=l.countP (· == 1)
theorem aBm (l:List Int):vJ l<=l.length:=List.countP_le_length
theorem GC:∀ {a b j:List Int},lM a->lM b->jB a b=some j->lM j/\j.length=a.length/\(j=a\/vJ j < vJ a)/\vJ j<=vJ a
 | [],[],j,_,_,h=>by cases h;exact ⟨λ_ h=>(List.not_mem_nil h).elim,rfl,.inl rfl,Nat.le_refl _⟩
 | [],_::_,_,_,_,h=>by cases h
 | _::_,[],_,_,_,h=>by cases h
 | x::a,y::b,j,ha,hb,h=>by
  simp only [jB,Option.bind_eq_some_iff,Option.map_eq_some_iff] at h;obtain ⟨k,hk,l,hl,rfl⟩:=h;obtain ⟨h1,h2⟩:=XV (ha x (by simp)) (hb y (by simp)) hk;obtain ⟨h3,h4,h5,h6⟩:=GC (λq hq=>ha q (by simp [hq])) (λq hq=>hb q (by simp [hq])) hl;refine ⟨λq hq=>?_,by simp [h4],?_,?_⟩
  ·rcases List.mem_cons.1 hq with rfl|hq
   ·exact h1
   ·exact h3 q hq
  ·rcases h2 with rfl|⟨rfl,rfl⟩
   ·rcases h5 with rfl|h5
    ·exact .inl rfl
    ·right;simp only [vJ,List.countP_cons] at h5 ⊢;omega
   ·right;simp only [vJ,List.countP_cons] at h6 ⊢;simp;omega
  ·rcases h2 with rfl|⟨rfl,rfl⟩
   ·simp only [vJ,List.countP_cons] at h6 ⊢;omega
   ·simp only [vJ,List.countP_cons] at h6 ⊢;simp;omega
theorem uI:∀ {a b j:List Int},jB a b=some j->j.length=a.length/\j.length=b.length
 | [],[],j,h=>by cases h;exact ⟨rfl,rfl⟩
 | [],_::_,_,h=>by cases h
 | _::_,[],_,h=>by cases h
 | x::a,y::b,j,h=>by
  simp only [jB,Option.bind_eq_some_iff,Option.map_eq_some_iff] at h;obtain ⟨k,hk,l,hl,rfl⟩:=h;obtain ⟨h1,h2⟩:=uI hl;simp only [List.length_cons];omega
theorem pR {l:List Int} (h:lM l) {k:Nat} (hk:k < l.length):Kd (l.getD k 0):=by
 rw [List.getD_eq_getElem?_getD,List.getElem?_eq_getElem hk];exact h _ (List.getElem_mem hk)
theorem DC {m:gA} (h:m.right):lM m.locs:=λk hk=>by
 rcases List.mem_append.1 hk with h1|h1
 ·exact h.1.1 k h1
 ·exact h.2.2.1.1 k h1
theorem dN.meth_mem {i:dN} (h0:0<=k) (hk:k < i.methods.length):i.meth k∈i.methods:=by
 unfold dN.meth;rw [List.getD_eq_getElem?_getD,List.getElem?_eq_getElem (by omega)];exact List.getElem_mem _
theorem dN.imp_mem {i:dN} (h0:0<=k) (hk:k < i.imports.length):i.imp k∈i.imports:=by
 unfold dN.imp;rw [List.getD_eq_getElem?_getD,List.getElem?_eq_getElem (by omega)];exact List.getElem_mem _
theorem xA {r:Int} (h:0<=r/\r<=4):lM (jD r):=λk hk=>by
 unfold jD at hk;split at hk
 ·exact (List.not_mem_nil hk).elim
 ·rw [List.mem_singleton] at hk;subst hk;unfold Kd;omega
theorem wZ (r:Int):(jD r).length<=1:=by unfold jD;split<;>simp
structure rT (i:dN) (m:gA) (x:gN):Prop where
 ir:i.right
 mr:m.right
 xr:x.right
 nm:fI i m x
theorem QH {b:Int}:Kd (nT a b):=by unfold nT Kd;split<;>omega
theorem uF:∀ {t l:List Int} {n:Nat},n < t.length->n < l.length->iN t l=true->qA (cT l n) (cT t n)=true
 | [],_,_,h,_,_=>by simp at h
 | _::_,[],_,_,h,_=>by simp at h
 | a::t,k::l,0,_,_,h=>by simp only [iN,Bool.and_eq_true] at h;exact h.1
 | a::t,k::l,n+1,h1,h2,h=>by
  simp only [iN,Bool.and_eq_true] at h;exact uF (n:=n) (by simpa using h1) (by simpa using h2) h.2
theorem mC {l:List Int} (h:lM l) {n:Nat} (hn:n < l.length):Kd (cT l n):=pR h hn
theorem TR:gC k=true↔k=3\/k=4:=by simp [gC]
theorem TW {i:dN} {m:gA} {x:gN} {l:List Int} (h:rT i m x) (hl:lM l) (hn:l.length=(aI i m x).length) (hk:kM x (aI i m x) l=true):lM (fU i m x l):=by
 obtain ⟨hi,hm,hx,hs⟩:=h;obtain ⟨op,a,b⟩:=x;obtain ⟨⟨o1,o2⟩,a1,a2,_⟩:=hx;dsimp only at o1 o2 a1 a2
 have hop:op=1\/op=2\/op=3\/op=4\/op=5\/fP op\/op=15\/op=16\/op=17\/op=18\/op=22\/op=23\/op=24\/op=25\/op=26\/op=27\/op=28\/op=29\/op=30\/op=31\/op=32\/op=33\/op=34\/op=35\/op=36\/op=37\/op=38\/op=39:=by
  unfold fP;omega
 have one:∀ {k:Int},Kd k->lM [k]:=λhk q hq=>by rw [List.mem_singleton] at hq;subst hq;exact hk
 have nil:lM []:=λ_ h=>(List.not_mem_nil h).elim;have mi:lM m.locs:=DC hm;rcases hop with rfl|rfl|rfl|rfl|rfl|hb|rfl|rfl|rfl|rfl|rfl|rfl|rfl|rfl|rfl|rfl|rfl|rfl|rfl|rfl|rfl|rfl|rfl|rfl|rfl|rfl|rfl|rfl
 case _=>exact one (by unfold Kd;omega)
 case _=>
  have hs:a < (m.locs.length:Int):=hs;have a1:0<=a:=a1;exact one (pR mi (by dsimp only;omega))
 case _=>exact nil
 case _=>exact nil
 case _=>
  have hn:l.length=1:=hn;have h0:Kd (cT l 0):=mC hl (by omega);intro q hq;simp [fU] at hq;subst hq;exact h0
 case _=>
  have e:fU i m ⟨op,a,b⟩ l=[nT (cT l 0) (cT l 1)]:=by
   unfold fP at hb;simp only [fU];rw [if_neg (by omega),if_neg (by omega),if_neg (by omega),if_neg (by omega),if_pos (by unfold fP;omega)]
  rw [e];exact one QH
 case _=>have hn:l.length=1:=hn;exact one (mC hl (by omega))
 case _=>have hn:l.length=1:=hn;exact one (mC hl (by omega))
 case _=>exact one (by unfold Kd;omega)
 case _=>exact one (by unfold Kd;omega)
 case _=>
  have e:fU i m ⟨22,a,b⟩ l=[uV l]:=rfl;have hn:l.length=3:=hn;rw [e];refine one ?_;unfold uV;split
  ·exact mC hl (by omega)
  ·exact QH
 case _=>exact nil
 case _=>exact nil
 case _=>have a1:3<=a:=a1;have a2:a<=4:=a2;exact one (by unfold Kd;dsimp only;omega)
 case _=>exact one (by unfold Kd;omega)
 case _=>have a1:3<=a:=a1;have a2:a<=4:=a2;exact one (by unfold Kd;dsimp only;omega)
 case _=>exact one (by unfold Kd;omega)
 case _=>
  have e:fU i m ⟨29,a,b⟩ l=[ofK (cT l 0)]:=rfl;rw [e];simp only [kM,Bool.and_eq_true] at hk;have hn:l.length=2:=hn;have:=uF (t:=[-4,-3]) (l:=l) (n:=0) (show 0 < 2 by decide) (by omega) hk.1;have h2:gC (cT l 0)=true:=this;rw [TR] at h2;refine one ?_;rcases h2 with h2|h2<;>rw [h2]<;>(unfold Kd ofK;simp)
 case _=>exact nil
 case _=>exact nil
 case _=>
  have e:fU i m ⟨32,a,b⟩ l=if cT l 0=4\/cT l 2=4 then [2] else [1]:=rfl
  rw [e];split<;>exact one (by unfold Kd;omega)
 case _=>
  have hs:a < (i.fields.length:Int):=hs;have a1:0<=a:=a1;exact one (pR hi.1.1 (by dsimp only;omega))
 case _=>exact nil
 case _=>have a1:1<=a:=a1;have a2:a<=2:=a2;exact one (by unfold Kd;dsimp only;omega)
 case _=>exact nil
 case _=>
  exact xA (hi.2.2.1.2.1 _ (dN.meth_mem a1 hs)).2.1
 case _=>
  exact xA (hi.2.1.2 _ (dN.imp_mem a1 hs)).2.2
 case _=>exact nil
theorem uL {i:dN} {m:gA} {x:gN} {s out:List Int} (h:rT i m x) (hs:lM s) (ho:tS i m x s=some out):lM out/\out.length<=8/\(aI i m x).length<=s.length/\out.length=s.length - (aI i m x).length+hgt i m x:=by
 simp only [tS] at ho;split at ho
 ·cases ho
 rename_i hn
 split at ho
 ·rename_i hk
  cases ho;have hsub:lM (s.drop (s.length - (aI i m x).length)):=λk hk=>hs k (List.mem_of_mem_drop hk);have hlen:(s.drop (s.length - (aI i m x).length)).length=(aI i m x).length:=by rw [List.length_drop];omega
  refine ⟨λk hk'=>?_,?_,by omega,?_⟩
  ·rcases List.mem_append.1 hk' with h1|h1
   ·exact hs k (List.mem_of_mem_take h1)
   ·exact TW h hsub hlen hk.1 k h1
  iterate 2
   ·rw [List.length_append,List.length_take,xX];omega
 ·cases ho
structure WF (m:gA) (s:St):Prop where
 l1:s.st.length=m.code.length
 l2:s.has.length=m.code.length
 l3:s.todo.length=m.code.length
 kd:∀ k,s.h k=true->lM (s.s k)/\(s.s k).length<=8
 no:∀ k,s.h k=false->s.s k=[]/\s.t k=false
def wt (s:St) (k:Nat):Nat:=(if s.t k then 1 else 0)+(if s.h k then 2*vJ (s.s k) else 20)
def msr (n:Nat) (s:St):Nat:=((List.range n).map (wt s)).sum
theorem UY {l:List Nat} {g:Nat->Nat} (h:∀ k∈l,f k<=g k):(l.map f).sum<=(l.map g).sum:=by
 induction l with
 | nil=>exact Nat.le_refl _
 | cons a l ih=>
  simp only [List.map_cons,List.sum_cons];have:=ih λk hk=>h k (List.mem_cons_of_mem _ hk);have:=h a List.mem_cons_self;omega
theorem aKe {l:List Nat} {g:Nat->Nat} (h:∀ k∈l,f k<=g k) {a:Nat} (ha:a∈l) (hl:f a < g a):(l.map f).sum < (l.map g).sum:=by
 induction l with
 | nil=>exact (List.not_mem_nil ha).elim
 | cons b l ih=>
  simp only [List.map_cons,List.sum_cons];have h1:=h b List.mem_cons_self;have h2:=UY λk hk=>h k (List.mem_cons_of_mem _ hk);rcases List.mem_cons.1 ha with rfl|ha
  ·omega
  ·have:=ih (λk hk=>h k (List.mem_cons_of_mem _ hk)) ha;omega
structure UQ (m:gA) (s s':St):Prop where
 has:∀ k,s.h k=true->s'.h k=true
 len:∀ k,s.h k=true->(s'.s k).length=(s.s k).length
 same:∀ k,s'.t k=false->s.h k=true->s'.s k=s.s k
 new:∀ k,s'.t k=false->s'.h k=true->s.h k=true
 wt:∀ k,k < m.code.length->wt s' k<=wt s k
 todo:∀ k,s.t k=true->s'.t k=true
theorem UQ.refl (m:gA) (s:St):UQ m s s:=⟨λ_ h=>h,λ_ _=>rfl,λ_ _ _=>rfl,λ_ _ h=>h,λ_ _=>Nat.le_refl _,λ_ h=>h⟩
theorem UQ.trans {m:gA} {a b c:St} (h:UQ m a b) (k:UQ m b c):UQ m a c where
 has q hq:=k.has q (h.has q hq)
 len q hq:=(k.len q (h.has q hq)).trans (h.len q hq)
 same q h1 h2:=by
  have hb:b.t q=false:=by cases hb:b.t q with
   | false=>rfl
   | true=>rw [k.todo q hb] at h1;cases h1
  exact (k.same q h1 (h.has q h2)).trans (h.same q hb h2)
 new q h1 h2:=by
  have hb:b.t q=false:=by cases hb:b.t q with
   | false=>rfl
   | true=>rw [k.todo q hb] at h1;cases h1
  exact h.new q hb (k.new q h1 h2)
 wt q hq:=Nat.le_trans (k.wt q hq) (h.wt q hq)
 todo q hq:=k.todo q (h.todo q hq)
theorem QA {m:gA} {s s':St} (hw:WF m s) (h0:0<=to) (hs:lM stack) (hl:stack.length<=8) (h:lC m.code.length s to stack=some s') :
  WF m s'/\UQ m s s'/\to < m.code.length/\s'.h to.toNat=true/\(s'.s to.toNat).length=stack.length:=by
 unfold lC at h;split at h
 ·cases h
 rename_i hto
 obtain ⟨k,rfl⟩:∃ k:Nat,to=k:=⟨to.toNat,by omega⟩;simp only [Int.toNat_natCast] at h ⊢;have hk:k < m.code.length:=by omega
 obtain ⟨w1,w2,w3,w4,w5⟩:=hw;split at h
 ·rename_i hh
  obtain ⟨j,hj,h⟩:=Option.bind_eq_some_iff.1 h;obtain ⟨c1,c2⟩:=w4 k hh;obtain ⟨j1,j2,j3,j4⟩:=GC c1 hs hj;have j5:=(uI hj).2;split at h
  ·rename_i he
   cases h;exact ⟨⟨w1,w2,w3,w4,w5⟩,UQ.refl _ _,by omega,hh,by rw [<- he];exact j5⟩
  ·rename_i hne
   cases h;have j3:vJ j < vJ (s.s k):=j3.resolve_left hne
   have eS:∀ q,St.s { s with st:=s.st.set k j,todo:=s.todo.set k true } q=if q=k then j else s.s q:=λq=>by
    simp only [St.s,jI];by_cases hq:q=k
    ·rw [if_pos ⟨hq,by omega⟩,if_pos hq]
    ·rw [if_neg (λh=>hq h.1),if_neg hq]
   have eT:∀ q,St.t { s with st:=s.st.set k j,todo:=s.todo.set k true } q=if q=k then true else s.t q:=λq=>by
    simp only [St.t,jI];by_cases hq:q=k
    ·rw [if_pos ⟨hq,by omega⟩,if_pos hq]
    ·rw [if_neg (λh=>hq h.1),if_neg hq]
   have eH:∀ q,St.h { s with st:=s.st.set k j,todo:=s.todo.set k true } q=s.h q:=λq=>rfl;refine ⟨⟨by simpa using w1,w2,by simpa using w3,λq hq=>?_,λq hq=>?_⟩,⟨λq hq=>hq,λq hq=>?_,λq h1 h2=>?_,λq _ h2=>h2,λq hq=>?_,λq hq=>?_⟩,by omega,hh,?_⟩
   ·rw [eS];by_cases hqk:q=k
    ·rw [if_pos hqk];exact ⟨j1,by omega⟩
    ·rw [if_neg hqk];exact w4 q hq
   ·have hqk:q≠k:=λe=>by subst e;rw [eH] at hq;rw [hh] at hq;cases hq
    rw [eS,eT,if_neg hqk,if_neg hqk];exact w5 q hq
   ·rw [eS];by_cases hqk:q=k
    ·rw [if_pos hqk,hqk];exact j2
    ·rw [if_neg hqk]
   ·rw [eT] at h1;by_cases hqk:q=k
    ·rw [if_pos hqk] at h1;cases h1
    ·rw [eS,if_neg hqk]
   ·unfold wt;rw [eS,eT,eH];by_cases hqk:q=k
    ·subst hqk;rw [if_pos rfl,if_pos rfl];simp only [hh,if_true];split<;>omega
    ·rw [if_neg hqk,if_neg hqk];exact Nat.le_refl _
   ·rw [eT];by_cases hqk:q=k
    ·rw [if_pos hqk]
    ·rw [if_neg hqk];exact hq
   ·rw [eS,if_pos rfl];exact j5
 ·rename_i hh
  have hh:s.h k=false:=by simpa using hh
  cases h
  have eS:∀ q,St.s ⟨s.st.set k stack,s.has.set k true,s.todo.set k true⟩ q=if q=k then stack else s.s q:=λq=>by
   simp only [St.s,jI];by_cases hq:q=k
   ·rw [if_pos ⟨hq,by omega⟩,if_pos hq]
   ·rw [if_neg (λh=>hq h.1),if_neg hq]
  have eT:∀ q,St.t ⟨s.st.set k stack,s.has.set k true,s.todo.set k true⟩ q=if q=k then true else s.t q:=λq=>by
   simp only [St.t,jI];by_cases hq:q=k
   ·rw [if_pos ⟨hq,by omega⟩,if_pos hq]
   ·rw [if_neg (λh=>hq h.1),if_neg hq]
  have eH:∀ q,St.h ⟨s.st.set k stack,s.has.set k true,s.todo.set k true⟩ q=if q=k then true else s.h q:=λq=>by
   simp only [St.h,jI];by_cases hq:q=k
   ·rw [if_pos ⟨hq,by omega⟩,if_pos hq]
   ·rw [if_neg (λh=>hq h.1),if_neg hq]
  refine ⟨⟨by simpa using w1,by simpa using w2,by simpa using w3,λq hq=>?_,λq hq=>?_⟩,⟨λq hq=>?_,λq hq=>?_,λq h1 h2=>?_,λq h1 h2=>?_,λq hq=>?_,λq hq=>?_⟩,by omega,?_,?_⟩
  ·rw [eS];by_cases hqk:q=k
   ·rw [if_pos hqk];exact ⟨hs,hl⟩
   ·rw [if_neg hqk];rw [eH,if_neg hqk] at hq;exact w4 q hq
  ·rw [eH] at hq;by_cases hqk:q=k
   ·rw [if_pos hqk] at hq;cases hq
   ·rw [if_neg hqk] at hq;rw [eS,eT,if_neg hqk,if_neg hqk];exact w5 q hq
  ·rw [eH];split
   ·rfl
   ·exact hq
  ·have hqk:q≠k:=λe=>by subst e;rw [hh] at hq;cases hq
   rw [eS,if_neg hqk]
  ·have hqk:q≠k:=λe=>by subst e;rw [hh] at h2;cases h2
   rw [eS,if_neg hqk]
  ·have hqk:q≠k:=λe=>by rw [eT,if_pos e] at h1;cases h1
   rw [eH,if_neg hqk] at h2;exact h2
  ·unfold wt;rw [eS,eT,eH];by_cases hqk:q=k
   ·subst hqk;rw [if_pos rfl,if_pos rfl,if_pos rfl];have:=aBm stack;simp only [hh,if_true,Bool.false_eq_true,if_false];omega
   ·rw [if_neg hqk,if_neg hqk,if_neg hqk];exact Nat.le_refl _
  ·rw [eT];split
   ·rfl
   ·exact hq
  ·rw [eH,if_pos rfl]
  ·rw [eS,if_pos rfl]
theorem oZ {m:gA} {stack:List Int} (hs:lM stack) (hl:stack.length<=8):∀ {l:List Int} {s s':St},WF m s->(∀ to∈l,0<=to)->kB m.code.length stack l s=some s' ->
  WF m s'/\UQ m s s'/\∀ to∈l,to < m.code.length/\s'.h to.toNat=true/\(s'.s to.toNat).length=stack.length
 | [],s,s',hw,_,h=>by cases h;exact ⟨hw,UQ.refl _ _,λ_ h=>(List.not_mem_nil h).elim⟩
 | to::l,s,s',hw,h0,h=>by
  simp only [kB,Option.bind_eq_some_iff] at h;obtain ⟨s1,h1,h2⟩:=h;obtain ⟨a1,a2,a3,a4,a5⟩:=QA hw (h0 to (by simp)) hs hl h1;obtain ⟨b1,b2,b3⟩:=oZ hs hl a1 (λq hq=>h0 q (by simp [hq])) h2;refine ⟨b1,a2.trans b2,λq hq=>?_⟩;rcases List.mem_cons.1 hq with rfl|hq
  ·exact ⟨a3,b2.has _ a4,(b2.len _ a4).trans a5⟩
  ·exact b3 q hq
def Led (i:dN) (m:gA) (s:St) (k:Nat):Prop:=∃ out,tS i m (m.ins k) (s.s k)=some out/\∀ to∈fK (m.ins k) k,0<=to/\to < m.code.length/\s.h to.toNat=true/\(s.s to.toNat).length=out.length
def OJ (i:dN) (m:gA) (s:St):Prop:=s.h 0=true/\s.s 0=[]/\∀ k,s.h k=true->s.t k=false->Led i m s k
theorem xK {i:dN} {m:gA} {x:gN} (h:rT i m x):∀ to∈fK x pc,0<=to:=by
 obtain ⟨_,_,hx,_⟩:=h;obtain ⟨op,a,b⟩:=x;intro to ht;unfold fK at ht;dsimp only at ht;have h1:(zO op).1<=a:=hx.2.1;split at ht
 ·rename_i e;subst e;rw [List.mem_singleton] at ht;subst ht;exact h1
 split at ht
 ·rename_i e;subst e
  rcases List.mem_cons.1 ht with rfl|ht
  ·omega
  ·rw [List.mem_singleton] at ht;subst ht;exact h1
 split at ht
 ·exact (List.not_mem_nil ht).elim
 ·rw [List.mem_singleton] at ht;subst ht;omega
theorem vU {m:gA} {k:Nat} (h:k < m.code.length):m.ins k∈m.code:=by
 unfold gA.ins;rw [List.getD_eq_getElem?_getD,List.getElem?_eq_getElem h];exact List.getElem_mem h
theorem sY {i:dN} {m:gA} {s s':St} (hx:∀ x∈m.code,rT i m x) (hw:WF m s) (hi:OJ i m s) (hf:kU s.todo=some pc) (h:oR i m s pc=some s') :
  WF m s'/\OJ i m s'/\msr m.code.length s' < msr m.code.length s:=by
 obtain ⟨f1,_⟩:=oK hf;have hpc:pc < m.code.length:=by have:=pV f1;have:=hw.l3;omega
 have hh:s.h pc=true:=by
  cases e:s.h pc with
  | true=>rfl
  | false=>have:=(hw.no pc e).2;rw [St.t,f1] at this;cases this
 simp only [oR,Option.bind_eq_some_iff] at h;obtain ⟨stack,hd,hg⟩:=h;have ox:=hx _ (vU hpc);obtain ⟨d1,d2,_,_⟩:=uL ox (hw.kd pc hh).1 hd
 have eT:∀ q,St.t { s with todo:=s.todo.set pc false } q=if q=pc then false else s.t q:=λq=>by
  simp only [St.t,jI];by_cases hq:q=pc
  ·rw [if_pos ⟨hq,by have:=hw.l3;omega⟩,if_pos hq]
  ·rw [if_neg (λh=>hq h.1),if_neg hq]
 have hw1:WF m { s with todo:=s.todo.set pc false }:=⟨hw.l1,hw.l2,by simpa using hw.l3,hw.kd,λq hq=>⟨(hw.no q hq).1,by rw [eT];split;rfl;exact (hw.no q hq).2⟩⟩;obtain ⟨g1,g2,g3⟩:=oZ d1 d2 hw1 (xK ox) hg;refine ⟨g1,⟨g2.has 0 hi.1,?_,λk h1 h2=>?_⟩,?_⟩
 ·have:=g2.len 0 hi.1;have e0:St.s { s with todo:=s.todo.set pc false } 0=[]:=hi.2.1;rw [e0] at this;exact List.eq_nil_of_length_eq_zero this
 ·have h3:s.h k=true:=g2.new k h2 h1;have h4:s'.s k=s.s k:=g2.same k h2 h3;by_cases hk:k=pc
  ·subst hk;exact ⟨stack,by rw [h4];exact hd,λto ht=>⟨xK ox to ht,g3 to ht⟩⟩
  ·have h5:s.t k=false:=by
    cases e:s.t k with
    | false=>rfl
    | true=>have:=g2.todo k (by rw [eT,if_neg hk];exact e);rw [this] at h2;cases h2
   obtain ⟨out,o1,o2⟩:=hi.2.2 k h3 h5;refine ⟨out,by rw [h4];exact o1,λto ht=>?_⟩;obtain ⟨p1,p2,p3,p4⟩:=o2 to ht;exact ⟨p1,p2,g2.has _ p3,(g2.len _ p3).trans p4⟩
 ·refine Nat.lt_of_le_of_lt (UY (g:=wt { s with todo:=s.todo.set pc false }) λk hk=>g2.wt k (List.mem_range.1 hk)) ?_;refine aKe (λk _=>?_) (List.mem_range.2 hpc) ?_
  ·unfold wt;rw [eT];by_cases hk:k=pc
   ·rw [if_pos hk];exact Nat.add_le_add (by simp) (Nat.le_refl _)
   ·rw [if_neg hk];exact Nat.le_refl _
  ·unfold wt;rw [eT,if_pos rfl];have e:s.t pc=true:=f1;rw [e];exact Nat.add_lt_add_of_lt_of_le (by simp) (Nat.le_refl _)
theorem tQ {i:dN} {m:gA} (h:1<=m.code.length):WF m (St.first m.code.length)/\OJ i m (St.first m.code.length):=by
 have eH:∀ q,(St.first m.code.length).h q=decide (q=0):=λq=>by
  simp only [St.first,St.h,jI];by_cases hq:q=0
  ·rw [if_pos ⟨hq,by simp;omega⟩];simp [hq]
  ·rw [if_neg (λh=>hq h.1)];simp only [hq,decide_false,List.getD_eq_getElem?_getD,List.getElem?_replicate];split<;>rfl
 have eT:∀ q,(St.first m.code.length).t q=decide (q=0):=eH
 have eS:∀ q,(St.first m.code.length).s q=[]:=λq=>by
  simp only [St.first,St.s,jI];split
  ·rfl
  ·simp only [List.getD_eq_getElem?_getD,List.getElem?_replicate];split<;>rfl
 refine ⟨⟨by simp [St.first],by simp [St.first],by simp [St.first],λk _=>?_,λk hk=>?_⟩,by rw [eH];rfl,eS 0,λk h1 h2=>?_⟩
 ·rw [eS];exact ⟨λ_ h=>(List.not_mem_nil h).elim,by simp⟩
 ·refine ⟨eS k,?_⟩;rw [eT,<- eH k];exact hk
 ·rw [eT] at h2;rw [eH] at h1;rw [h1] at h2;cases h2
theorem mA.ok {i:dN} {m:gA} (hx:∀ x∈m.code,rT i m x) {s:St} {r:Option St} (h:mA i m s r):∀ s',r=some s'->WF m s->OJ i m s->WF m s'/\OJ i m s'/\∀ k,s'.t k=false:=by
 induction h with
 | done h1=>intro s' he hw hi;cases he;exact ⟨hw,hi,vF h1⟩
 | fail _ _=>intro s' he;cases he
 | go h1 h2 _ ih=>
  intro s' he hw hi;obtain ⟨a,b,_⟩:=sY hx hw hi h1 h2;exact ih s' he a b
theorem lK.led {i:dN} {m:gA} {s:St} (hi:i.right) (hm:m.right) (h:lK i m (some s)):(∀ x∈m.code,rT i m x)/\WF m s/\s.h 0=true/\s.s 0=[]/\∀ k,s.h k=true->Led i m s k:=by
 rcases h with ⟨_,h⟩|⟨h1,h2⟩
 ·cases h
 have hx:∀ x∈m.code,rT i m x:=λx hx=>⟨hi,hm,hm.2.2.2.2 x hx,h1 x hx⟩;obtain ⟨a,b⟩:=tQ (i:=i) hm.2.2.2.1.1;obtain ⟨c,d,e⟩:=h2.ok hx s rfl a b;exact ⟨hx,c,d.1,d.2.1,λk hk=>d.2.2 k hk (e k)⟩
def mU (a b:List Int):Prop:=jB a b=some a
theorem MY (h:Kd a):nP a a=some a:=by
 obtain ⟨h1,h2⟩:=h;have e:a=1\/a=2\/a=3\/a=4:=by omega
 rcases e with rfl|rfl|rfl|rfl<;>decide
theorem XU {b:Int} (ha:Kd a) (hb:Kd b) (h:nP a b=some k):nP k a=some k/\nP k b=some k:=by
 obtain ⟨a1,a2⟩:=ha;obtain ⟨b1,b2⟩:=hb;have ea:a=1\/a=2\/a=3\/a=4:=by omega
 have eb:b=1\/b=2\/b=3\/b=4:=by omega
 rcases ea with rfl|rfl|rfl|rfl<;>rcases eb with rfl|rfl|rfl|rfl<;>simp [nP,fL,gC,nT] at h<;>subst h<;>decide
theorem GD {b c:Int} (ha:Kd a) (hb:Kd b) (hc:Kd c) (h:nP a b=some a) (k:nP b c=some b):nP a c=some a:=by
 obtain ⟨a1,a2⟩:=ha;obtain ⟨b1,b2⟩:=hb;obtain ⟨c1,c2⟩:=hc;have ea:a=1\/a=2\/a=3\/a=4:=by omega
 have eb:b=1\/b=2\/b=3\/b=4:=by omega
 have ec:c=1\/c=2\/c=3\/c=4:=by omega
 rcases ea with rfl|rfl|rfl|rfl<;>rcases eb with rfl|rfl|rfl|rfl<;>rcases ec with rfl|rfl|rfl|rfl<;>first|rfl|(revert h k;decide)
theorem lM.hd {l:List Int} (h:lM (a::l)):Kd a/\lM l:=⟨h a (by simp),λk hk=>h k (by simp [hk])⟩
theorem mU.refl:∀ {a:List Int},lM a->mU a a
 | [],_=>rfl
 | a::l,h=>by
  have:=mU.refl h.hd.2;unfold mU at *;simp [jB,MY h.hd.1,this]
theorem GA:∀ {a b j:List Int},lM a->lM b->jB a b=some j->mU j a/\mU j b
 | [],[],j,_,_,h=>by cases h;exact ⟨rfl,rfl⟩
 | [],_::_,_,_,_,h=>by cases h
 | _::_,[],_,_,_,h=>by cases h
 | x::a,y::b,j,ha,hb,h=>by
  simp only [jB,Option.bind_eq_some_iff,Option.map_eq_some_iff] at h;obtain ⟨k,hk,l,hl,rfl⟩:=h;obtain ⟨h1,h2⟩:=XU ha.hd.1 hb.hd.1 hk;obtain ⟨h3,h4⟩:=GA ha.hd.2 hb.hd.2 hl;unfold mU at *;simp [jB,h1,h2,h3,h4]
theorem mU.trans:∀ {a b c:List Int},lM a->lM b->lM c->mU a b->mU b c->mU a c
 | [],[],[],_,_,_,_,_=>rfl
 | [],[],_::_,_,_,_,_,k=>by cases k
 | [],_::_,_,_,_,_,h,_=>by cases h
 | _::_,[],_,_,_,_,h,_=>by cases h
 | _::_,_::_,[],_,_,_,_,k=>by cases k
 | x::a,y::b,z::c,ha,hb,hc,h,k=>by
  unfold mU at h k;simp only [jB,Option.bind_eq_some_iff,Option.map_eq_some_iff,List.cons.injEq] at h k;obtain ⟨k1,h1,l1,h2,rfl,rfl⟩:=h;obtain ⟨k2,h3,l2,h4,rfl,rfl⟩:=k;have t1:=GD ha.hd.1 hb.hd.1 hc.hd.1 h1 h3;have t2:=mU.trans ha.hd.2 hb.hd.2 hc.hd.2 h2 h4;unfold mU at t2 ⊢;simp [jB,t1,t2]
theorem mU.len {a b:List Int} (h:mU a b):b.length=a.length:=((uI h).2).symm
def Up (s s':St):Prop:=∀ k,s.h k=true->mU (s'.s k) (s.s k)
theorem aCq {m:gA} {s s':St} (hw:WF m s) (h0:0<=to) (hs:lM stack) (h:lC m.code.length s to stack=some s'):Up s s'/\mU (s'.s to.toNat) stack:=by
 unfold lC at h;split at h
 ·cases h
 rename_i hto
 obtain ⟨k,rfl⟩:∃ k:Nat,to=k:=⟨to.toNat,by omega⟩;simp only [Int.toNat_natCast] at h ⊢;have hk:k < m.code.length:=by omega
 obtain ⟨w1,w2,w3,w4,w5⟩:=hw;split at h
 ·rename_i hh
  obtain ⟨j,hj,h⟩:=Option.bind_eq_some_iff.1 h;obtain ⟨c1,c2⟩:=w4 k hh;obtain ⟨u1,u2⟩:=GA c1 hs hj;split at h
  ·rename_i he
   cases h;exact ⟨λq hq=>mU.refl (w4 q hq).1,he▸u2⟩
  ·cases h
   have eS:∀ q,St.s { s with st:=s.st.set k j,todo:=s.todo.set k true } q=if q=k then j else s.s q:=λq=>by
    simp only [St.s,jI];by_cases hq:q=k
    ·rw [if_pos ⟨hq,by omega⟩,if_pos hq]
    ·rw [if_neg (λh=>hq h.1),if_neg hq]
   refine ⟨λq hq=>?_,by rw [eS,if_pos rfl];exact u2⟩;rw [eS];by_cases hqk:q=k
   ·rw [if_pos hqk,hqk];exact u1
   ·rw [if_neg hqk];exact mU.refl (w4 q hq).1
 ·rename_i hh
  cases h
  have eS:∀ q,St.s ⟨s.st.set k stack,s.has.set k true,s.todo.set k true⟩ q=if q=k then stack else s.s q:=λq=>by
   simp only [St.s,jI];by_cases hq:q=k
   ·rw [if_pos ⟨hq,by omega⟩,if_pos hq]
   ·rw [if_neg (λh=>hq h.1),if_neg hq]
  refine ⟨λq hq=>?_,by rw [eS,if_pos rfl];exact mU.refl hs⟩;have hqk:q≠k:=λe=>hh (e▸hq);rw [eS,if_neg hqk];exact mU.refl (w4 q hq).1
theorem Up.trans {m:gA} {a b c:St} (h:Up a b) (k:Up b c) (hw:WF m a) (hb:WF m b) (hc:WF m c) (f:UQ m a b) (g:UQ m b c):Up a c:=λq hq=>
 (k q (f.has q hq)).trans (hc.kd q (g.has q (f.has q hq))).1 (hb.kd q (f.has q hq)).1 (hw.kd q hq).1 (h q hq)
theorem GN {m:gA} {stack:List Int} (hs:lM stack) (hl:stack.length<=8):∀ {l:List Int} {s s':St},WF m s->(∀ to∈l,0<=to)->kB m.code.length stack l s=some s' ->
  Up s s'/\∀ to∈l,mU (s'.s to.toNat) stack
 | [],s,s',hw,_,h=>by cases h;exact ⟨λq hq=>mU.refl (hw.kd q hq).1,λ_ h=>(List.not_mem_nil h).elim⟩
 | to::l,s,s',hw,h0,h=>by
  simp only [kB,Option.bind_eq_some_iff] at h;obtain ⟨s1,h1,h2⟩:=h;obtain ⟨a1,a2,a3,a4,a5⟩:=QA hw (h0 to (by simp)) hs hl h1;obtain ⟨b1,b2,b3⟩:=oZ hs hl a1 (λq hq=>h0 q (by simp [hq])) h2;obtain ⟨u1,u2⟩:=aCq hw (h0 to (by simp)) hs h1;obtain ⟨v1,v2⟩:=GN hs hl a1 (λq hq=>h0 q (by simp [hq])) h2;refine ⟨u1.trans v1 hw a1 b1 a2 b2,λq hq=>?_⟩;rcases List.mem_cons.1 hq with rfl|hq
  ·exact (v1 _ a4).trans (b1.kd _ (b2.has _ a4)).1 (a1.kd _ a4).1 hs u2
  ·exact v2 q hq
def aSo (i:dN) (m:gA) (s:St) (k:Nat):Prop:=∃ out,tS i m (m.ins k) (s.s k)=some out/\lM out/\∀ to∈fK (m.ins k) k,0<=to/\to < m.code.length/\s.h to.toNat=true/\mU (s.s to.toNat) out
def ZX (i:dN) (m:gA) (s:St):Prop:=∀ k,s.h k=true->s.t k=false->aSo i m s k
theorem aAw {i:dN} {m:gA} {s s':St} (hx:∀ x∈m.code,rT i m x) (hw:WF m s) (hi:OJ i m s) (hk:ZX i m s) (hf:kU s.todo=some pc) (h:oR i m s pc=some s'):ZX i m s':=by
 have hstep:=sY hx hw hi hf h;obtain ⟨f1,_⟩:=oK hf;have hpc:pc < m.code.length:=by have:=pV f1;have:=hw.l3;omega
 have hh:s.h pc=true:=by
  cases e:s.h pc with
  | true=>rfl
  | false=>have:=(hw.no pc e).2;rw [St.t,f1] at this;cases this
 simp only [oR,Option.bind_eq_some_iff] at h;obtain ⟨stack,hd,hg⟩:=h;have ox:=hx _ (vU hpc);obtain ⟨d1,d2,_,_⟩:=uL ox (hw.kd pc hh).1 hd
 have eT:∀ q,St.t { s with todo:=s.todo.set pc false } q=if q=pc then false else s.t q:=λq=>by
  simp only [St.t,jI];by_cases hq:q=pc
  ·rw [if_pos ⟨hq,by have:=hw.l3;omega⟩,if_pos hq]
  ·rw [if_neg (λh=>hq h.1),if_neg hq]
 have hw1:WF m { s with todo:=s.todo.set pc false }:=⟨hw.l1,hw.l2,by simpa using hw.l3,hw.kd,λq hq=>⟨(hw.no q hq).1,by rw [eT];split;rfl;exact (hw.no q hq).2⟩⟩;obtain ⟨g1,g2,g3⟩:=oZ d1 d2 hw1 (xK ox) hg;obtain ⟨u1,u2⟩:=GN d1 d2 hw1 (xK ox) hg;intro k h1 h2;have h3:s.h k=true:=g2.new k h2 h1;have h4:s'.s k=s.s k:=g2.same k h2 h3;by_cases hkp:k=pc
 ·subst hkp;exact ⟨stack,by rw [h4];exact hd,d1,λto ht=>⟨xK ox to ht,(g3 to ht).1,(g3 to ht).2.1,u2 to ht⟩⟩
 ·have h5:s.t k=false:=by
   cases e:s.t k with
   | false=>rfl
   | true=>have:=g2.todo k (by rw [eT,if_neg hkp];exact e);rw [this] at h2;cases h2
  obtain ⟨out,o1,ok,o2⟩:=hk k h3 h5;refine ⟨out,by rw [h4];exact o1,ok,λto ht=>?_⟩;obtain ⟨p1,p2,p3,p4⟩:=o2 to ht;exact ⟨p1,p2,g2.has _ p3,(u1 _ p3).trans (g1.kd _ (g2.has _ p3)).1 (hw.kd _ p3).1 ok p4⟩
theorem mA.up {i:dN} {m:gA} (hx:∀ x∈m.code,rT i m x) {s:St} {r:Option St} (h:mA i m s r):∀ s',r=some s'->WF m s->OJ i m s->ZX i m s->ZX i m s':=by
 induction h with
 | done h1=>intro s' he hw hi hk;cases he;exact hk
 | fail _ _=>intro s' he;cases he
 | go h1 h2 _ ih=>
  intro s' he hw hi hk;obtain ⟨a,b,_⟩:=sY hx hw hi h1 h2;exact ih s' he a b (aAw hx hw hi hk h1 h2)
theorem lK.flow {i:dN} {m:gA} {s:St} (hi:i.right) (hm:m.right) (h:lK i m (some s)):∀ k,s.h k=true->aSo i m s k:=by
 have hled:=h.led hi hm;rcases h with ⟨_,h⟩|⟨h1,h2⟩
 ·cases h
 obtain ⟨hx,_⟩:=hled;obtain ⟨a,b⟩:=tQ (i:=i) hm.2.2.2.1.1;obtain ⟨c,d,e⟩:=h2.ok hx s rfl a b
 have h0:ZX i m (St.first m.code.length):=λk h1 h2=>by
  have:(St.first m.code.length).h k=(St.first m.code.length).t k:=rfl;rw [this,h2] at h1;cases h1
 exact λk hk=>h2.up hx s rfl a b h0 k hk (e k)
end Go.Tc
namespace Go.Vc
theorem aTu {w:O} {C:O->Prop}:(∃ J:NP 0,J w/\∀ w':O,J w'->∀ _f:dT,C w')↔C w:=
 ⟨λ⟨_,h,k⟩=>k w h λ_=>undef,λh=>⟨λw'=>w'=w,rfl,λ_ e _=>e▸h⟩⟩
theorem aTt {a:Z} {w:O} {C:Z->O->Prop}:(∃ J:NP 1,J a w/\∀ (t:Z) (w':O),J t w'->∀ _f:dT,C t w')↔C a w:=
 ⟨λ⟨_,h,k⟩=>k a w h λ_=>undef,λh=>⟨λt w'=>t=a/\w'=w,⟨rfl,rfl⟩,λ_ _ e _=>e.1▸e.2▸h⟩⟩
theorem aTs {a b:Z} {w:O} {C:Z->Z->O->Prop}:(∃ J:NP 2,J a b w/\∀ (t u:Z) (w':O),J t u w'->∀ _f:dT,C t u w')↔C a b w:=
 ⟨λ⟨_,h,k⟩=>k a b w h λ_=>undef,λh=>⟨λt u w'=>t=a/\u=b/\w'=w,⟨rfl,rfl,rfl⟩,λ_ _ _ e _=>e.1▸e.2.1▸e.2.2▸h⟩⟩
theorem aLk {P:Program} {w:O} {K:Z->O->Prop} {t s f o ft sz:Nat} {v:Z} {n:Nat} {cs:List Z} {k:IntKind} {i:Int} {u:Z} (h:XA P t sz) (hf:FA P s f o) (hl:L1 P ft) (hs:aA w v sz n cs) (h0:0<=i) (h1:i < n)
  (hu:cs[i.toNat*sz+o]?=some u) (hk:K u w) :
  V P (Instr.indexAt t v (.int k i)) w λp w1=>V P (Instr.fieldAt s p f) w1 λq w2=>V P (Instr.loadAt ft q) w2 K:=by
 obtain ⟨e,z,b',hte,hi⟩:=h;obtain ⟨d,hd,ha⟩:=hl;obtain ⟨b,off,cap,rfl,hcell⟩:=hs.there (by omega);refine V.ok (iG hte hi h0 h1) (V.ok (hf.ex w b _) (V.ok (kH hd ha ?_) hk));have:=hcell _ _ hu;rw [<- Nat.add_assoc] at this;exact this
theorem aN:((¬True)=False)/\((¬False)=True)/\(∀ {α:Type} {a b:α},(a≠b)=¬(a=b))/\((false=true)=False)/\((!true)=false)/\((!false)=true)/\(∀ {h:Decidable True},@decide True h=true)/\(∀ {h:Decidable False},@decide False h=false)/\(∀ {α:Type} {h:Decidable True} {a b:α},(@ite α True h a b)=a)/\(∀ {α:Type} {h:Decidable False} {a b:α},(@ite α False h a b)=b)/\(∀ {P:Program} {w:O} {K:Z->O->Prop} {k:IntKind} {t:TypeId} {a b:Int},V P (binOp BinOp.lss t (Value.int k a) (Value.int k b)) w K↔K (Value.bool (decide (a < b))) w)/\(∀ {P:Program} {w:O} {K:Z->O->Prop} {k:IntKind} {t:TypeId} {a b:Int},V P (binOp BinOp.leq t (Value.int k a) (Value.int k b)) w K↔K (Value.bool (decide (a<=b))) w)/\(∀ {P:Program} {w:O} {K:Z->O->Prop} {k:IntKind} {t:TypeId} {a b:Int},V P (binOp BinOp.gtr t (Value.int k a) (Value.int k b)) w K↔K (Value.bool (decide (a > b))) w)/\(∀ {P:Program} {w:O} {K:Z->O->Prop} {k:IntKind} {t:TypeId} {a b:Int},V P (binOp BinOp.geq t (Value.int k a) (Value.int k b)) w K↔K (Value.bool (decide (a>=b))) w)/\(∀ {P:Program} {w:O} {K:Z->O->Prop} {k:IntKind} {t:TypeId} {x y:Operand} {a b:Int},V P (do eqGuard BinOp.eql t x y (Value.int k a) (Value.int k b);binOp BinOp.eql t (Value.int k a) (Value.int k b)) w K↔K (Value.bool (decide (a=b))) w)/\(∀ {P:Program} {w:O} {K:Z->O->Prop} {k:IntKind} {t:TypeId} {x y:Operand} {a b:Int},V P (do eqGuard BinOp.neq t x y (Value.int k a) (Value.int k b);binOp BinOp.neq t (Value.int k a) (Value.int k b)) w K↔K (Value.bool (decide (a≠b))) w)/\(∀ {P:Program} {w:O} {K:Z->O->Prop} {b:Bool},V P (Op.unary UnOp.not (Value.bool b)) w K↔K (Value.bool !b) w)/\(∀ {w:O} {K:Z->O->Prop} {step:(Z->O->Prop)->Prop},gd (Value.bool true) true step w K↔step K)/\(∀ {w:O} {K:Z->O->Prop} {step:(Z->O->Prop)->Prop},gd (Value.bool false) false step w K↔step K)/\(∀ {w:O} {K:Z->O->Prop} {step:(Z->O->Prop)->Prop},gd (Value.bool true) false step w K↔K undef w)/\(∀ {w:O} {K:Z->O->Prop} {step:(Z->O->Prop)->Prop},gd (Value.bool false) true step w K↔K undef w)/\(∀ {w:O} {K:Z->O->Prop} {want:Bool} {step:(Z->O->Prop)->Prop},gd undef want step w K↔K undef w)/\(∀ {step:(Z->Prop)->Prop} {L:Z->Prop},GP (Value.bool true) true step L↔step L)/\(∀ {step:(Z->Prop)->Prop} {L:Z->Prop},GP (Value.bool false) false step L↔step L)/\(∀ {step:(Z->Prop)->Prop} {L:Z->Prop},GP (Value.bool true) false step L↔L undef)/\(∀ {step:(Z->Prop)->Prop} {L:Z->Prop},GP (Value.bool false) true step L↔L undef)/\(∀ {want:Bool} {step:(Z->Prop)->Prop} {L:Z->Prop},GP undef want step L↔L undef)/\(∀ {b:Bool} {x y:Z} {L:Z->Prop},aG (Value.bool b) x y L↔L (if b=true then x else y))/\(∀ {x y:Prop},aH (Value.bool true) x y↔x)/\(∀ {x y:Prop},aH (Value.bool false) x y↔y)/\(∀ {w:O} {C:O->Prop},(∃ J:NP 0,J w/\∀ (w':O),J w'->∀ (_f:dT),C w')↔C w)/\(∀ {a:Z} {w:O} {C:Z->O->Prop},(∃ J:NP 1,J a w/\∀ (t:Z) (w':O),J t w'->∀ (_f:dT),C t w')↔C a w)/\∀ {a b:Z} {w:O} {C:Z->Z->O->Prop},(∃ J:NP 2,J a b w/\∀ (t u:Z) (w':O),J t u w'->∀ (_f:dT),C t u w')↔C a b w:=
  And.intro (not_true_eq_false) <| And.intro (not_false_eq_true) <| And.intro (λ{_ a b}=>ne_eq a b) <| And.intro (Bool.false_eq_true) <| And.intro (Bool.not_true) <| And.intro (Bool.not_false) <| And.intro (λ{_}=>decide_true _) <| And.intro (λ{_}=>decide_false _) <| And.intro (λ{_ _ _ _}=>if_pos trivial) <| And.intro (λ{_ _ _ _}=>if_neg id) <| And.intro @bP <| And.intro @rQ <| And.intro @jJ <| And.intro @jU <| And.intro @aO <| And.intro @dZ <| And.intro @gG <| And.intro @rJ <| And.intro @mK <| And.intro @yE <| And.intro @QC <| And.intro @yD <| And.intro @aRp <| And.intro @aRq <| And.intro @aMf <| And.intro @aMg <| And.intro @TX <| And.intro @bR <| And.intro @aS <| And.intro @aD <| And.intro @aTu <| And.intro @aTt @aTs
end Go.Vc
namespace Go.Proofs.YtgkkecladbmjkaaGreatDoor
open Tryz
open Go.Vc Go.Tc
variable {w:O} {K:Z->O->Prop}
variable {a k most:Int} {α:Type} {i sz:Nat} {x:gN} {φ:Prop} {w':O} {fv:Z}
theorem pT (h:K (.bool (gC k)) w):aB prog 147 #[i64 k] w K:=by
 apply aHg;unfold KQ;by_cases h1:k=3
 ·subst h1;simp only [aN];exact h
 ·by_cases h2:k=4
  ·subst h2;simp only [aN,Int.reduceEq];exact h
  ·simp only [h1,h2,aN];rwa [show gC k=false by simp [gC,h1,h2]] at h
theorem pS (h:K (.bool (fL k)) w):aB prog 148 #[i64 k] w K:=by
 apply aHf;unfold KP;by_cases h1:k=1
 ·subst h1;simp only [aN];exact h
 ·by_cases h2:k=2
  ·subst h2;simp only [aN,Int.reduceEq];exact h
  ·simp only [h1,h2,aN];rwa [show fL k=false by simp [fL,h1,h2]] at h
def xQ (k:Int):Bool:=k == 2||k == 4
theorem vT (h:K (.bool (xQ k)) w):aB prog 149 #[i64 k] w K:=by
 apply aHe;unfold KO;by_cases h1:k=2
 ·subst h1;simp only [aN];exact h
 ·by_cases h2:k=4
  ·subst h2;simp only [aN,Int.reduceEq];exact h
  ·simp only [h1,h2,aN];rwa [show xQ k=false by simp [xQ,h1,h2]] at h
theorem oW (h:K (.bool (gC k)) w):aB prog 259 #[i64 k] w K:=by
 apply aEd;unfold HS;by_cases h1:k=3
 ·subst h1;simp only [aN];exact h
 ·by_cases h2:k=4
  ·subst h2;simp only [aN,Int.reduceEq];exact h
  ·simp only [h1,h2,aN];rwa [show gC k=false by simp [gC,h1,h2]] at h
theorem tO (h:K (.bool (fL k)) w):aB prog 258 #[i64 k] w K:=by
 apply aEe;unfold HT;by_cases h1:k=1
 ·subst h1;simp only [aN];exact h
 ·by_cases h2:k=2
  ·subst h2;simp only [aN,Int.reduceEq];exact h
  ·simp only [h1,h2,aN];rwa [show fL k=false by simp [fL,h1,h2]] at h
theorem EJ (h:Kd k):k=1\/k=2\/k=3\/k=4:=by obtain ⟨h1,h2⟩:=h;omega
theorem vZ {b:Int} (h:K (i64 (nT a b)) w):aB prog 198 #[i64 a,i64 b] w K:=by
 apply aFv;unfold JH;by_cases h1:a=2
 ·subst h1;simp only [aN];simpa [nT] using h
 ·by_cases h2:b=2
  ·subst h2;simp only [h1,aN];simpa [nT] using h
  ·simp only [h1,h2,aN];simpa [nT,h1,h2] using h
theorem tU {b:Int} (h:K (i64 (nT a b)) w):aB prog 261 #[i64 a,i64 b] w K:=by
 apply aEb;unfold HQ;by_cases h1:a=2
 ·subst h1;simp only [aN];simpa [nT] using h
 ·by_cases h2:b=2
  ·subst h2;simp only [h1,aN];simpa [nT] using h
  ·simp only [h1,h2,aN];simpa [nT,h1,h2] using h
theorem aRd (h:K (i64 (ofK a)) w):aB prog 199 #[i64 a] w K:=by
 apply aFu;unfold JG;by_cases h1:a=3
 ·subst h1;simp only [aN,Int.reduceEq];exact h
 ·by_cases h2:a=4
  ·subst h2;simp only [aN,Int.reduceEq];exact h
  ·simp only [h1,h2,aN];simpa [ofK,h1,h2] using h
theorem aRc (h:K (i64 (ofK a)) w):aB prog 263 #[i64 a] w K:=by
 apply aDz;unfold HO;by_cases h1:a=3
 ·subst h1;simp only [aN,Int.reduceEq];exact h
 ·by_cases h2:a=4
  ·subst h2;simp only [aN,Int.reduceEq];exact h
  ·simp only [h1,h2,aN];simpa [ofK,h1,h2] using h
def aMi (f t:Int):Bool:=f == t||(f == 1&&t == 2)
theorem aCr {b:Int} (ha:Kd a) (hb:Kd b) (h:K (.bool (aMi a b)) w):aB prog 197 #[i64 a,i64 b] w K:=by
 apply aFw;unfold JI
 rcases EJ ha with rfl|rfl|rfl|rfl<;>rcases EJ hb with rfl|rfl|rfl|rfl <;>
  (repeat (first|simp only [aN,Int.reduceEq]|(refine pS ?_;simp only [fL,Int.reduceBEq,Bool.or_false,Bool.or_true])|(refine pT ?_;simp only [gC,Int.reduceBEq,Bool.or_false,Bool.or_true])|exact h))
def PP (a b:Int):Z:=match nP a b with
 | some k=>.tuple #[i64 k,.bool true]
 | none=>.tuple #[i64 0,.bool false]
theorem aCi {b:Int} (ha:Kd a) (hb:Kd b) (h:K (PP a b) w):aB prog 153 #[i64 a,i64 b] w K:=by
 apply aHa;unfold KK
 rcases EJ ha with rfl|rfl|rfl|rfl<;>rcases EJ hb with rfl|rfl|rfl|rfl <;>
  (repeat (first|simp only [aN,Int.reduceEq]|(refine pS ?_;simp only [fL,Int.reduceBEq,Bool.or_false,Bool.or_true])|(refine pT ?_;simp only [gC,Int.reduceBEq,Bool.or_false,Bool.or_true])|exact h))
theorem aCh {b:Int} (ha:Kd a) (hb:Kd b) (h:K (PP a b) w):aB prog 254 #[i64 a,i64 b] w K:=by
 apply aEi;unfold HX
 rcases EJ ha with rfl|rfl|rfl|rfl<;>rcases EJ hb with rfl|rfl|rfl|rfl <;>
  (repeat (first|simp only [aN,Int.reduceEq]|(refine tO ?_;simp only [fL,Int.reduceBEq,Bool.or_false,Bool.or_true])|(refine oW ?_;simp only [gC,Int.reduceBEq,Bool.or_false,Bool.or_true])|(refine tU ?_;simp only [nT,Int.reduceEq,or_self,or_true,or_false,reduceIte])|exact h))
def aRm (a b:Int):Int:=if fL a≠fL b\/(gC a=true/\a≠b) then 11 else if aMi a b then 0 else 12
theorem xR {b:Int} (ha:Kd a) (hb:Kd b) (h:K (i64 (aRm a b)) w):aB prog 151 #[i64 a,i64 b] w K:=by
 apply aHc;unfold KM
 rcases EJ ha with rfl|rfl|rfl|rfl<;>rcases EJ hb with rfl|rfl|rfl|rfl <;>
  (repeat (first|simp only [ZR,aN,Int.reduceEq,bne_self_eq_false,Bool.bne_false,Bool.bne_true]|(refine pS ?_;simp only [fL,Int.reduceBEq,Bool.or_false,Bool.or_true])|(refine pT ?_;simp only [gC,Int.reduceBEq,Bool.or_false,Bool.or_true])|(refine aCr ha hb ?_;simp only [aMi,Int.reduceBEq,Bool.or_false,Bool.or_true,Bool.and_true,Bool.and_false])|exact h))
def Ask (a:Int):Prop:=a=-1\/a=-2\/a=-3\/a=-4\/Kd a
theorem aCu (hk:Kd k) (ha:Ask a) (h:K (.bool (qA k a)) w):aB prog 257 #[i64 k,i64 a] w K:=by
 apply aEf;unfold HU
 have ha:a=-1\/a=-2\/a=-3\/a=-4\/a=1\/a=2\/a=3\/a=4:=by
  rcases ha with h|h|h|h|h
  iterate 4
   ·omega
  ·have:=EJ h;omega
 rcases EJ hk with rfl|rfl|rfl|rfl<;>rcases ha with rfl|rfl|rfl|rfl|rfl|rfl|rfl|rfl <;>
  (repeat (first|simp only [aN,Int.reduceEq,Int.reduceNeg]|(refine tO ?_;simp only [fL,Int.reduceBEq,Bool.or_false,Bool.or_true])|(refine oW ?_;simp only [gC,Int.reduceBEq,Bool.or_false,Bool.or_true])|exact h))
theorem VI (hk:Kd k) (ha:Ask a) (h:K (.bool (rV k a)) w):aB prog 260 #[i64 k,i64 a] w K:=by
 apply aEc;unfold HR
 have ha:a=-1\/a=-2\/a=-3\/a=-4\/a=1\/a=2\/a=3\/a=4:=by
  rcases ha with h|h|h|h|h
  iterate 4
   ·omega
  ·have:=EJ h;omega
 rcases EJ hk with rfl|rfl|rfl|rfl<;>rcases ha with rfl|rfl|rfl|rfl|rfl|rfl|rfl|rfl<;>(repeat (first|simp only [aN,Int.reduceEq,Int.reduceNeg]|exact h))
theorem sV {n lo hi:Int} (h:K (.bool (decide (lo<=n/\n<=hi))) w):aB prog 145 #[i64 n,i64 lo,i64 hi] w K:=by
 apply aHi;unfold KS;simp only [jU,ge_iff_le];by_cases h1:lo<=n
 ·simp only [h1,true_and,aN] at h ⊢;exact h
 ·simp only [h1,false_and,aN] at h ⊢;exact h
def FN (op:Int):Int:=if op=27 then 2 else if op=1\/op=2\/op=3\/op=23\/op=24\/op=25\/op=33\/op=34\/op=35\/op=36\/op=37\/op=38 then 1 else 0
theorem vL {op:Int} (h:1<=op/\op<=39):op=1\/op=2\/op=3\/op=4\/op=5\/op=6\/op=7\/op=8\/op=9\/op=10\/op=11\/op=12\/op=13\/op=14\/op=15\/op=16\/op=17\/op=18\/op=19\/op=20\/op=21\/op=22\/op=23\/op=24\/op=25\/op=26\/op=27\/op=28\/op=29\/op=30\/op=31\/op=32\/op=33\/op=34\/op=35\/op=36\/op=37\/op=38\/op=39:=by omega
theorem PF {op:Int} (ho:1<=op/\op<=39) (h:K (i64 (FN op)) w):aB prog 144 #[i64 op] w K:=by
 apply aHj;unfold KT;rcases vL ho with rfl|rfl|rfl|rfl|rfl|rfl|rfl|rfl|rfl|rfl|rfl|rfl|rfl|rfl|rfl|rfl|rfl|rfl|rfl|rfl|rfl|rfl|rfl|rfl|rfl|rfl|rfl|rfl|rfl|rfl|rfl|rfl|rfl|rfl|rfl|rfl|rfl|rfl|rfl<;>(simp only [aN,Int.reduceEq];exact h)
theorem TL {op:Int} (h:K (.tuple #[i64 (zO op).1,i64 (zO op).2]) w):aB prog 269 #[i64 op] w K:=by
 apply aDt;unfold HI;by_cases ho:op=1\/op=2\/op=3\/op=23\/op=24\/op=25\/op=27\/op=33\/op=34\/op=35\/op=36\/op=37\/op=38
 ·rcases ho with rfl|rfl|rfl|rfl|rfl|rfl|rfl|rfl|rfl|rfl|rfl|rfl|rfl<;>(simp only [aN,Int.reduceEq,Int.reduceNeg];exact h)
 ·simp only [not_or] at ho;obtain ⟨h1,h2,h3,h4,h5,h6,h7,h8,h9,h10,h11,h12,h13⟩:=ho;have e:zO op=(0,0):=by unfold zO;simp [*]
  rw [e] at h;simp only [h1,h2,h3,h4,h5,h6,h7,h8,h9,h10,h11,h12,h13,aN,Int.reduceNeg];exact h
def iJ (l:List gN):List Z:=l.flatMap λx=>[i64 x.op,i64 x.a,i64 x.b]
def lG (w:O) (v:Z) (l:List gN):Prop:=aA w v 3 l.length (iJ l)
theorem oD:∀ {l:List gN} {k:Nat} {x:gN},l[k]?=some x->((iJ l).drop (k*3)).take 3=[i64 x.op,i64 x.a,i64 x.b]
 | [],_,_,h=>by simp at h
 | y::l,0,x,h=>by simp at h;subst h;simp [iJ]
 | y::l,k+1,x,h=>by
  have:=oD (l:=l) (k:=k) (by simpa using h);simp only [iJ,List.flatMap_cons] at this ⊢;rw [show (k+1)*3=k*3+3 by omega,<- List.drop_drop];simpa [List.drop_append] using this
theorem lG.ext {w':O} {v:Z} {l:List gN} (h:lG w v l) (hx:aE w w'):lG w' v l:=aA.ext h hx
def eA {α:Type} (T:O->List Z->α->Prop) (sz:Nat) (w:O) (v:Z) (l:List α):Prop:=
 ∃ cs,aA w v sz l.length cs/\∀ (k:Nat) x,l[k]?=some x->∃ row,(cs.drop (k*sz)).take sz=row/\T w row x
theorem eA.ext {α:Type} {T:O->List Z->α->Prop} (hT:∀ {w w' row x},T w row x->aE w w'->T w' row x) {sz:Nat} {w':O} {v:Z} {l:List α} (h:eA T sz w v l) (hx:aE w w'):eA T sz w' v l:=by
 obtain ⟨cs,h1,h2⟩:=h;refine ⟨cs,h1.ext hx,λk x hk=>?_⟩;obtain ⟨row,h3,h4⟩:=h2 k x hk;exact ⟨row,h3,hT h4 hx⟩
def iO (w:O) (row:List Z) (m:gA):Prop:=∃ pv lv cv,row=[pv,i64 m.result,lv,cv]/\aQ w pv m.params/\aQ w lv m.locals/\lG w cv m.code
theorem iO.ext {w w':O} {row:List Z} {m:gA} (h:iO w row m) (hx:aE w w'):iO w' row m:=by
 obtain ⟨pv,lv,cv,h1,h2,h3,h4⟩:=h;exact ⟨pv,lv,cv,h1,h2.ext hx,h3.ext hx,h4.ext hx⟩
def oH (w:O) (row:List Z) (x:uO):Prop:=∃ pv,row=[.string x.name,i64 x.exp,pv,i64 x.result]/\aQ w pv x.params
theorem oH.ext {w w':O} {row:List Z} {x:uO} (h:oH w row x) (hx:aE w w'):oH w' row x:=by
 obtain ⟨pv,h1,h2⟩:=h;exact ⟨pv,h1,h2.ext hx⟩
def mI (w:O) (v:Z) (l:List gA):Prop:=eA iO 4 w v l
def nV (w:O) (v:Z) (l:List uO):Prop:=eA oH 4 w v l
theorem mI.ext {w':O} {v:Z} {l:List gA} (h:mI w v l) (hx:aE w w'):mI w' v l:=eA.ext (λh k=>h.ext k) h hx
theorem nV.ext {w':O} {v:Z} {l:List uO} (h:nV w v l) (hx:aE w w'):nV w' v l:=eA.ext (λh k=>h.ext k) h hx
structure fZ where
 fv:Z
 iv:Z
 mv:Z
 xv:Z
structure gZ (w:O) (p:fZ) (i:dN):Prop where
 fl:aQ w p.fv i.fields
 im:nV w p.iv i.imports
 mt:mI w p.mv i.methods
 ex:aQ w p.xv i.exports
def fZ.val (p:fZ) (i:dN):Z:=.agg #[.string i.name,p.fv,p.iv,p.mv,p.xv]
theorem gZ.ext {w':O} {p:fZ} {i:dN} (h:gZ w p i) (hx:aE w w'):gZ w' p i:=⟨h.fl.ext hx,h.im.ext hx,h.mt.ext hx,h.ex.ext hx⟩
theorem eA.sl {T:O->List Z->α->Prop} {v:Z} {l:List α} (h:eA T sz w v l):∃ cs,aA w v sz l.length cs:=⟨_,h.choose_spec.1⟩
theorem XP {T:O->List Z->α->Prop} {t x:TypeId} {v:Z} {l:List α} {e:α} (h:XA prog t sz) (ht:∃ d z by_,Program.underlying prog x=some d/\nG d=true/\fH prog x z sz by_) (hs:eA T sz w v l) (hi:l[i]?=some e) (hT:∀ w row e,T w row e->row.length=sz)
  (hk:∀ row,T w row e->K (.agg row.toArray) w):V prog (Instr.indexAt t v (i64 i)) w λp w1=>V prog (Instr.loadAt x p) w1 K:=by
 obtain ⟨cs,h1,h2⟩:=hs;obtain ⟨row,h3,h4⟩:=h2 i e hi;have hlt:i < l.length:=(List.getElem?_eq_some_iff.1 hi).1;exact aLl h ht h1 (by omega) (by omega) (by simpa using h3) (hT _ _ _ h4) (hk row h4)
theorem oI (w:O) (row:List Z) (m:gA) (h:iO w row m):row.length=4:=by obtain ⟨_,_,_,rfl,_⟩:=h;rfl
theorem vV (w:O) (row:List Z) (m:uO) (h:oH w row m):row.length=4:=by obtain ⟨_,rfl,_⟩:=h;rfl
theorem rI {T:O->List Z->α->Prop} {t s f o ft:Nat} {v:Z} {l:List α} {e:α} (h:XA prog t sz) (hf:FA prog s f o) (hl:L1 prog ft) (hs:eA T sz w v l) (hi:l[i]?=some e)
  (hk:∀ row,T w row e->∃ u,row[o]?=some u/\o < sz/\K u w):V prog (Instr.indexAt t v (i64 i)) w λp w1=>V prog (Instr.fieldAt s p f) w1 λq w2=>V prog (Instr.loadAt ft q) w2 K:=by
 obtain ⟨cs,h1,h2⟩:=hs;obtain ⟨row,h3,h4⟩:=h2 i e hi;have hlt:i < l.length:=(List.getElem?_eq_some_iff.1 hi).1;obtain ⟨u,hu,ho,hK⟩:=hk row h4;refine aLk h hf hl h1 (by omega) (by omega) ?_ hK;rw [<- h3,List.getElem?_take,if_pos ho,List.getElem?_drop] at hu;simpa using hu
theorem vS {T:O->List Z->α->Prop} {t ty:Nat} {v:Z} {l:List α} (h:XA prog t sz) (hs:eA T sz w v l) (hk:K (i64 l.length) w):V prog (Builtin.len_ #[t] ty #[v]) w K:=by
 obtain ⟨cs,h1,_⟩:=hs;exact hU h h1 hk
theorem ldI {v:Z} {l:List gN} (hs:lG w v l) (hi:l[i]?=some x) (hk:K (.agg #[i64 x.op,i64 x.a,i64 x.b]) w):V prog (Instr.indexAt 71 v (i64 i)) w λp w1=>V prog (Instr.loadAt 70 p) w1 K:=by
 have hlt:i < l.length:=(List.getElem?_eq_some_iff.1 hi).1;exact aLl iZ gU hs (by omega) (by omega) (l:=[i64 x.op,i64 x.a,i64 x.b]) (by simpa using oD hi) rfl hk
def nmL:List Z:=[.string { data:=#[] },.string { data:=#[112,117,115,104] },.string { data:=#[108,111,97,100] },.string { data:=#[115,116,111,114,101] },.string { data:=#[112,111,112] },.string { data:=#[100,117,112] },.string { data:=#[97,100,100] },.string { data:=#[115,117,98] },.string { data:=#[109,117,108] },.string { data:=#[97,110,100] },.string { data:=#[111,114] },.string { data:=#[120,111,114] },.string { data:=#[115,104,108] },.string { data:=#[115,104,114] },.string { data:=#[115,97,114] },.string { data:=#[110,101,103] },.string { data:=#[110,111,116] },.string { data:=#[100,105,118] },.string { data:=#[114,101,109] },.string { data:=#[101,113] },.string { data:=#[108,116] },.string { data:=#[98,101,108,111,119] },.string { data:=#[112,105,99,107] },.string { data:=#[106,117,109,112] },.string { data:=#[106,117,109,112,105,102] },.string { data:=#[110,117,108,108] },.string { data:=#[105,115,110,117,108,108] },.string { data:=#[110,101,119] },.string { data:=#[108,101,110] },.string { data:=#[103,101,116] },.string { data:=#[112,117,116] },.string { data:=#[99,111,112,121] },.string { data:=#[115,97,109,101] },.string { data:=#[103,101,116,102] },.string { data:=#[112,117,116,102] },.string { data:=#[98,117,102] },.string { data:=#[115,101,110,100] },.string { data:=#[99,97,108,108] },.string { data:=#[99,97,108,108,120] },.string { data:=#[114,101,116] }]
theorem XD (h:∀ v w',aA w' v 1 40 nmL->aE w w'->K v w'):aB prog 196 #[] w K:=by
 apply aFx;unfold JJ;exact iT LX nmL (by kernel_rfl) (by kernel_rfl) (by decide) (by kernel_rfl) λv w' ho hx=>h v w' (aA.of_own ho) hx
theorem aRe {op:Nat} (h1:1<=op) (h2:op<=39):∃ s:ByteArray,nmL[op]?=some (.string s)/\(s.toList == ({ data:=#[] }:ByteArray).toList)=false:=by
 have:∀ k:Fin 40,k.val=0\/(match nmL[k.val]? with|some (.string s)=>s.toList == ({ data:=#[] }:ByteArray).toList|_=>true)=false:=by decide +kernel
 rcases this ⟨op,by omega⟩ with h|h
 ·simp only at h;omega
 ·simp only at h;split at h
  ·rename_i s hs;exact ⟨s,hs,h⟩
  ·cases h
theorem aLa {op:Int} (h:∀ (s:ByteArray) w',((s.toList == ({ data:=#[] }:ByteArray).toList)=decide (¬ (1<=op/\op<=39)))->aE w w'->K (.string s) w'):aB prog 143 #[i64 op] w K:=by
 apply aHk;unfold KU;refine XD λv w1 hs x1=>?_;refine bP.2 ?_;by_cases h1:op < 1
 ·simp only [h1,aN];exact h _ _ (by simp;omega) x1
 ·simp only [h1,aN];refine hU US hs ?_;refine jU.2 ?_;by_cases h2:op>=((40:Nat):Int)
  ·simp only [h2,aN];exact h _ _ (by simp;omega) x1
  ·simp only [h2,aN];obtain ⟨k,rfl⟩:∃ k:Nat,op=k:=⟨op.toNat,by omega⟩;obtain ⟨s,hs1,hs2⟩:=aRe (op:=k) (by omega) (by omega);refine kP US qQ hs (by omega) (by omega) (by simpa using hs1) (h _ _ ?_ x1);rw [hs2];simp;omega
theorem aCg {lv:Z} {l:List Int} (hs:aQ w lv l) (h:∀ b,(b=true↔oC l most)->K (.bool b) w):aB prog 110 #[lv,i64 most] w K:=by
 apply aIk;unfold LU;refine ⟨λv w'=>∃ j:Nat,v=i64 j/\j<=l.length/\w'=w/\lM (l.take j),λv _=>l.length - (RowKit.intOf v).toNat,⟨0,rfl,Nat.zero_le _,rfl,λ_ h=>by simp at h⟩,?_⟩;rintro _ _ ⟨j,rfl,hj,rfl,hk⟩ _;have hno:∀ {k:Int},l[j]?=some k->¬ Kd k->K (.bool false) _:=λhk hn=>h false ⟨λh=>(by cases h),λhr=>absurd (hr.1 _ (List.mem_of_getElem? hk)) hn⟩
 have hcap:l.length<=maxLen:=by
  rcases hs.2 with ⟨_,h0⟩|⟨_,_,_,_,h1,h2,_⟩
  ·rw [h0];exact Nat.zero_le _
  ·omega
 refine hU aM hs (bP.2 (aK (λhlt=>?_) λhge=>?_))
 ·have hj':j < l.length:=by omega
  obtain ⟨k,hk1⟩:=fQ hj';refine kP aM aF hs (by omega) (by omega) (fD hk1) (bP.2 ?_);by_cases h1:k < 1
  ·simp only [h1,aN];exact hno hk1 λh=>by unfold Kd at h;omega
  ·simp only [h1,aN];refine kP aM aF hs (by omega) (by omega) (fD hk1) (jJ.2 ?_);by_cases h2:k > 4
   ·simp only [h2,aN];exact hno hk1 λh=>by unfold Kd at h;omega
   ·simp only [h2,aN];refine dS.2 ?_;rw [iF (by omega) (by unfold maxLen at hcap;omega),eI];refine ⟨⟨j+1,rfl,by omega,rfl,λq hq=>?_⟩,by simp only [aW];omega⟩;rw [List.take_add_one,hk1] at hq;rcases List.mem_append.1 hq with hq|hq
    ·exact hk q hq
    ·simp at hq;subst hq;exact ⟨by omega,by omega⟩
 ·have hjl:j=l.length:=by omega
  subst hjl;rw [List.take_length] at hk;refine hU aM hs (rQ.2 ?_);exact h _ (by simp [oC,hk])
theorem aBa (h:∀ b w',(b=true↔x.right)->aE w w'->K (.bool b) w'):aB prog 111 #[.agg #[i64 x.op,i64 x.a,i64 x.b]] w K:=by
 obtain ⟨op,a,b⟩:=x;apply aIj;unfold LS;refine bx λb1 w1 hb x1=>?_;refine bQ hb aT aF rfl ?_;refine aLa λs w2 hs x2=>?_;have hb:=hb.ext x2;have xx:=x1.trans x2;refine V.ok PB ?_;rw [hs];have no:∀ {w'},aE w w'->¬ gN.right ⟨op,a,b⟩->K (.bool false) w':=λhx hn=>h false _ ⟨λh=>(by cases h),λhr=>absurd hr hn⟩ hx;by_cases ho:1<=op/\op<=39
 ·simp only [ho,and_self,aN,Int.reduceNeg];refine bQ hb aT aF rfl (dZ.2 ?_);by_cases h27:op=27
  ·subst h27;simp only [aN,Int.reduceNeg];refine bQ hb aT aF rfl ?_;refine PF ho ?_;simp only [FN,aN,Int.reduceEq,Int.reduceNeg];refine bQ hb aT aF rfl ?_;simp only [aN,Int.reduceEq,Int.reduceNeg];refine bQ hb aR aF rfl ?_;refine sV ?_;by_cases ha:(3:Int)<=a/\a<=4
   ·simp only [ha,and_self,aN];refine bQ hb gJ aF rfl ?_;refine sV ?_;by_cases hb1:(0:Int)<=b/\b<=2
    ·simp only [hb1,and_self,aN];exact h true _ ⟨λ_=>⟨ho,ha.1,ha.2,.inl hb1⟩,λ_=>rfl⟩ xx
    ·simp only [hb1,aN];refine bQ hb gJ aF rfl ?_;refine sV ?_;refine h _ _ ⟨λhd=>⟨ho,ha.1,ha.2,.inr (of_decide_eq_true hd)⟩,λhr=>decide_eq_true (hr.2.2.2.resolve_left hb1)⟩ xx
   ·simp only [ha,aN];exact no xx λhr=>ha ⟨hr.2.1,hr.2.2.1⟩
  ·simp only [h27,aN,Int.reduceNeg];refine bQ hb gJ aF rfl (dZ.2 ?_)
   have hbr:gN.right ⟨op,a,b⟩->b=0:=λhr=>by
    have:=hr.2.2.2;dsimp only at this
    rwa [if_neg h27] at this
   by_cases hb0:b=0
   ·subst hb0;simp only [aN,Int.reduceNeg];refine bQ hb aT aF rfl ?_;refine PF ho (aO.2 ?_)
    have fin:∀ {lo hi:Int} {w'},zO op=(lo,hi)->aE w w'->K (.bool (decide (lo<=a/\a<=hi))) w':=λ{lo hi w'} hl hx=>by
     refine h _ _ ⟨λhd=>?_,λhr=>?_⟩ hx
     ·have:=of_decide_eq_true hd;refine ⟨ho,?_,?_,?_⟩
      ·rw [hl];exact this.1
      ·rw [hl];exact this.2
      ·dsimp only;rw [if_neg h27]
     ·have h1:=hr.2.1;have h2:=hr.2.2.1;rw [hl] at h1 h2;exact decide_eq_true ⟨h1,h2⟩
    by_cases hop:op=1\/op=2\/op=3\/op=23\/op=24\/op=25\/op=33\/op=34\/op=35\/op=36\/op=37\/op=38
    ·rcases hop with rfl|rfl|rfl|rfl|rfl|rfl|rfl|rfl|rfl|rfl|rfl|rfl <;>
      (simp only [FN,Int.reduceEq,or_self,or_true,or_false,aN,Int.reduceEq,Int.reduceNeg]
       refine bQ hb (by first|exact bO|exact cD|exact bB|exact cC|exact bV|exact bU|exact cG|exact cB|exact cF|exact bN|exact bI|exact bT|exact bG|exact bE|exact cA|exact bZ|exact bS|exact bK|exact bA|exact bD|exact bC|exact bM|exact cE|exact bL|exact cL|exact bY|exact cS|exact cR|exact cK|exact cQ|exact cP|exact cO|exact cJ|exact cI|exact cH|exact bX|exact cN|exact bW|exact cY|exact cX|exact cZ|exact dH|exact dG|exact dF|exact dM|exact dE|exact dD|exact dC|exact dL|exact dK|exact dJ|exact bH|exact dB|exact dQ|exact dA|exact dP|exact dY|exact cU|exact dO|exact dX|exact cW|exact cV|exact eQ|exact eO|exact eB|exact eM|exact eJ|exact fR|exact eE|exact dI|exact bF|exact fA|exact aT) (by first|exact eG|exact fO|exact eW|exact eV|exact eF|exact eY|exact fN|exact gF|exact gV|exact fM|exact aF) rfl ?_;simp only [aN,Int.reduceEq,Int.reduceNeg];refine bQ hb (by first|exact bO|exact cD|exact bB|exact cC|exact bV|exact bU|exact cG|exact cB|exact cF|exact bN|exact bI|exact bT|exact bG|exact bE|exact cA|exact bZ|exact bS|exact bK|exact bA|exact bD|exact bC|exact bM|exact cE|exact bL|exact cL|exact bY|exact cS|exact cR|exact cK|exact cQ|exact cP|exact cO|exact cJ|exact cI|exact cH|exact bX|exact cN|exact bW|exact cY|exact cX|exact cZ|exact dH|exact dG|exact dF|exact dM|exact dE|exact dD|exact dC|exact dL|exact dK|exact dJ|exact bH|exact dB|exact dQ|exact dA|exact dP|exact dY|exact cU|exact dO|exact dX|exact cW|exact cV|exact eQ|exact eO|exact eB|exact eM|exact eJ|exact fR|exact eE|exact dI|exact bF|exact fA|exact aT|exact aR) (by first|exact eG|exact fO|exact eW|exact eV|exact eF|exact eY|exact fN|exact gF|exact gV|exact fM|exact aF) rfl ?_
       exact sV (fin rfl xx))
    ·simp only [not_or] at hop;obtain ⟨n1,n2,n3,n4,n5,n6,n7,n8,n9,n10,n11,n12⟩:=hop;have e0:FN op=0:=by unfold FN;simp [*]
     have el:zO op=(0,0):=by unfold zO;simp [*]
     simp only [e0,aN,Int.reduceNeg];refine bQ hb aR aF rfl (dZ.2 ?_);by_cases ha:a=0
     ·subst ha;simp only [aN,Int.reduceNeg];refine bQ hb aT aF rfl ?_;simp only [n1,n2,n3,n4,n5,n6,n7,n8,n9,n10,n11,n12,h27,aN,Int.reduceNeg];have:=fin el xx;simpa using this
     ·simp only [ha,aN,Int.reduceNeg];refine no xx λhr=>ha ?_;have h1:=hr.2.1;have h2:=hr.2.2.1;rw [el] at h1 h2;dsimp only at h1 h2;omega
   ·simp only [hb0,aN,Int.reduceNeg];exact no xx λhr=>hb0 (hbr hr)
 ·simp only [ho,aN,Int.reduceNeg];exact no xx λhr=>ho hr.1
def eC (φ:Prop) (w:O) (v:Z) (w':O):Prop:=∃ b,v=.bool b/\(b=true↔φ)/\aE w w'
theorem eC.yes (h:φ) (hx:aE w w'):eC φ w (.bool true) w':=⟨true,rfl,⟨λ_=>h,λ_=>rfl⟩,hx⟩
theorem eC.no (h:¬ φ) (hx:aE w w'):eC φ w (.bool false) w':=⟨false,rfl,⟨λe=>(by cases e),λe=>absurd e h⟩,hx⟩
theorem ldP {t b:Nat} {u:Z} {cs:List Z} (hl:L1 prog t) (hb:fB w b cs) (hu:cs[0]?=some u) (hk:K u w):V prog (Instr.loadAt t (.pointer (some ⟨b,0,none⟩))) w K:=by
 obtain ⟨d,hd,ha⟩:=hl;exact V.ok (kH hd ha (by have:=hb 0 u hu;simpa using this)) hk
def DV (_:O) (row:List Z) (x:gN):Prop:=row=[i64 x.op,i64 x.a,i64 x.b]
theorem lG.strs {v:Z} {l:List gN} (h:lG w v l):eA DV 3 w v l:=⟨_,h,λ_ _ hk=>⟨_,oD hk,rfl⟩⟩
theorem PQ (w:O) (row:List Z) (x:gN) (h:DV w row x):row.length=3:=by cases h;rfl
theorem DV.ext {row:List Z} (h:DV w row x) (_:aE w w'):DV w' row x:=h
theorem wR {T:O->List Z->α->Prop} {v:Z} {l:List α} (h:eA T sz w v l):l.length<=maxLen:=by
 obtain ⟨cs,h,_⟩:=h;rcases h.2 with ⟨_,h0⟩|⟨_,_,_,_,h1,h2,_⟩
 ·rw [h0];exact Nat.zero_le _
 ·omega
theorem qR {v:Z} {l:List Int} (hs:aQ w v l):l.length<=maxLen:=by
 rcases hs.2 with ⟨_,h0⟩|⟨_,_,_,_,h1,h2,_⟩
 ·rw [h0];exact Nat.zero_le _
 ·omega
theorem aMb {lv:Z} {l:List Int} {q:Int->Prop} (hs:aQ w lv l) (hf:∀ x∈l,∀ w',aE w w'->qV prog fv #[i64 x] w' (eC (q x) w')) (hk:∀ r w',aE w w'->(0<=r↔∃ x∈l,q x)->K (i64 r) w') :
  aB prog 264 #[lv,fv] w K:=by
 apply aDy;unfold HN;have hcap:=qR hs;refine hU aM hs ?_;refine ⟨λv w'=>∃ j:Nat,v=i64 j/\j<=l.length/\aE w w'/\∀ x∈l.take j,¬ q x,λv _=>l.length - (RowKit.intOf v).toNat,⟨0,rfl,Nat.zero_le _,aE.refl _,λ_ h=>by simp at h⟩,?_⟩;rintro _ w1 ⟨j,rfl,hj,x1,hno⟩ _;refine bP.2 (aK (λhlt=>?_) λhge=>?_)
 ·obtain ⟨x,hx⟩:=fQ (l:=l) (j:=j) (by omega);refine kP aM aF (hs.ext x1) (by omega) (by omega) (fD hx) ?_;refine (hf x (List.mem_of_getElem? hx) w1 x1).mono λv w2 ⟨b,hv,hb,x2⟩=>?_;subst hv;cases b with
  | true=>rw [aS];exact hk _ _ (x1.trans x2) ⟨λ_=>⟨x,List.mem_of_getElem? hx,hb.1 rfl⟩,λ_=>by omega⟩
  | false=>
   rw [aD];refine dS.2 ?_;rw [iF (by omega) (by unfold maxLen at hcap;omega),eI];refine ⟨⟨j+1,rfl,by omega,x1.trans x2,λy hy=>?_⟩,by simp only [aW];omega⟩;rw [List.take_add_one,hx] at hy;rcases List.mem_append.1 hy with hy|hy
   ·exact hno y hy
   ·simp at hy;subst hy;exact λh=>by have:=hb.2 h;cases this
 ·have hjl:j=l.length:=by omega
  subst hjl;rw [List.take_length] at hno;exact hk _ _ x1 ⟨λh=>by omega,λ⟨x,h1,h2⟩=>absurd h2 (hno x h1)⟩
theorem aJm {lv:Z} {l:List Int} {q:Int->Prop} (hs:aQ w lv l) (hf:∀ x∈l,∀ w',aE w w'->qV prog fv #[i64 x] w' (eC (q x) w')):aB prog 243 #[lv,fv] w (eC (∃ x∈l,q x) w):=by
 apply aEt;unfold II;refine aMb hs hf λr w1 x1 hr=>jU.2 ?_;exact ⟨_,rfl,decide_eq_true_iff.trans hr,x1⟩
theorem BH (h:K (.bool (decide (Kd k))) w):aB prog 245 #[i64 k] w K:=by
 apply aEr;unfold IG;refine jU.2 ?_;unfold Kd at h;by_cases h1:k>=1
 ·have h1':1<=k:=h1;simp only [h1,true_and,aN] at h ⊢;exact h
 ·have h1':¬ 1<=k:=h1;simp only [h1,false_and,aN] at h ⊢;exact h
theorem uZ (h:K (.bool (decide (0<=k/\k<=4))) w):aB prog 248 #[i64 k] w K:=by
 apply aEo;unfold ID;by_cases h0:k=0
 ·subst h0;simp only [aN];exact h
 ·simp only [h0,aN];refine BH ?_;have e:(Kd k)↔(0<=k/\k<=4):=by unfold Kd;omega
  simp only [e];exact h
theorem tM {lv:Z} {l:List Int} (hs:aQ w lv l):aB prog 225 #[lv,i64 most] w (eC (oC l most) w):=by
 apply aFi;unfold IY;refine hU aM hs (rQ.2 ?_);by_cases h1:(l.length:Int)<=most
 ·simp only [h1,aN];refine (aJm (q:=λk=>¬ Kd k) hs λx _ w' _=>⟨_,_,rfl,?_⟩).mono λv w1 ⟨b,hv,hb,x1⟩=>?_
  ·show aB prog _ #[i64 x] w' _;apply aEs;unfold IH;refine BH (gG.2 ?_);exact ⟨_,rfl,by simp,aE.refl _⟩
  ·subst hv;refine gG.2 ⟨_,rfl,?_,x1⟩;unfold oC lM;rw [Bool.not_eq_true',Bool.eq_false_iff,ne_eq,hb];constructor
   ·intro h;exact ⟨λk hk=>Classical.byContradiction λhn=>h ⟨k,hk,hn⟩,h1⟩
   ·rintro ⟨h,_⟩ ⟨k,hk,hn⟩;exact hn (h k hk)
 ·simp only [h1,aN];exact eC.no (λh=>h1 h.2) (aE.refl _)
theorem GI {lv:Z} {l:List uO} {q:uO->Prop} (hs:eA oH 4 w lv l) (hf:∀ x∈l,∀ row w',oH w' row x->aE w w'->qV prog fv #[.agg row.toArray] w' (eC (q x) w')) (hk:∀ r w',aE w w'->(0<=r↔∃ x∈l,q x)->K (i64 r) w') :
  aB prog 265 #[lv,fv] w K:=by
 apply aDx;unfold HM;have hcap:=wR hs;refine vS lH hs ?_;refine ⟨λv w'=>∃ j:Nat,v=i64 j/\j<=l.length/\aE w w'/\∀ x∈l.take j,¬ q x,λv _=>l.length - (RowKit.intOf v).toNat,⟨0,rfl,Nat.zero_le _,aE.refl _,λ_ h=>by simp at h⟩,?_⟩;rintro _ w1 ⟨j,rfl,hj,x1,hno⟩ _;refine bP.2 (aK (λhlt=>?_) λhge=>?_)
 ·obtain ⟨x,hx⟩:=fQ (l:=l) (j:=j) (by omega);refine XP lH DI (eA.ext (λh k=>h.ext k) hs x1) hx vV λrow hrow=>?_;refine (hf x (List.mem_of_getElem? hx) row w1 hrow x1).mono λv w2 ⟨b,hv,hb,x2⟩=>?_;subst hv;cases b with
  | true=>rw [aS];exact hk _ _ (x1.trans x2) ⟨λ_=>⟨x,List.mem_of_getElem? hx,hb.1 rfl⟩,λ_=>by omega⟩
  | false=>
   rw [aD];refine dS.2 ?_;rw [iF (by omega) (by unfold maxLen at hcap;omega),eI];refine ⟨⟨j+1,rfl,by omega,x1.trans x2,λy hy=>?_⟩,by simp only [aW];omega⟩;rw [List.take_add_one,hx] at hy;rcases List.mem_append.1 hy with hy|hy
   ·exact hno y hy
   ·simp at hy;subst hy;exact λh=>by have:=hb.2 h;cases this
 ·have hjl:j=l.length:=by omega
  subst hjl;rw [List.take_length] at hno;exact hk _ _ x1 ⟨λh=>by omega,λ⟨x,h1,h2⟩=>absurd h2 (hno x h1)⟩
theorem UK {lv:Z} {l:List uO} {q:uO->Prop} {g:Nat} (hs:eA oH 4 w lv l) (hf:∀ x∈l,∀ row w',oH w' row x->aE w w'->aB prog g #[.agg row.toArray] w' (eC (q x) w')) :
  aB prog 226 #[lv,.func (.func g) #[] #[]] w (eC (∀ x∈l,q x) w):=by
 apply aFh;unfold IX;refine bx λb w1 hb x1=>fnK ?_;refine aB.mono (R:=eC (∃ x∈l,¬ q x) w1) ?_ λv w2 ⟨t,hv,ht,x2⟩=>?_
 ·apply aEq;unfold IF;refine GI (q:=λx=>¬ q x) (eA.ext (λh k=>h.ext k) hs x1) (λx hx row w2 hrow x2=>⟨_,_,rfl,?_⟩) λr w2 x2 hr=>jU.2 ⟨_,rfl,decide_eq_true_iff.trans hr,x2⟩;show aB prog _ #[.agg row.toArray,_] w2 _;apply aEp;unfold IE;refine bx λb2 w3 hb2 x3=>?_;refine ldP iX ((hb.ext x2).ext x3) rfl ?_;have hl:=vV w2 row x hrow;have hb2:fB w3 b2 row:=hb2;refine lF hb2 DI hl ?_;refine ⟨_,_,rfl,?_⟩;refine (hf x hx row w3 (hrow.ext x3) ((x1.trans x2).trans x3)).mono λv w4 ⟨t,hv,ht,x4⟩=>?_;subst hv;refine gG.2 ⟨_,rfl,?_,x3.trans x4⟩;rw [Bool.not_eq_true',Bool.eq_false_iff,ne_eq,ht]
 ·subst hv;refine gG.2 ⟨_,rfl,?_,x1.trans x2⟩;rw [Bool.not_eq_true',Bool.eq_false_iff,ne_eq,ht];constructor
  ·intro h x hx;exact Classical.byContradiction λhn=>h ⟨x,hx,hn⟩
  ·rintro h ⟨x,hx,hn⟩;exact hn (h x hx)
theorem GH {lv:Z} {l:List gA} {q:gA->Prop} (hs:eA iO 4 w lv l) (hf:∀ x∈l,∀ row w',iO w' row x->aE w w'->qV prog fv #[.agg row.toArray] w' (eC (q x) w')) (hk:∀ r w',aE w w'->(0<=r↔∃ x∈l,q x)->K (i64 r) w') :
  aB prog 266 #[lv,fv] w K:=by
 apply aDw;unfold HL;have hcap:=wR hs;refine vS iA hs ?_;refine ⟨λv w'=>∃ j:Nat,v=i64 j/\j<=l.length/\aE w w'/\∀ x∈l.take j,¬ q x,λv _=>l.length - (RowKit.intOf v).toNat,⟨0,rfl,Nat.zero_le _,aE.refl _,λ_ h=>by simp at h⟩,?_⟩;rintro _ w1 ⟨j,rfl,hj,x1,hno⟩ _;refine bP.2 (aK (λhlt=>?_) λhge=>?_)
 ·obtain ⟨x,hx⟩:=fQ (l:=l) (j:=j) (by omega);refine XP iA lV (eA.ext (λh k=>h.ext k) hs x1) hx oI λrow hrow=>?_;refine (hf x (List.mem_of_getElem? hx) row w1 hrow x1).mono λv w2 ⟨b,hv,hb,x2⟩=>?_;subst hv;cases b with
  | true=>rw [aS];exact hk _ _ (x1.trans x2) ⟨λ_=>⟨x,List.mem_of_getElem? hx,hb.1 rfl⟩,λ_=>by omega⟩
  | false=>
   rw [aD];refine dS.2 ?_;rw [iF (by omega) (by unfold maxLen at hcap;omega),eI];refine ⟨⟨j+1,rfl,by omega,x1.trans x2,λy hy=>?_⟩,by simp only [aW];omega⟩;rw [List.take_add_one,hx] at hy;rcases List.mem_append.1 hy with hy|hy
   ·exact hno y hy
   ·simp at hy;subst hy;exact λh=>by have:=hb.2 h;cases this
 ·have hjl:j=l.length:=by omega
  subst hjl;rw [List.take_length] at hno;exact hk _ _ x1 ⟨λh=>by omega,λ⟨x,h1,h2⟩=>absurd h2 (hno x h1)⟩
theorem UJ {lv:Z} {l:List gA} {q:gA->Prop} {g:Nat} (hs:eA iO 4 w lv l) (hf:∀ x∈l,∀ row w',iO w' row x->aE w w'->aB prog g #[.agg row.toArray] w' (eC (q x) w')) :
  aB prog 228 #[lv,.func (.func g) #[] #[]] w (eC (∀ x∈l,q x) w):=by
 apply aFf;unfold IW;refine bx λb w1 hb x1=>fnK ?_;refine aB.mono (R:=eC (∃ x∈l,¬ q x) w1) ?_ λv w2 ⟨t,hv,ht,x2⟩=>?_
 ·apply aEn;unfold IC;refine GH (q:=λx=>¬ q x) (eA.ext (λh k=>h.ext k) hs x1) (λx hx row w2 hrow x2=>⟨_,_,rfl,?_⟩) λr w2 x2 hr=>jU.2 ⟨_,rfl,decide_eq_true_iff.trans hr,x2⟩;show aB prog _ #[.agg row.toArray,_] w2 _;apply aEm;unfold IA;refine bx λb2 w3 hb2 x3=>?_;refine ldP iW ((hb.ext x2).ext x3) rfl ?_;have hl:=oI w2 row x hrow;have hb2:fB w3 b2 row:=hb2;refine lF hb2 lV hl ?_;refine ⟨_,_,rfl,?_⟩;refine (hf x hx row w3 (hrow.ext x3) ((x1.trans x2).trans x3)).mono λv w4 ⟨t,hv,ht,x4⟩=>?_;subst hv;refine gG.2 ⟨_,rfl,?_,x3.trans x4⟩;rw [Bool.not_eq_true',Bool.eq_false_iff,ne_eq,ht]
 ·subst hv;refine gG.2 ⟨_,rfl,?_,x1.trans x2⟩;rw [Bool.not_eq_true',Bool.eq_false_iff,ne_eq,ht];constructor
  ·intro h x hx;exact Classical.byContradiction λhn=>h ⟨x,hx,hn⟩
  ·rintro h ⟨x,hx,hn⟩;exact hn (h x hx)
theorem NI {lv:Z} {l:List gN} {q:gN->Prop} (hs:eA DV 3 w lv l) (hf:∀ x∈l,∀ row w',DV w' row x->aE w w'->qV prog fv #[.agg row.toArray] w' (eC (q x) w')) (hk:∀ r w',aE w w'->(0<=r↔∃ x∈l,q x)->K (i64 r) w') :
  aB prog 270 #[lv,fv] w K:=by
 apply aDs;unfold HH;have hcap:=wR hs;refine vS iZ hs ?_;refine ⟨λv w'=>∃ j:Nat,v=i64 j/\j<=l.length/\aE w w'/\∀ x∈l.take j,¬ q x,λv _=>l.length - (RowKit.intOf v).toNat,⟨0,rfl,Nat.zero_le _,aE.refl _,λ_ h=>by simp at h⟩,?_⟩;rintro _ w1 ⟨j,rfl,hj,x1,hno⟩ _;refine bP.2 (aK (λhlt=>?_) λhge=>?_)
 ·obtain ⟨x,hx⟩:=fQ (l:=l) (j:=j) (by omega);refine XP iZ gU (eA.ext (λh k=>h.ext k) hs x1) hx PQ λrow hrow=>?_;refine (hf x (List.mem_of_getElem? hx) row w1 hrow x1).mono λv w2 ⟨b,hv,hb,x2⟩=>?_;subst hv;cases b with
  | true=>rw [aS];exact hk _ _ (x1.trans x2) ⟨λ_=>⟨x,List.mem_of_getElem? hx,hb.1 rfl⟩,λ_=>by omega⟩
  | false=>
   rw [aD];refine dS.2 ?_;rw [iF (by omega) (by unfold maxLen at hcap;omega),eI];refine ⟨⟨j+1,rfl,by omega,x1.trans x2,λy hy=>?_⟩,by simp only [aW];omega⟩;rw [List.take_add_one,hx] at hy;rcases List.mem_append.1 hy with hy|hy
   ·exact hno y hy
   ·simp at hy;subst hy;exact λh=>by have:=hb.2 h;cases this
 ·have hjl:j=l.length:=by omega
  subst hjl;rw [List.take_length] at hno;exact hk _ _ x1 ⟨λh=>by omega,λ⟨x,h1,h2⟩=>absurd h2 (hno x h1)⟩
theorem ZG {lv:Z} {l:List gN} {q:gN->Prop} {g:Nat} (hs:eA DV 3 w lv l) (hf:∀ x∈l,∀ row w',DV w' row x->aE w w'->aB prog g #[.agg row.toArray] w' (eC (q x) w')) :
  aB prog 251 #[lv,.func (.func g) #[] #[]] w (eC (∀ x∈l,q x) w):=by
 apply aEl;unfold HZ;refine bx λb w1 hb x1=>fnK ?_;refine aB.mono (R:=eC (∃ x∈l,¬ q x) w1) ?_ λv w2 ⟨t,hv,ht,x2⟩=>?_
 ·apply aDv;unfold HK;refine NI (q:=λx=>¬ q x) (eA.ext (λh k=>h.ext k) hs x1) (λx hx row w2 hrow x2=>⟨_,_,rfl,?_⟩) λr w2 x2 hr=>jU.2 ⟨_,rfl,decide_eq_true_iff.trans hr,x2⟩;show aB prog _ #[.agg row.toArray,_] w2 _;apply aDu;unfold HJ;refine bx λb2 w3 hb2 x3=>?_;refine ldP fN ((hb.ext x2).ext x3) rfl ?_;have hl:=PQ w2 row x hrow;have hb2:fB w3 b2 row:=hb2;refine lF hb2 gU hl ?_;refine ⟨_,_,rfl,?_⟩;refine (hf x hx row w3 (hrow.ext x3) ((x1.trans x2).trans x3)).mono λv w4 ⟨t,hv,ht,x4⟩=>?_;subst hv;refine gG.2 ⟨_,rfl,?_,x3.trans x4⟩;rw [Bool.not_eq_true',Bool.eq_false_iff,ne_eq,ht]
 ·subst hv;refine gG.2 ⟨_,rfl,?_,x1.trans x2⟩;rw [Bool.not_eq_true',Bool.eq_false_iff,ne_eq,ht];constructor
  ·intro h x hx;exact Classical.byContradiction λhn=>h ⟨x,hx,hn⟩
  ·rintro h ⟨x,hx,hn⟩;exact hn (h x hx)
end Go.Proofs.YtgkkecladbmjkaaGreatDoor
namespace Go.Tc
def gN.rg (x:gN):Prop:=-9223372036854775808<=x.b/\x.b<=9223372036854775807
def dN.rg (i:dN):Prop:=∀ m∈i.methods,∀ x∈m.code,x.rg
theorem aDh {b:Int} (h0:0<=b) (h1:b<=9223372036854775807):IntKind.i64.wrap (BitVec.ofInt IntKind.i64.bits b &&& ~~~ BitVec.ofInt IntKind.i64.bits 4).toNat<=2↔(0<=b/\b<=2)\/(4<=b/\b<=6):=by
 obtain ⟨n,rfl⟩:∃ n:Nat,b=n:=⟨b.toNat,by omega⟩
 have e:(BitVec.ofInt IntKind.i64.bits (n:Int) &&& ~~~ BitVec.ofInt IntKind.i64.bits 4).toNat=n &&& 18446744073709551611:=by
  have hb:IntKind.i64.bits=64:=rfl;rw [BitVec.toNat_and,BitVec.toNat_not]
  have e1:(BitVec.ofInt IntKind.i64.bits (n:Int)).toNat=n:=by
   rw [hb,BitVec.ofInt_natCast,BitVec.toNat_ofNat];exact Nat.mod_eq_of_lt (by omega)
  have e2:(BitVec.ofInt IntKind.i64.bits 4).toNat=4:=by decide
  rw [e1,e2,hb]
 rw [e];have hle:n &&& 18446744073709551611<=n:=Nat.and_le_left
 have hw:IntKind.i64.wrap ((n &&& 18446744073709551611:Nat):Int)=((n &&& 18446744073709551611:Nat):Int):=by
  simp only [IntKind.wrap_i64];omega
 rw [hw];by_cases h8:n < 8
 ·have:n=0\/n=1\/n=2\/n=3\/n=4\/n=5\/n=6\/n=7:=by omega
  rcases this with rfl|rfl|rfl|rfl|rfl|rfl|rfl|rfl<;>decide
 ·have e3:(n &&& 18446744073709551611) >>> 3=n >>> 3:=by
   rw [Nat.shiftRight_and_distrib];have e4:18446744073709551611 >>> 3=2 ^ 61 - 1:=by decide
   rw [e4,Nat.and_two_pow_sub_one_eq_mod];refine Nat.mod_eq_of_lt ?_;rw [Nat.shiftRight_eq_div_pow];omega
  rw [Nat.shiftRight_eq_div_pow,Nat.shiftRight_eq_div_pow] at e3;constructor
  iterate 2
   ·intro h;omega
end Go.Tc
namespace Go.Proofs.YtgkkecladbmjkaaGreatDoor
open Tryz
open Go.Vc Go.Tc
variable {w:O} {K:Z->O->Prop}
variable {P:Program} {a:Int} {x:gN} {w':O} {m:gA} {i:dN} {p:fZ}
theorem FD {t:TypeId} {k:IntKind} {b:Int}:(binOp .andNot t (.int k a) (.int k b)).run P w=.ok (.int k (k.wrap (BitVec.ofInt k.bits a &&& ~~~ BitVec.ofInt k.bits b).toNat)) w:=by simp [binOp,Op.intBits]
theorem VX (hr:x.rg):aB prog 252 #[.agg #[i64 x.op,i64 x.a,i64 x.b]] w (eC x.right w):=by
 obtain ⟨op,a,b⟩:=x;apply aEk;suffices key:∀ R:Z->O->Prop,(∀ v w',eC (gN.right ⟨op,a,b⟩) w v w'->R v w')->yR (.agg #[i64 op,i64 a,i64 b]) w R from key _ λ_ _ h=>h;intro R hR;unfold yR;refine bx λb1 w1 hb x1=>?_;refine bQ hb aT aF rfl ?_;refine TL ?_;refine gM.2 (gL.2 ?_);have no:¬ gN.right ⟨op,a,b⟩->R (.bool false) w1:=λhn=>hR _ _ (eC.no hn x1);refine bQ hb aT aF rfl (bP.2 ?_);by_cases h1:op < 1
 ·simp only [h1,aN];exact no λh=>by have:=h.1.1;dsimp only at this;omega
 simp only [h1,aN];refine bQ hb aT aF rfl (jJ.2 ?_);by_cases h2:op > 39
 ·simp only [h2,aN];exact no λh=>by have:=h.1.2;dsimp only at this;omega
 simp only [h2,aN];refine bQ hb aR aF rfl (bP.2 ?_);by_cases h3:a < (zO op).1
 ·simp only [h3,aN];exact no λh=>by have:=h.2.1;dsimp only at this;omega
 simp only [h3,aN];refine bQ hb aR aF rfl (jJ.2 ?_);by_cases h4:a > (zO op).2
 ·simp only [h4,aN];exact no λh=>by have:=h.2.2.1;dsimp only at this;omega
 simp only [h4,aN];refine bQ hb aT aF rfl (aO.2 ?_);have base:(1<=op/\op<=39)/\(zO op).1<=a/\a<=(zO op).2:=⟨by omega,by omega,by omega⟩;by_cases h5:op=27
 ·simp only [h5,aN]
  have hright:gN.right ⟨op,a,b⟩↔(0<=b/\b<=2)\/(4<=b/\b<=6):=by
   unfold gN.right;dsimp only;rw [if_pos h5];exact ⟨λh=>h.2.2.2,λh=>⟨base.1,base.2.1,base.2.2,h⟩⟩
  refine bQ hb gJ aF rfl (jU.2 ?_);by_cases h6:b>=0
  ·simp only [h6,aN];refine bQ hb gJ aF rfl (V.ok FD (rQ.2 ?_));exact hR _ _ ⟨_,rfl,decide_eq_true_iff.trans ((aDh h6 hr.2).trans hright.symm),x1⟩
  ·simp only [h6,aN];exact no λh=>by rw [hright] at h;omega
 ·simp only [h5,aN];refine bQ hb gJ aF rfl (aO.2 ?_);refine hR _ _ ⟨_,rfl,decide_eq_true_iff.trans ?_,x1⟩;unfold gN.right;dsimp only;rw [if_neg h5];exact ⟨λh=>⟨base.1,base.2.1,base.2.2,h⟩,λh=>h.2.2.2⟩
def pY (w0:O) (nm:ByteArray):Prop:=∀ w,aE w0 w->aB prog 109 #[.string nm] w (eC True w)/\aB prog 224 #[.string nm] w (eC True w)/\nm.size<=16
def jL (w0:O) (i:dN):Prop:=pY w0 i.name/\∀ x∈i.imports,pY w0 x.name
theorem pY.ext {nm:ByteArray} (h:pY w nm) (hx:aE w w'):pY w' nm:=λw2 hx2=>h w2 (hx.trans hx2)
theorem jL.ext {w w':O} {i:dN} (h:jL w i) (hx:aE w w'):jL w' i:=⟨h.1.ext hx,λx hm=>(h.2 x hm).ext hx⟩
theorem eC.T {v:Z} (h:eC True w v w'):v=.bool true/\aE w w':=by
 obtain ⟨b,hv,hb,x⟩:=h;rw [hb.2 trivial] at hv;exact ⟨hv,x⟩
theorem TT {row:List Z} {x:uO} (hrow:oH w row x) (hn:pY w x.name):aB prog 227 #[.agg row.toArray] w (eC x.right w):=by
 obtain ⟨pv,rfl,hp⟩:=hrow;apply aFg;suffices key:∀ R:Z->O->Prop,(∀ v w',eC x.right w v w'->R v w')->yU (.agg [.string x.name,i64 x.exp,pv,i64 x.result].toArray) w R from key _ λ_ _ h=>h;intro R hR;unfold yU;refine bx λb1 w1 hb x1=>?_;refine bQ hb bS qQ rfl ?_;refine (hn w1 x1).2.1.mono λv w2 hv=>?_;obtain ⟨rfl,x2⟩:=hv.T;have hb:=hb.ext x2;have xx:=x1.trans x2;simp only [aN];refine bQ hb bK aF rfl (jU.2 ?_);by_cases h1:x.exp>=0
 case neg=>simp only [h1,aN];exact hR _ _ (eC.no (λh=>h1 h.1.1) xx)
 simp only [h1,aN];refine bQ hb bK aF rfl (bP.2 ?_);by_cases h2:x.exp < 4
 case neg=>simp only [h2,aN];exact hR _ _ (eC.no (λh=>h2 h.1.2) xx)
 simp only [h2,aN];refine bQ hb bA bJ rfl ?_;refine (tM (hp.ext xx)).mono λv w3 ⟨b,hv,hbk,x3⟩=>?_;subst hv;have hb:=hb.ext x3;have xx:=xx.trans x3;cases b with
 | false=>simp only [aN];exact hR _ _ (eC.no (λh=>by have:=hbk.2 h.2.1;cases this) xx)
 | true=>
  simp only [aN];refine bQ hb bD aF rfl (uZ ?_);exact hR _ _ ⟨_,rfl,decide_eq_true_iff.trans ⟨λh=>⟨⟨h1,h2⟩,hbk.1 rfl,h⟩,λh=>h.2.2⟩,xx⟩
theorem TI {row:List Z} (hrow:iO w row m) (hr:∀ x∈m.code,x.rg):aB prog 229 #[.agg row.toArray] w (eC m.right w):=by
 obtain ⟨pv,lv,cv,rfl,hp,hl,hc⟩:=hrow;have cp:=qR hp;apply aFe;suffices key:∀ R:Z->O->Prop,(∀ v w',eC m.right w v w'->R v w')->yT (.agg [pv,i64 m.result,lv,cv].toArray) w R from key _ λ_ _ h=>h;intro R hR;unfold yT;refine bx λb1 w1 hb x1=>?_;refine bQ hb dR bJ rfl ?_;refine (tM (hp.ext x1)).mono λv w2 ⟨b,hv,hk1,x2⟩=>?_;subst hv;have hb:=hb.ext x2;have xx:=x1.trans x2;cases b with
 | false=>simp only [aN];exact hR _ _ (eC.no (λh=>by have:=hk1.2 h.1;cases this) xx)
 | true=>
 simp only [aN];refine bQ hb eX aF rfl (uZ ?_);by_cases h2:0<=m.result/\m.result<=4
 case neg=>simp only [h2,aN];exact hR _ _ (eC.no (λh=>h2 h.2.1) xx)
 simp only [h2,and_self,aN];refine bQ hb gI bJ rfl ?_;refine bQ hb dR bJ rfl (hU aM (hp.ext xx) (iL.2 ?_));rw [iF (by unfold maxLen at cp;omega) (by omega)];refine (tM (hl.ext xx)).mono λv w3 ⟨b,hv,hk3,x3⟩=>?_;subst hv;have hb:=hb.ext x3;have xx:=xx.trans x3;cases b with
 | false=>simp only [aN];exact hR _ _ (eC.no (λh=>by have:=hk3.2 h.2.2.1;cases this) xx)
 | true=>
 simp only [aN];refine bQ hb dU fT rfl (hU iZ (hc.ext xx) (jU.2 ?_));by_cases h4:(m.code.length:Int)>=1
 case neg=>simp only [h4,aN];exact hR _ _ (eC.no (λh=>h4 (by have:=h.2.2.2.1.1;omega)) xx)
 simp only [h4,aN];refine bQ hb dU fT rfl (hU iZ (hc.ext xx) (rQ.2 ?_));by_cases h5:(m.code.length:Int)<=120
 case neg=>simp only [h5,aN];exact hR _ _ (eC.no (λh=>h5 (by have:=h.2.2.2.1.2;omega)) xx)
 simp only [h5,aN];refine bQ hb dU fT rfl ?_;refine (ZG (q:=λx=>x.right) (hc.ext xx).strs λx hx row w' hrow _=>?_).mono λv w4 ⟨b,hv,hk6,x4⟩=>?_
 ·cases hrow;exact VX (hr x hx)
 ·subst hv;refine hR _ _ ⟨b,rfl,?_,xx.trans x4⟩;rw [hk6];exact ⟨λh=>⟨hk1.1 rfl,h2,hk3.1 rfl,⟨by omega,by omega⟩,h⟩,λh=>h.2.2.2.2⟩
theorem aIu (h:1<=i.methods.length):i.methods[0]?=some (i.meth 0):=by
 unfold dN.meth;rw [Int.toNat_zero,List.getD_eq_getElem?_getD,List.getElem?_eq_getElem (by omega)];rfl
theorem VY (h:gZ w p i) (hr:i.rg) (hn:jL w i):aB prog 200 #[p.val i] w (eC i.right w):=by
 apply aFt;suffices key:∀ R:Z->O->Prop,(∀ v w',eC i.right w v w'->R v w')->zC (p.val i) w R from key _ λ_ _ h=>h;intro R hR;unfold zC fZ.val;refine bx λb1 w1 hb x1=>?_;refine bQ hb fR qQ rfl ?_;refine (hn.1 w1 x1).2.1.mono λv w2 hv=>?_;obtain ⟨rfl,x2⟩:=hv.T;have hb:=hb.ext x2;have xx:=x1.trans x2;simp only [aN];refine bQ hb eE bJ rfl ?_;refine (tM (h.ext xx).fl).mono λv w3 ⟨b,hv,hk1,x3⟩=>?_;subst hv;have hb:=hb.ext x3;have xx:=xx.trans x3;cases b with
 | false=>simp only [aN];exact hR _ _ (eC.no (λh=>by have:=hk1.2 h.1;cases this) xx)
 | true=>
 simp only [aN];refine bQ hb dI iB rfl (vS lH (h.ext xx).im (jJ.2 ?_));by_cases h2:(i.imports.length:Int) > 4
 ·simp only [h2,aN];exact hR _ _ (eC.no (λh=>by have:=h.2.1.1;omega) xx)
 simp only [h2,aN];refine bQ hb dI iB rfl ?_;refine (UK (q:=λx=>x.right) (h.ext xx).im λx hx row w' hrow xw=>TT hrow ((hn.2 x hx).ext (xx.trans xw))).mono λv w4 ⟨b,hv,hk3,x4⟩=>?_;subst hv;have hb:=hb.ext x4;have xx:=xx.trans x4;cases b with
 | false=>simp only [aN];exact hR _ _ (eC.no (λh=>by have:=hk3.2 h.2.1.2;cases this) xx)
 | true=>
 simp only [aN];refine bQ hb bF fS rfl (vS iA (h.ext xx).mt (bP.2 ?_));by_cases h4:(i.methods.length:Int) < 1
 ·simp only [h4,aN];exact hR _ _ (eC.no (λh=>by have:=h.2.2.1.1.1;omega) xx)
 simp only [h4,aN];refine bQ hb bF fS rfl (vS iA (h.ext xx).mt (jJ.2 ?_));by_cases h5:(i.methods.length:Int) > 8
 ·simp only [h5,aN];exact hR _ _ (eC.no (λh=>by have:=h.2.2.1.1.2;omega) xx)
 simp only [h5,aN];refine bQ hb bF fS rfl ?_;refine (UJ (q:=λx=>x.right) (h.ext xx).mt λx hx row w' hrow _=>TI hrow (hr x hx)).mono λv w5 ⟨b,hv,hk6,x5⟩=>?_;subst hv;have hb:=hb.ext x5;have xx:=xx.trans x5;cases b with
 | false=>simp only [aN];exact hR _ _ (eC.no (λh=>by have:=hk6.2 h.2.2.1.2.1;cases this) xx)
 | true=>
 simp only [aN];have h0:=aIu (i:=i) (by omega);refine bQ hb bF fS rfl ?_;refine rI (i:=0) iA dR bJ (h.ext xx).mt h0 λrow hrow=>?_;obtain ⟨pv,lv,cv,rfl,hp,_,_⟩:=hrow;refine ⟨pv,rfl,by decide,hU aM hp (jJ.2 ?_)⟩;by_cases h7:((i.meth 0).params.length:Int) > ((0:Nat):Int)
 ·have h7':((i.meth 0).params.length:Int) > 0:=h7;simp only [h7',aN];exact hR _ _ (eC.no (λh=>by rw [h.2.2.1.2.2.1] at h7;simp at h7) xx)
 have h7':¬ ((i.meth 0).params.length:Int) > 0:=h7;simp only [h7',aN];refine bQ hb bF fS rfl ?_;refine rI (i:=0) iA eX aF (h.ext xx).mt h0 λrow hrow=>?_;obtain ⟨pv,lv,cv,rfl,_,_,_⟩:=hrow;refine ⟨i64 (i.meth 0).result,rfl,by decide,dZ.2 ?_⟩;by_cases h8:(i.meth 0).result=0
 case neg=>simp only [h8,aN];exact hR _ _ (eC.no (λh=>h8 h.2.2.1.2.2.2) xx)
 simp only [h8,aN];refine bQ hb fA bJ rfl (hU aM (h.ext xx).ex (rQ.2 ?_));by_cases h9:(i.exports.length:Int)<=4
 case neg=>simp only [h9,aN];exact hR _ _ (eC.no (λh=>h9 (by have:=h.2.2.2.1;omega)) xx)
 simp only [h9,aN];refine bQ hb fA bJ rfl (fnK ?_)
 have fin:aB prog 230 #[p.xv,.func (.func 231) #[] #[.pointer (some ⟨b1,0,none⟩)]] w5 (eC (∀ n∈i.exports,0<=n/\n < (i.methods.length:Int)) w5):=by
  have hb5:=hb;have h5':=h.ext xx;apply aFd;unfold IV;refine bx λb2 w6 hb2 x6=>fnK ?_;refine (aJm (q:=λn=>¬ (0<=n/\n < (i.methods.length:Int))) (h5'.ext x6).ex λn _ w7 x7=>⟨_,_,rfl,?_⟩).mono λv w8 ⟨t,hv,ht,x8⟩=>?_
  ·show aB prog _ #[i64 n,_] w7 _;apply aEj;unfold HY;refine ldP fM (hb2.ext x7) rfl ?_;refine ⟨_,_,rfl,?_⟩;show aB prog _ #[i64 n,_] w7 _;apply aFc;suffices key:∀ R:Z->O->Prop,(∀ b,(b=true↔(0<=n/\n < (i.methods.length:Int)))->R (.bool b) w7)->yS (i64 n) (.pointer (some ⟨b1,0,none⟩)) w7 R from key _ λb hb=>gG.2 ⟨_,rfl,by rw [Bool.not_eq_true',Bool.eq_false_iff,ne_eq,hb],aE.refl _⟩;intro R hR;unfold yS;refine jU.2 ?_;by_cases hn0:n>=0
   ·simp only [hn0,aN];refine bQ ((hb5.ext x6).ext x7) bF fS rfl (vS iA ((h5'.ext x6).ext x7).mt (bP.2 ?_));exact hR _ (by simp;omega)
   ·simp only [hn0,aN];exact hR _ ⟨λh=>(by cases h),λh=>absurd h.1 hn0⟩
  ·subst hv;refine gG.2 ⟨_,rfl,?_,x6.trans x8⟩;rw [Bool.not_eq_true',Bool.eq_false_iff,ne_eq,ht];constructor
   ·intro hh x hx;exact Classical.byContradiction λhn=>hh ⟨x,hx,hn⟩
   ·rintro hh ⟨x,hx,hn⟩;exact hn (hh x hx)
 refine fin.mono λv w6 ⟨b,hv,hk,x6⟩=>?_;subst hv;refine hR _ _ ⟨b,rfl,?_,xx.trans x6⟩;rw [hk];exact ⟨λhh=>⟨hk1.1 rfl,⟨by omega,hk3.1 rfl⟩,⟨⟨by omega,by omega⟩,hk6.1 rfl,List.eq_nil_of_length_eq_zero (by omega),h8⟩,by omega,hh⟩,λhh=>hh.2.2.2.2⟩
theorem K53 {lv:Z} {l:List Int} {most:Int} (hs:aQ w lv l) (hk:∀ b,(b=true↔oC l most)->K (.bool b) w):aB prog 110 #[lv,i64 most] w K:=aCg hs hk
theorem aBb (h:gZ w p i) (hn:jL w i):aB prog 71 #[p.val i] w (eC i.right w):=by
 apply aOo;suffices key:∀ R:Z->O->Prop,(∀ v w',eC i.right w v w'->R v w')->EB (p.val i) w R from key _ λ_ _ h=>h;intro R hR;unfold EB fZ.val;refine bx λb1 w1 hb x1=>?_;refine bQ hb fR qQ rfl ?_;refine (hn.1 w1 x1).1.mono λv w2 hv=>?_;obtain ⟨rfl,x2⟩:=hv.T;have hb:=hb.ext x2;have xx:=x1.trans x2;simp only [aN];have no:∀ {w'},aE w2 w'->¬ i.right->R (.bool false) w':=λhx hn=>hR _ _ (eC.no hn (xx.trans hx));refine bQ hb eE bJ rfl (K53 (h.ext xx).fl λb hk1=>?_);cases b with
 | false=>simp only [aN];exact no (aE.refl _) λh=>by have:=hk1.2 h.1;cases this
 | true=>
 simp only [aN];refine bQ hb dI iB rfl (vS lH (h.ext xx).im (jJ.2 ?_));by_cases h2:(i.imports.length:Int) > 4
 ·simp only [h2,aN];exact no (aE.refl _) λh=>by have:=h.2.1.1;omega
 simp only [h2,aN];refine bQ hb bF fS rfl (vS iA (h.ext xx).mt (bP.2 ?_));by_cases h4:(i.methods.length:Int) < 1
 ·simp only [h4,aN];exact no (aE.refl _) λh=>by have:=h.2.2.1.1.1;omega
 simp only [h4,aN];refine bQ hb bF fS rfl (vS iA (h.ext xx).mt (jJ.2 ?_));by_cases h5:(i.methods.length:Int) > 8
 ·simp only [h5,aN];exact no (aE.refl _) λh=>by have:=h.2.2.1.1.2;omega
 simp only [h5,aN];refine bQ hb fA bJ rfl (hU aM (h.ext xx).ex (jJ.2 ?_));by_cases h9:(i.exports.length:Int) > 4
 ·simp only [h9,aN];exact no (aE.refl _) λh=>by have:=h.2.2.2.1;omega
 simp only [h9,aN];have hw2:=h.ext xx;refine ⟨λv w'=>∃ j:Nat,v=i64 j/\j<=i.imports.length/\aE w2 w'/\∀ x∈i.imports.take j,x.right,λv _=>i.imports.length - (RowKit.intOf v).toNat,⟨0,rfl,Nat.zero_le _,aE.refl _,λ_ h=>by simp at h⟩,?_⟩;rintro _ w3 ⟨j,rfl,hj,x3,hall⟩ _;refine bQ (hb.ext x3) dI iB rfl (vS lH (hw2.ext x3).im (bP.2 (aK (λhlt=>?_) λhge=>?_)))
 ·obtain ⟨x,hx⟩:=fQ (l:=i.imports) (j:=j) (by omega);have hxm:x∈i.imports:=List.mem_of_getElem? hx;refine bQ (hb.ext x3) dI iB rfl ?_;refine XP lH DI (hw2.ext x3).im hx vV λrow hrow=>?_;obtain ⟨pv,rfl,hp⟩:=hrow;obtain ⟨pa,pc,rfl⟩:=hp.shape;refine pX qM rfl rfl λb2 w4 hb2 x4=>?_;refine bQ hb2 bS qQ rfl ?_;refine (hn.2 x hxm w4 ((xx.trans x3).trans x4)).1.mono λv w5 hv=>?_;obtain ⟨rfl,x5⟩:=hv.T;have hb2:=hb2.ext x5;have x35:=(x3.trans x4).trans x5;simp only [aN];have noI:¬ x.right->R (.bool false) w5:=λhn=>no x35 λh=>hn (h.2.1.2 x hxm);refine bQ hb2 bK aF rfl (bP.2 ?_);by_cases g1:x.exp < 0
  ·simp only [g1,aN];exact noI λh=>by have:=h.1.1;omega
  simp only [g1,aN];refine bQ hb2 bK aF rfl (jU.2 ?_);by_cases g2:x.exp>=4
  ·simp only [g2,aN];exact noI λh=>by have:=h.1.2;omega
  simp only [g2,aN];refine bQ hb2 bA bJ rfl (K53 (hp.ext (x4.trans x5)) λb hk3=>?_);cases b with
  | false=>simp only [aN];exact noI λh=>by have:=hk3.2 h.2.1;cases this
  | true=>
  simp only [aN];refine bQ hb2 bD aF rfl (bP.2 ?_);by_cases g3:x.result < 0
  ·simp only [g3,aN];exact noI λh=>by have:=h.2.2.1;omega
  simp only [g3,aN];refine bQ hb2 bD aF rfl (jJ.2 ?_);by_cases g4:x.result > 4
  ·simp only [g4,aN];exact noI λh=>by have:=h.2.2.2;omega
  simp only [g4,aN];refine mJ (by omega) ?_;refine ⟨⟨j+1,rfl,by omega,x35,λy hy=>?_⟩,by simp only [aW];omega⟩;rw [List.take_add_one,hx] at hy;rcases List.mem_append.1 hy with hy|hy
  ·exact hall y hy
  ·simp at hy;subst hy;exact ⟨⟨by omega,by omega⟩,hk3.1 rfl,by omega,by omega⟩
 have hjl:j=i.imports.length:=by omega
 subst hjl;rw [List.take_length] at hall;refine ⟨λv w'=>∃ j:Nat,v=i64 j/\j<=i.methods.length/\aE w2 w'/\∀ x∈i.methods.take j,x.right,λv _=>i.methods.length - (RowKit.intOf v).toNat,⟨0,rfl,Nat.zero_le _,x3,λ_ h=>by simp at h⟩,?_⟩;rintro _ w4 ⟨j,rfl,hj,x4,hallm⟩ _;refine bQ (hb.ext x4) bF fS rfl (vS iA (hw2.ext x4).mt (bP.2 (aK (λhlt=>?_) λhge=>?_)))
 ·obtain ⟨m,hm⟩:=fQ (l:=i.methods) (j:=j) (by omega);have hmm:m∈i.methods:=List.mem_of_getElem? hm;refine bQ (hb.ext x4) bF fS rfl ?_;refine XP iA lV (hw2.ext x4).mt hm oI λrow hrow=>?_;obtain ⟨pv,lv,cv,rfl,hp,hl,hc⟩:=hrow;obtain ⟨pa,pc,rfl⟩:=hp.shape;obtain ⟨la,lc,rfl⟩:=hl.shape;obtain ⟨ca,cc,rfl⟩:=aA.shape hc;refine pX AE rfl rfl λb2 w5 hb2 x5=>?_;have x45:=x4.trans x5;have noM:∀ {w'},aE w5 w'->¬ m.right->R (.bool false) w':=λhx hn=>no (x45.trans hx) λh=>hn (h.2.2.1.2.1 m hmm);refine bQ hb2 dR bJ rfl (K53 (hp.ext x5) λb hk3=>?_);cases b with
  | false=>simp only [aN];exact noM (aE.refl _) λh=>by have:=hk3.2 h.1;cases this
  | true=>
  simp only [aN];refine bQ hb2 eX aF rfl (bP.2 ?_);by_cases g3:m.result < 0
  ·simp only [g3,aN];exact noM (aE.refl _) λh=>by have:=h.2.1.1;omega
  simp only [g3,aN];refine bQ hb2 eX aF rfl (jJ.2 ?_);by_cases g4:m.result > 4
  ·simp only [g4,aN];exact noM (aE.refl _) λh=>by have:=h.2.1.2;omega
  simp only [g4,aN];have cp:=qR hp;refine bQ hb2 gI bJ rfl ?_;refine bQ hb2 dR bJ rfl (hU aM (hp.ext x5) (iL.2 ?_));rw [iF (by unfold maxLen at cp;omega) (by omega)];refine K53 (hl.ext x5) λb hk5=>?_;cases b with
  | false=>simp only [aN];exact noM (aE.refl _) λh=>by have:=hk5.2 h.2.2.1;cases this
  | true=>
  simp only [aN];refine bQ hb2 dU fT rfl (hU iZ (hc.ext x5) (bP.2 ?_));by_cases g6:(m.code.length:Int) < 1
  ·simp only [g6,aN];exact noM (aE.refl _) λh=>by have:=h.2.2.2.1.1;omega
  simp only [g6,aN];refine bQ hb2 dU fT rfl (hU iZ (hc.ext x5) (jJ.2 ?_));by_cases g7:(m.code.length:Int) > 120
  ·simp only [g7,aN];exact noM (aE.refl _) λh=>by have:=h.2.2.2.1.2;omega
  simp only [g7,aN];refine ⟨λv w'=>∃ q:Nat,v=i64 q/\q<=m.code.length/\aE w5 w'/\∀ x∈m.code.take q,x.right,λv _=>m.code.length - (RowKit.intOf v).toNat,⟨0,rfl,Nat.zero_le _,aE.refl _,λ_ h=>by simp at h⟩,?_⟩;rintro _ w6 ⟨q,rfl,hq,x6,hallc⟩ _;have hc6:=(hc.ext x5).ext x6;refine bQ (hb2.ext x6) dU fT rfl (hU iZ hc6 (bP.2 (aK (λhlt2=>?_) λhge2=>?_)))
  ·obtain ⟨x,hx⟩:=fQ (l:=m.code) (j:=q) (by omega);have hxm:x∈m.code:=List.mem_of_getElem? hx;refine bQ (hb2.ext x6) dU fT rfl (ldI hc6 hx ?_);refine aBa λb w7 hbr x7=>?_;cases b with
   | false=>simp only [aN];exact noM (x6.trans x7) λh=>by have:=hbr.2 (h.2.2.2.2 x hxm);cases this
   | true=>
   simp only [aN];refine mJ (by omega) ?_;refine ⟨⟨q+1,rfl,by omega,x6.trans x7,λy hy=>?_⟩,by simp only [aW];omega⟩;rw [List.take_add_one,hx] at hy;rcases List.mem_append.1 hy with hy|hy
   ·exact hallc y hy
   ·simp at hy;subst hy;exact hbr.1 rfl
  ·have hql:q=m.code.length:=by omega
   subst hql;rw [List.take_length] at hallc;refine mJ (by omega) ?_;refine ⟨⟨j+1,rfl,by omega,x45.trans x6,λy hy=>?_⟩,by simp only [aW];omega⟩;rw [List.take_add_one,hm] at hy;rcases List.mem_append.1 hy with hy|hy
   ·exact hallm y hy
   ·simp at hy;subst hy;exact ⟨hk3.1 rfl,⟨by omega,by omega⟩,hk5.1 rfl,⟨by omega,by omega⟩,hallc⟩
 have hjl:j=i.methods.length:=by omega
 subst hjl;rw [List.take_length] at hallm;refine ⟨λv w'=>∃ j:Nat,v=i64 j/\j<=i.exports.length/\aE w2 w'/\∀ x∈i.exports.take j,0<=x/\x < (i.methods.length:Int),λv _=>i.exports.length - (RowKit.intOf v).toNat,⟨0,rfl,Nat.zero_le _,x4,λ_ h=>by simp at h⟩,?_⟩;rintro _ w5 ⟨j,rfl,hj,x5,halle⟩ _;have h5':=hw2.ext x5;refine bQ (hb.ext x5) fA bJ rfl (hU aM h5'.ex (bP.2 (aK (λhlt=>?_) λhge=>?_)))
 ·obtain ⟨x,hx⟩:=fQ (l:=i.exports) (j:=j) (by omega);have hxm:x∈i.exports:=List.mem_of_getElem? hx;have D1:aE w5 w5.drew:=(aE.refl _).drew;have hbS:∀ w',aE w5 w'->fB w' b1 _:=λw' hx=>(hb.ext x5).ext hx;obtain ⟨mcs,hms⟩:=h5'.mt.sl;refine aJ.mk' (λw'=>aE w5 w') D1 ?_;refine gY hbS fA bJ rfl ?_;refine lT aM aF h5'.ex (λ_ h=>h) (by omega) (by omega) (fD hx) (SF ?_);by_cases g1:x < 0
  ·simp only [g1,aN];exact no (x5.trans D1) λh=>by have:=(h.2.2.2.2 x hxm).1;omega
  simp only [g1,aN];refine gY hbS fA bJ rfl ?_;refine lT aM aF h5'.ex (λ_ h=>h) (by omega) (by omega) (fD hx) ?_;refine gY hbS bF fS rfl (qH iA hms (aTc ?_));by_cases g2:x>=((i.methods.length:Nat):Int)
  ·simp only [g2,aN];exact no (x5.trans D1) λh=>by have:=(h.2.2.2.2 x hxm).2;omega
  simp only [g2,aN];refine mJ (by omega) ?_;refine ⟨⟨j+1,rfl,by omega,x5.trans D1,λy hy=>?_⟩,by simp only [aW];omega⟩;rw [List.take_add_one,hx] at hy;rcases List.mem_append.1 hy with hy|hy
  ·exact halle y hy
  ·simp at hy;subst hy;exact ⟨by omega,by omega⟩
 have hjl:j=i.exports.length:=by omega
 subst hjl;rw [List.take_length] at halle;have h0:=aIu (i:=i) (by omega);have fin:∀ b,(b=true↔(i.meth 0).params=[]/\(i.meth 0).result=0)->R (.bool b) w5:=λb hbb=>hR _ _ ⟨b,rfl,hbb.trans ⟨λhh=>⟨hk1.1 rfl,⟨by omega,hall⟩,⟨⟨by omega,by omega⟩,hallm,hh.1,hh.2⟩,by omega,halle⟩,λhh=>hh.2.2.1.2.2⟩,xx.trans x5⟩;refine bQ (hb.ext x5) bF fS rfl ?_;refine rI (i:=0) iA dR bJ h5'.mt h0 λrow hrow=>?_;obtain ⟨pv,lv,cv,rfl,hp,_,_⟩:=hrow;refine ⟨pv,rfl,by decide,hU aM hp (aO.2 ?_)⟩;by_cases h7:(((i.meth 0).params.length:Nat):Int)=0
 case neg=>
  simp only [h7,aN];exact fin _ ⟨λh=>(by cases h),λh=>by rw [h.1] at h7;simp at h7⟩
 simp only [h7,aN];refine bQ (hb.ext x5) bF fS rfl ?_;refine rI (i:=0) iA eX aF h5'.mt h0 λrow hrow=>?_;obtain ⟨pv,lv,cv,rfl,_,_,_⟩:=hrow;refine ⟨i64 (i.meth 0).result,rfl,by decide,aO.2 ?_⟩;exact fin _ (decide_eq_true_iff.trans ⟨λh=>⟨List.eq_nil_of_length_eq_zero (by omega),h⟩,λh=>h.2⟩)
theorem fY {l:List Int} {a:Nat} (h:a < l.length):l[a]?=some (l.getD a 0):=by
 rw [List.getD_eq_getElem?_getD,List.getElem?_eq_getElem h];rfl
theorem XK {a:Nat}:m.locs.getD a 0=if a < m.params.length then m.params.getD a 0 else m.locals.getD (a - m.params.length) 0:=by
 unfold gA.locs;simp only [List.getD_eq_getElem?_getD,List.getElem?_append];split<;>rfl
theorem DF {row:List Z} (hm:iO w row m) (hr:m.right) (h0:0<=a) (hk:∀ w',aE w w'->K (.tuple #[i64 (m.locs.getD a.toNat 0),.bool (decide (a < (m.locs.length:Int)))]) w') :
  aB prog 146 #[.agg row.toArray,i64 a] w K:=by
 obtain ⟨pv,lv,cv,rfl,hp,hl,hc⟩:=hm;obtain ⟨k,rfl⟩:∃ k:Nat,a=k:=⟨a.toNat,by omega⟩;have c1:=hr.1.2;have c2:=hr.2.2.1.2;have hlen:m.locs.length=m.params.length+m.locals.length:=by simp [gA.locs]
 apply aHh;unfold KR;refine bx λb1 w1 hb x1=>?_;have hk:=hk _ x1;rw [XK] at hk;simp only [Int.toNat_natCast,hlen] at hk;refine bQ hb dR bJ rfl (hU aM (hp.ext x1) (bP.2 (aK (λhlt=>?_) λhge=>?_)))
 ·refine bQ hb dR bJ rfl ?_;refine kP aM aF (hp.ext x1) (by omega) (by omega) (fD (fY (by omega))) ?_;rw [if_pos (by omega),decide_eq_true (by omega)] at hk;exact hk
 ·rw [if_neg (by omega)] at hk;refine bQ hb dR bJ rfl (hU aM (hp.ext x1) ?_);refine bQ hb gI bJ rfl (hU aM (hl.ext x1) (dS.2 ?_));rw [aU (by omega)];refine bP.2 (aK (λhlt2=>?_) λhge2=>?_)
  ·refine bQ hb gI bJ rfl ?_;refine bQ hb dR bJ rfl (hU aM (hp.ext x1) (iL.2 ?_));rw [aU (by omega),show (k:Int) - (m.params.length:Int)=((k - m.params.length:Nat):Int) by omega];refine kP aM aF (hl.ext x1) (by omega) (by omega) (fD (fY (by omega))) ?_;rw [decide_eq_true (by omega)] at hk;exact hk
  ·rw [decide_eq_false (by omega)] at hk;have:m.locals.getD (k - m.params.length) 0=0:=by rw [List.getD_eq_getElem?_getD,List.getElem?_eq_none (by omega)];rfl
   rw [this] at hk;exact hk
theorem iI (h0:0<=a) (h:a < i.methods.length):i.methods[a.toNat]?=some (i.meth a):=by
 unfold dN.meth;rw [List.getD_eq_getElem?_getD,List.getElem?_eq_getElem (by omega)];rfl
theorem pU (h0:0<=a) (h:a < i.imports.length):i.imports[a.toNat]?=some (i.imp a):=by
 unfold dN.imp;rw [List.getD_eq_getElem?_getD,List.getElem?_eq_getElem (by omega)];rfl
theorem aCb {row:List Z} (h:gZ w p i) (hm:iO w row m) (hr:m.right) (hx:x.right) :
  aB prog 112 #[p.val i,.agg row.toArray,.agg #[i64 x.op,i64 x.a,i64 x.b]] w (eC (fI i m x) w):=by
 obtain ⟨op,a,b⟩:=x;obtain ⟨ho,a1,a2,_⟩:=hx;have hm0:=hm;obtain ⟨pv,lv,cv,rfl,hp,hl,hc⟩:=hm;apply aIi;suffices key:∀ R:Z->O->Prop,(∀ v w',eC (fI i m ⟨op,a,b⟩) w v w'->R v w')->zM (p.val i) (.agg [pv,i64 m.result,lv,cv].toArray) (.agg #[i64 op,i64 a,i64 b]) w R from key _ λ_ _ h=>h;intro R hR;unfold zM fZ.val;refine bx λb1 w1 hb1 x1=>?_;refine bx λb2 w2 hb2 x2=>?_;refine bx λb3 w3 hb3 x3=>?_;have hb1:=(hb1.ext x2).ext x3;have hb2:fB w3 b2 [pv,i64 m.result,lv,cv]:=hb2.ext x3;have xx:=(x1.trans x2).trans x3;have h':=h.ext xx;refine bQ hb3 aT aF rfl ?_;by_cases c1:op=2\/op=3
 ·have hs:fI i m ⟨op,a,b⟩↔a < (m.locs.length:Int):=by unfold fI;dsimp only;rw [if_pos c1]
  have ha:0<=a:=by rcases c1 with rfl|rfl<;>exact a1
  rcases c1 with rfl|rfl
  all_goals
   simp only [aN,Int.reduceEq];refine lF hb2 lV rfl ?_;refine bQ hb3 (by first|exact bO|exact cD|exact bB|exact cC|exact bV|exact bU|exact cG|exact cB|exact cF|exact bN|exact bI|exact bT|exact bG|exact bE|exact cA|exact bZ|exact bS|exact bK|exact bA|exact bD|exact bC|exact bM|exact cE|exact bL|exact cL|exact bY|exact cS|exact cR|exact cK|exact cQ|exact cP|exact cO|exact cJ|exact cI|exact cH|exact bX|exact cN|exact bW|exact cY|exact cX|exact cZ|exact dH|exact dG|exact dF|exact dM|exact dE|exact dD|exact dC|exact dL|exact dK|exact dJ|exact bH|exact dB|exact dQ|exact dA|exact dP|exact dY|exact cU|exact dO|exact dX|exact cW|exact cV|exact eQ|exact eO|exact eB|exact eM|exact eJ|exact fR|exact eE|exact dI|exact bF|exact fA|exact aT|exact aR) (by first|exact eG|exact fO|exact eW|exact eV|exact eF|exact eY|exact fN|exact gF|exact gV|exact fM|exact aF) rfl ?_
   refine DF (hm0.ext xx) hr ha λw4 x4=>?_;refine gM.2 (gL.2 ?_);exact hR _ _ ⟨_,rfl,decide_eq_true_iff.trans hs.symm,xx.trans x4⟩
 by_cases c2:op=33\/op=34
 ·have hs:fI i m ⟨op,a,b⟩↔a < (i.fields.length:Int):=by unfold fI;dsimp only;rw [if_neg c1,if_pos c2]
  rcases c2 with rfl|rfl
  all_goals
   simp only [aN,Int.reduceEq];refine bQ hb3 (by first|exact bO|exact cD|exact bB|exact cC|exact bV|exact bU|exact cG|exact cB|exact cF|exact bN|exact bI|exact bT|exact bG|exact bE|exact cA|exact bZ|exact bS|exact bK|exact bA|exact bD|exact bC|exact bM|exact cE|exact bL|exact cL|exact bY|exact cS|exact cR|exact cK|exact cQ|exact cP|exact cO|exact cJ|exact cI|exact cH|exact bX|exact cN|exact bW|exact cY|exact cX|exact cZ|exact dH|exact dG|exact dF|exact dM|exact dE|exact dD|exact dC|exact dL|exact dK|exact dJ|exact bH|exact dB|exact dQ|exact dA|exact dP|exact dY|exact cU|exact dO|exact dX|exact cW|exact cV|exact eQ|exact eO|exact eB|exact eM|exact eJ|exact fR|exact eE|exact dI|exact bF|exact fA|exact aT|exact aR) (by first|exact eG|exact fO|exact eW|exact eV|exact eF|exact eY|exact fN|exact gF|exact gV|exact fM|exact aF) rfl ?_;refine bQ hb1 (by first|exact bO|exact cD|exact bB|exact cC|exact bV|exact bU|exact cG|exact cB|exact cF|exact bN|exact bI|exact bT|exact bG|exact bE|exact cA|exact bZ|exact bS|exact bK|exact bA|exact bD|exact bC|exact bM|exact cE|exact bL|exact cL|exact bY|exact cS|exact cR|exact cK|exact cQ|exact cP|exact cO|exact cJ|exact cI|exact cH|exact bX|exact cN|exact bW|exact cY|exact cX|exact cZ|exact dH|exact dG|exact dF|exact dM|exact dE|exact dD|exact dC|exact dL|exact dK|exact dJ|exact bH|exact dB|exact dQ|exact dA|exact dP|exact dY|exact cU|exact dO|exact dX|exact cW|exact cV|exact eQ|exact eO|exact eB|exact eM|exact eJ|exact fR|exact eE) (by first|exact eG|exact fO|exact eW|exact eV|exact eF|exact eY|exact fN|exact gF|exact gV|exact fM|exact aF|exact iX|exact iW|exact iM|exact jZ|exact bJ) rfl (hU aM h'.fl (bP.2 ?_))
   exact hR _ _ ⟨_,rfl,decide_eq_true_iff.trans hs.symm,xx⟩
 by_cases c3:op=37
 ·have hs:fI i m ⟨op,a,b⟩↔a < (i.methods.length:Int):=by unfold fI;dsimp only;rw [if_neg c1,if_neg c2,if_pos c3]
  subst c3;simp only [aN,Int.reduceEq];refine bQ hb3 aR aF rfl ?_;refine bQ hb1 bF fS rfl (vS iA h'.mt (bP.2 ?_));exact hR _ _ ⟨_,rfl,decide_eq_true_iff.trans hs.symm,xx⟩
 by_cases c4:op=38
 ·have hs:fI i m ⟨op,a,b⟩↔a < (i.imports.length:Int):=by unfold fI;dsimp only;rw [if_neg c1,if_neg c2,if_neg c3,if_pos c4]
  subst c4;simp only [aN,Int.reduceEq];refine bQ hb3 aR aF rfl ?_;refine bQ hb1 dI iB rfl (vS lH h'.im (bP.2 ?_));exact hR _ _ ⟨_,rfl,decide_eq_true_iff.trans hs.symm,xx⟩
 by_cases c5:op=23\/op=24
 ·have hs:fI i m ⟨op,a,b⟩↔a < (m.code.length:Int):=by unfold fI;dsimp only;rw [if_neg c1,if_neg c2,if_neg c3,if_neg c4,if_pos c5]
  rcases c5 with rfl|rfl
  all_goals
   simp only [aN,Int.reduceEq];refine bQ hb3 (by first|exact bO|exact cD|exact bB|exact cC|exact bV|exact bU|exact cG|exact cB|exact cF|exact bN|exact bI|exact bT|exact bG|exact bE|exact cA|exact bZ|exact bS|exact bK|exact bA|exact bD|exact bC|exact bM|exact cE|exact bL|exact cL|exact bY|exact cS|exact cR|exact cK|exact cQ|exact cP|exact cO|exact cJ|exact cI|exact cH|exact bX|exact cN|exact bW|exact cY|exact cX|exact cZ|exact dH|exact dG|exact dF|exact dM|exact dE|exact dD|exact dC|exact dL|exact dK|exact dJ|exact bH|exact dB|exact dQ|exact dA|exact dP|exact dY|exact cU|exact dO|exact dX|exact cW|exact cV|exact eQ|exact eO|exact eB|exact eM|exact eJ|exact fR|exact eE|exact dI|exact bF|exact fA|exact aT|exact aR) (by first|exact eG|exact fO|exact eW|exact eV|exact eF|exact eY|exact fN|exact gF|exact gV|exact fM|exact aF) rfl ?_;refine bQ hb2 (by first|exact bO|exact cD|exact bB|exact cC|exact bV|exact bU|exact cG|exact cB|exact cF|exact bN|exact bI|exact bT|exact bG|exact bE|exact cA|exact bZ|exact bS|exact bK|exact bA|exact bD|exact bC|exact bM|exact cE|exact bL|exact cL|exact bY|exact cS|exact cR|exact cK|exact cQ|exact cP|exact cO|exact cJ|exact cI|exact cH|exact bX|exact cN|exact bW|exact cY|exact cX|exact cZ|exact dH|exact dG|exact dF|exact dM|exact dE|exact dD|exact dC|exact dL|exact dK|exact dJ|exact bH|exact dB|exact dQ|exact dA|exact dP|exact dY|exact cU|exact dO|exact dX|exact cW|exact cV|exact eQ|exact eO|exact eB|exact eM|exact eJ|exact fR|exact eE|exact dI|exact bF|exact fA|exact aT|exact aR|exact gJ|exact dR|exact eX|exact gI|exact dU) (by first|exact eG|exact fO|exact eW|exact eV|exact eF|exact eY|exact fN|exact gF|exact gV|exact fM|exact aF|exact iX|exact iW|exact iM|exact jZ|exact bJ|exact iB|exact fS|exact mD|exact oV|exact lX|exact fT) rfl (hU iZ (hc.ext xx) (bP.2 ?_))
   exact hR _ _ ⟨_,rfl,decide_eq_true_iff.trans hs.symm,xx⟩
 ·have hs:fI i m ⟨op,a,b⟩:=by unfold fI;dsimp only;rw [if_neg c1,if_neg c2,if_neg c3,if_neg c4,if_neg c5];trivial
  simp only [not_or] at c1 c2 c5;simp only [c1.1,c1.2,c2.1,c2.2,c3,c4,c5.1,c5.2,aN];exact hR _ _ (eC.yes hs xx)
theorem SJ {pc:Nat} (hp:pc<=1000) (hk:∀ v w',w'.ownsRow w.heap.size 3 1 v (fK x pc).length ((fK x pc).map i64)->aE w w'->K v w'):aB prog 114 #[.agg #[i64 x.op,i64 x.a,i64 x.b],i64 pc] w K:=by
 obtain ⟨op,a,b⟩:=x;apply aIg;unfold LQ;refine bx λb1 w1 hb x1=>?_;refine bQ hb aT aF rfl (aO.2 (aK (λc1=>?_) λc1=>aO.2 (aK (λc2=>?_) λc2=>aO.2 (aK (λc3=>?_) λc3=>?_))))
 ·refine bQ hb aR aF rfl ?_;refine iT aZ [i64 a] rfl rfl (by simp) rfl λv w2 ho x2=>hk _ _ ?_ (x1.trans x2);have e:fK ⟨op,a,b⟩ pc=[a]:=by unfold fK;dsimp only;rw [if_pos c1]
  rw [e];exact aX ho x1.size
 ·refine dS.2 ?_;rw [aU (by omega)];refine bQ hb aR aF rfl ?_;refine iT aZ [i64 ((pc:Int)+1),i64 a] rfl rfl (by simp) rfl λv w2 ho x2=>hk _ _ ?_ (x1.trans x2);have e:fK ⟨op,a,b⟩ pc=[(pc:Int)+1,a]:=by unfold fK;dsimp only;rw [if_neg c1,if_pos c2]
  rw [e];exact aX ho x1.size
 ·have e:fK ⟨op,a,b⟩ pc=[]:=by unfold fK;dsimp only;rw [if_neg c1,if_neg c2,if_pos c3]
  refine hk _ _ ?_ x1;rw [e];exact World.ownsRow_nil _ _ _ _
 ·refine dS.2 ?_;rw [aU (by omega)];refine iT aZ [i64 ((pc:Int)+1)] rfl rfl (by simp) rfl λv w2 ho x2=>hk _ _ ?_ (x1.trans x2);have e:fK ⟨op,a,b⟩ pc=[(pc:Int)+1]:=by unfold fK;dsimp only;rw [if_neg c1,if_neg c2,if_neg c3]
  rw [e];exact aX ho x1.size
def hJ (op:Int):List UInt8:=
 if fP op then [105,105] else if op=15\/op=16 then [105] else if op=17\/op=18 then [112,112] else if op=24\/op=27 then [112] else if op=26\/op=28 then [97]
 else if op=29 then [97,112] else if op=30 then [97,112,105] else if op=31\/op=32 then [97,112,97,112,112] else if op=36 then [97,112,112] else []
theorem AQ {op:Int} (ho:1<=op/\op<=39) (hk:K (.string ⟨(hJ op).toArray⟩) w):aB prog 139 #[i64 op] w K:=by
 apply aHm;unfold KW;rcases vL ho with rfl|rfl|rfl|rfl|rfl|rfl|rfl|rfl|rfl|rfl|rfl|rfl|rfl|rfl|rfl|rfl|rfl|rfl|rfl|rfl|rfl|rfl|rfl|rfl|rfl|rfl|rfl|rfl|rfl|rfl|rfl|rfl|rfl|rfl|rfl|rfl|rfl|rfl|rfl<;>(simp only [aN,Int.reduceEq];exact hk)
theorem UH {op b:Int} (ho:1<=op/\op<=39) (h:op≠3/\op≠4/\op≠5/\op≠34/\op≠22/\op≠37/\op≠38/\op≠39):(aI i m ⟨op,a,b⟩).length=(hJ op).length:=by
 obtain ⟨h1,h2,h3,h4,h5,h6,h7,h8⟩:=h;rcases vL ho with rfl|rfl|rfl|rfl|rfl|rfl|rfl|rfl|rfl|rfl|rfl|rfl|rfl|rfl|rfl|rfl|rfl|rfl|rfl|rfl|rfl|rfl|rfl|rfl|rfl|rfl|rfl|rfl|rfl|rfl|rfl|rfl|rfl|rfl|rfl|rfl|rfl|rfl|rfl<;>first|rfl|contradiction
theorem qP {t ty:TypeId} (ht:P.underlying t=some .string) {s:ByteArray}:(Builtin.len_ #[t] ty #[.string s]).run P w=.ok (i64 s.size) w:=by
 simp [Builtin.len_,run_underlying ht,goInt]
theorem aAu {row:List Z} (h:gZ w p i) (hm:iO w row m) (hx:rT i m x) (hk:∀ w',aE w w'->K (i64 (aI i m x).length) w') :
  aB prog 98 #[p.val i,.agg row.toArray,.agg #[i64 x.op,i64 x.a,i64 x.b]] w K:=by
 obtain ⟨op,a,b⟩:=x;obtain ⟨_,_,⟨ho,a1,a2,_⟩,hn⟩:=hx;obtain ⟨pv,lv,cv,rfl,hp,hl,hc⟩:=hm;apply aNv;unfold QW fZ.val;refine bx λb1 w1 hb1 x1=>?_;refine bx λb2 w2 hb2 x2=>?_;refine bx λb3 w3 hb3 x3=>?_;have hb1:=(hb1.ext x2).ext x3;have hb2:fB w3 b2 [pv,i64 m.result,lv,cv]:=hb2.ext x3;have xx:=(x1.trans x2).trans x3;have h':=h.ext xx;refine bQ hb3 aT aF rfl ?_;by_cases c1:op=3\/op=4\/op=5\/op=34
 ·rcases c1 with rfl|rfl|rfl|rfl<;>(simp only [aN,Int.reduceEq];exact hk _ xx)
 by_cases c2:op=22
 ·subst c2;simp only [aN,Int.reduceEq];exact hk _ xx
 by_cases c3:op=37
 ·subst c3;simp only [aN,Int.reduceEq];have ha:a < (i.methods.length:Int):=hn;have a1:0<=a:=a1;refine bQ hb1 bF fS rfl ?_;refine bQ hb3 aR aF rfl ?_;obtain ⟨k,rfl⟩:∃ k:Nat,a=k:=⟨a.toNat,by omega⟩;refine rI iA dR bJ h'.mt (iI a1 ha) λrow hrow=>?_;obtain ⟨pv,lv,cv,rfl,hp,_,_⟩:=hrow;exact ⟨pv,rfl,by decide,hU aM hp (hk _ xx)⟩
 by_cases c4:op=38
 ·subst c4;simp only [aN,Int.reduceEq];have ha:a < (i.imports.length:Int):=hn;have a1:0<=a:=a1;refine bQ hb1 dI iB rfl ?_;refine bQ hb3 aR aF rfl ?_;obtain ⟨k,rfl⟩:∃ k:Nat,a=k:=⟨a.toNat,by omega⟩;refine rI lH bA bJ h'.im (pU a1 ha) λrow hrow=>?_;obtain ⟨pv,rfl,hp⟩:=hrow;exact ⟨pv,rfl,by decide,hU aM hp (hk _ xx)⟩
 by_cases c5:op=39
 ·subst c5;simp only [aN,Int.reduceEq];refine bQ hb2 eX aF rfl (dZ.2 ?_);have e:aI i m ⟨39,a,b⟩=jD m.result:=rfl;rw [e] at hk;by_cases hr:m.result=0
  ·simp only [hr,aN];simp only [jD,hr,reduceIte] at hk;exact hk _ xx
  ·simp only [hr,aN];simp only [jD,hr,reduceIte] at hk;exact hk _ xx
 ·simp only [not_or] at c1;obtain ⟨c11,c12,c13,c14⟩:=c1;simp only [c11,c12,c13,c14,c2,c3,c4,c5,aN];refine bQ hb3 aT aF rfl (AQ ho ?_);have e:=UH (i:=i) (m:=m) (a:=a) (b:=b) ho ⟨c11,c12,c13,c14,c2,c3,c4,c5⟩;rw [e] at hk;exact V.ok (qP underlying9) (hk _ xx)
theorem EY {r:Int} (h:0<=r/\r<=4):∀ c,(c=1\/c=r)->c<=1->c<=r->c=((jD r).length:Int):=by
 intro c h1 h2 h3;unfold jD;split<;>simp<;>omega
theorem aCw (h:gZ w p i) (hx:rT i m x) (hk:∀ w',aE w w'->K (i64 (hgt i m x)) w') :
  aB prog 108 #[p.val i,.agg #[i64 x.op,i64 x.a,i64 x.b]] w K:=by
 obtain ⟨op,a,b⟩:=x;obtain ⟨ir,_,⟨ho,a1,a2,_⟩,hn⟩:=hx;apply aIm;unfold LV fZ.val;refine bx λb1 w1 hb1 x1=>?_;refine bx λb3 w3 hb3 x3=>?_;have hb1:=hb1.ext x3;have xx:=x1.trans x3;have h':=h.ext xx;refine bQ hb3 aT aF rfl ?_;by_cases c3:op=37
 ·subst c3;simp only [aN,Int.reduceEq];have ha:a < (i.methods.length:Int):=hn;have a1:0<=a:=a1;refine bQ hb1 bF fS rfl ?_;refine bQ hb3 aR aF rfl ?_;have hr:=(ir.2.2.1.2.1 _ (dN.meth_mem a1 ha)).2.1;have e:hgt i m ⟨37,a,b⟩=(jD (i.meth a).result).length:=rfl;rw [e] at hk;obtain ⟨k,rfl⟩:∃ k:Nat,a=k:=⟨a.toNat,by omega⟩;refine rI iA eX aF h'.mt (iI a1 ha) λrow hrow=>?_;obtain ⟨pv,lv,cv,rfl,hp,_,_⟩:=hrow;refine ⟨i64 (i.meth (k:Int)).result,rfl,by decide,mn2 λc h1 h2 h3=>?_⟩;rw [EY hr c h1 h2 h3];exact hk _ xx
 by_cases c4:op=38
 ·subst c4;simp only [aN,Int.reduceEq];have ha:a < (i.imports.length:Int):=hn;have a1:0<=a:=a1;refine bQ hb1 dI iB rfl ?_;refine bQ hb3 aR aF rfl ?_;have hr:=(ir.2.1.2 _ (dN.imp_mem a1 ha)).2.2;have e:hgt i m ⟨38,a,b⟩=(jD (i.imp a).result).length:=rfl;rw [e] at hk;obtain ⟨k,rfl⟩:∃ k:Nat,a=k:=⟨a.toNat,by omega⟩;refine rI lH bD aF h'.im (pU a1 ha) λrow hrow=>?_;obtain ⟨pv,rfl,hp⟩:=hrow;refine ⟨i64 (i.imp (k:Int)).result,rfl,by decide,mn2 λc h1 h2 h3=>?_⟩;rw [EY hr c h1 h2 h3];exact hk _ xx
 ·rcases vL ho with rfl|rfl|rfl|rfl|rfl|rfl|rfl|rfl|rfl|rfl|rfl|rfl|rfl|rfl|rfl|rfl|rfl|rfl|rfl|rfl|rfl|rfl|rfl|rfl|rfl|rfl|rfl|rfl|rfl|rfl|rfl|rfl|rfl|rfl|rfl|rfl|rfl|rfl|rfl<;>first|contradiction|(simp only [aN,Int.reduceEq];exact hk _ xx)
theorem YI {row:List Z} {tv:Z} {l:List Int} (h:gZ w p i) (hm:iO w row m) (hx:rT i m x) (ht:aQ w tv l) (hln:l.length=(aI i m x).length) (hk:∀ v w',aQ w' v (fU i m x l)->aE w w'->K v w') :
  aB prog 152 #[p.val i,.agg row.toArray,.agg #[i64 x.op,i64 x.a,i64 x.b],tv] w K:=by
 obtain ⟨op,a,b⟩:=x;obtain ⟨ir,mr,⟨ho,a1,a2,_⟩,hn⟩:=hx;have hm0:=hm;obtain ⟨pv,lv,cv,rfl,hp,hl,hc⟩:=hm;apply aHb;unfold KL fZ.val;refine bx λb1 w1 hb1 x1=>?_;refine bx λb2 w2 hb2 x2=>?_;refine bx λb3 w3 hb3 x3=>?_;have hb1:=(hb1.ext x2).ext x3;have hb2:fB w3 b2 [pv,i64 m.result,lv,cv]:=hb2.ext x3;have xx:=(x1.trans x2).trans x3;have h':=h.ext xx;refine bQ hb3 aT aF rfl ?_;rcases vL ho with rfl|rfl|rfl|rfl|rfl|rfl|rfl|rfl|rfl|rfl|rfl|rfl|rfl|rfl|rfl|rfl|rfl|rfl|rfl|rfl|rfl|rfl|rfl|rfl|rfl|rfl|rfl|rfl|rfl|rfl|rfl|rfl|rfl|rfl|rfl|rfl|rfl|rfl|rfl<;>simp only [aN,Int.reduceEq]
 ·refine iT aZ [i64 (1)] rfl rfl (by simp) rfl λv w4 ho x4=>hk _ _ (aA.of_own ho) (xx.trans x4)
 ·have ha:a < (m.locs.length:Int):=hn;have a1:0<=a:=a1;refine lF hb2 lV rfl ?_;refine bQ hb3 aR aF rfl ?_;refine DF (hm0.ext xx) mr a1 λw4 x4=>gM.2 (gL.2 ?_);refine iT aZ [i64 (m.locs.getD a.toNat 0)] rfl rfl (by simp) rfl λv w5 ho x5=>hk _ _ (aA.of_own ho) ((xx.trans x4).trans x5)
 iterate 2
  ·exact hk _ _ (aA.nil _ _) xx
 ·have hl1:l.length=1:=hln;have D1:aE w3 w3.drew:=(aE.refl _).drew;refine aJ.mk' (λw'=>aE w3 w') D1 ?_;refine lT aM aF (ht.ext xx) (λ_ h=>h) (by omega) (by omega) (fD (j:=0) (fY (by omega))) ?_;refine lT aM aF (ht.ext xx) (λ_ h=>h) (by omega) (by omega) (fD (j:=0) (fY (by omega))) ?_;refine iT aZ [i64 (cT l 0),i64 (cT l 0)] rfl rfl (by simp) rfl λv w4 ho x4=>⟨D1.trans x4,hk _ _ (aA.of_own ho) ((xx.trans D1).trans x4)⟩
 iterate 9
  ·have hl1:l.length=2:=hln;have D1:aE w3 w3.drew:=(aE.refl _).drew;refine aJ.mk' (λw'=>aE w3 w') D1 ?_;refine lT aM aF (ht.ext xx) (λ_ h=>h) (by omega) (by omega) (fD (j:=0) (fY (by omega))) ?_;refine lT aM aF (ht.ext xx) (λ_ h=>h) (by omega) (by omega) (fD (j:=1) (fY (by omega))) ?_;refine vZ ⟨D1,?_⟩;refine iT aZ [i64 (nT (cT l 0) (cT l 1))] rfl rfl (by simp) rfl λv w4 ho x4=>⟨D1.trans x4,hk _ _ (aA.of_own ho) ((xx.trans D1).trans x4)⟩
 iterate 2
  ·have hl1:l.length=1:=hln;refine kP aM aF (ht.ext xx) (by omega) (by omega) (fD (j:=0) (fY (by omega))) ?_;refine iT aZ [i64 (cT l 0)] rfl rfl (by simp) rfl λv w4 ho x4=>hk _ _ (aA.of_own ho) (xx.trans x4)
 iterate 2
  ·refine iT aZ [i64 (1)] rfl rfl (by simp) rfl λv w4 ho x4=>hk _ _ (aA.of_own ho) (xx.trans x4)
 iterate 3
  ·have hl1:l.length=2:=hln;have D1:aE w3 w3.drew:=(aE.refl _).drew;refine aJ.mk' (λw'=>aE w3 w') D1 ?_;refine lT aM aF (ht.ext xx) (λ_ h=>h) (by omega) (by omega) (fD (j:=0) (fY (by omega))) ?_;refine lT aM aF (ht.ext xx) (λ_ h=>h) (by omega) (by omega) (fD (j:=1) (fY (by omega))) ?_;refine vZ ⟨D1,?_⟩;refine iT aZ [i64 (nT (cT l 0) (cT l 1))] rfl rfl (by simp) rfl λv w4 ho x4=>⟨D1.trans x4,hk _ _ (aA.of_own ho) ((xx.trans D1).trans x4)⟩
 ·have hl1:l.length=3:=hln;have e:∀ v w',aQ w' v [uV l]->aE w w'->K v w':=hk;unfold uV at e;refine kP aM aF (ht.ext xx) (by omega) (by omega) (fD (j:=1) (fY (by omega))) ?_;refine pT ?_;change aH (.bool (gC (cT l 1))) _ _;cases hz:gC (cT l 1)
  ·rw [hz] at e;refine aD.2 ?_;have D1:aE w3 w3.drew:=(aE.refl _).drew;refine aJ.mk' (λw'=>aE w3 w') D1 ?_;refine lT aM aF (ht.ext xx) (λ_ h=>h) (by omega) (by omega) (fD (j:=0) (fY (by omega))) ?_;refine lT aM aF (ht.ext xx) (λ_ h=>h) (by omega) (by omega) (fD (j:=1) (fY (by omega))) ?_;refine lT aM aF (ht.ext xx) (λ_ h=>h) (by omega) (by omega) (fD (j:=2) (fY (by omega))) ?_;refine vZ ⟨D1,vZ ⟨D1,?_⟩⟩;refine iT aZ [i64 (nT (cT l 0) (nT (cT l 1) (cT l 2)))] rfl rfl (by simp) rfl λv w4 ho x4=>⟨D1.trans x4,e _ _ (aA.of_own ho) ((xx.trans D1).trans x4)⟩
  ·rw [hz] at e;refine aS.2 ?_;refine kP aM aF (ht.ext xx) (by omega) (by omega) (fD (j:=1) (fY (by omega))) ?_;refine iT aZ [i64 (cT l 1)] rfl rfl (by simp) rfl λv w4 ho x4=>e _ _ (aA.of_own ho) (xx.trans x4)
 iterate 2
  ·exact hk _ _ (aA.nil _ _) xx
 ·refine bQ hb3 aR aF rfl ?_;refine iT aZ [i64 (a)] rfl rfl (by simp) rfl λv w4 ho x4=>hk _ _ (aA.of_own ho) (xx.trans x4)
 ·refine iT aZ [i64 (1)] rfl rfl (by simp) rfl λv w4 ho x4=>hk _ _ (aA.of_own ho) (xx.trans x4)
 ·refine bQ hb3 aR aF rfl ?_;refine iT aZ [i64 (a)] rfl rfl (by simp) rfl λv w4 ho x4=>hk _ _ (aA.of_own ho) (xx.trans x4)
 ·refine iT aZ [i64 (1)] rfl rfl (by simp) rfl λv w4 ho x4=>hk _ _ (aA.of_own ho) (xx.trans x4)
 ·have hl1:l.length=2:=hln;refine kP aM aF (ht.ext xx) (by omega) (by omega) (fD (j:=0) (fY (by omega))) ?_;refine aRd ?_;refine iT aZ [i64 (ofK (cT l 0))] rfl rfl (by simp) rfl λv w4 ho x4=>hk _ _ (aA.of_own ho) (xx.trans x4)
 iterate 2
  ·exact hk _ _ (aA.nil _ _) xx
 ·have hl1:l.length=5:=hln;have e:∀ v w',aQ w' v (if cT l 0=4\/cT l 2=4 then [2] else [1])->aE w w'->K v w':=hk;refine kP aM aF (ht.ext xx) (by omega) (by omega) (fD (j:=0) (fY (by omega))) ?_;change V _ (do eqGuard .eql _ _ _ (i64 (cT l 0)) _;binOp .eql _ (i64 (cT l 0)) _) _ _;refine aO.2 ?_;by_cases z0:cT l 0=4
  ·simp only [z0,true_or,aN] at e ⊢;refine iT aZ [i64 (2)] rfl rfl (by simp) rfl λv w4 ho x4=>e _ _ (aA.of_own ho) (xx.trans x4)
  ·simp only [z0,aN];refine kP aM aF (ht.ext xx) (by omega) (by omega) (fD (j:=2) (fY (by omega))) ?_;change V _ (do eqGuard .eql _ _ _ (i64 (cT l 2)) _;binOp .eql _ (i64 (cT l 2)) _) _ _;refine aO.2 ?_;by_cases z2:cT l 2=4
   ·simp only [z2,or_true,aN] at e ⊢;refine iT aZ [i64 (2)] rfl rfl (by simp) rfl λv w4 ho x4=>e _ _ (aA.of_own ho) (xx.trans x4)
   ·simp only [z0,z2,or_self,aN] at e ⊢;refine iT aZ [i64 (1)] rfl rfl (by simp) rfl λv w4 ho x4=>e _ _ (aA.of_own ho) (xx.trans x4)
 ·have ha:a < (i.fields.length:Int):=hn;have a1:0<=a:=a1;refine bQ hb1 eE bJ rfl ?_;refine bQ hb3 aR aF rfl ?_;obtain ⟨k,rfl⟩:∃ k:Nat,a=k:=⟨a.toNat,by omega⟩;refine kP aM aF h'.fl (by omega) (by omega) (fD (fY (by omega))) ?_;refine iT aZ [i64 (i.fields.getD k 0)] rfl rfl (by simp) rfl λv w4 ho x4=>hk _ _ (aA.of_own ho) (xx.trans x4)
 ·exact hk _ _ (aA.nil _ _) xx
 ·have a1:1<=a:=a1;have a2:a<=2:=a2;refine bQ hb3 aR aF rfl (dS.2 ?_);rw [iF (by dsimp only;omega) (by dsimp only;omega)];refine iL.2 ?_;rw [iF (by dsimp only;omega) (by dsimp only;omega)];refine iT aZ [i64 (3+a - 1)] rfl rfl (by simp) rfl λv w4 ho x4=>hk _ _ (aA.of_own ho) (xx.trans x4)
 ·exact hk _ _ (aA.nil _ _) xx
 ·have ha:a < (i.methods.length:Int):=hn;have a1:0<=a:=a1;refine bQ hb1 bF fS rfl ?_;refine bQ hb3 aR aF rfl ?_;have e:∀ v w',aQ w' v (jD (i.meth a).result)->aE w w'->K v w':=hk;obtain ⟨k,rfl⟩:∃ k:Nat,a=k:=⟨a.toNat,by omega⟩;refine rI iA eX aF h'.mt (iI a1 ha) λrow hrow=>?_;obtain ⟨pv2,lv2,cv2,rfl,_,_,_⟩:=hrow;refine ⟨i64 (i.meth (k:Int)).result,rfl,by decide,dZ.2 ?_⟩;by_cases hr:(i.meth (k:Int)).result=0
  ·simp only [hr,aN];refine e _ _ ?_ xx;rw [jD,if_pos hr];exact aA.nil _ _
  ·simp only [hr,aN];refine iT aZ [i64 (i.meth (k:Int)).result] rfl rfl (by simp) rfl λv w4 ho x4=>e _ _ ?_ (xx.trans x4);rw [jD,if_neg hr];exact aA.of_own ho
 ·have ha:a < (i.imports.length:Int):=hn;have a1:0<=a:=a1;refine bQ hb1 dI iB rfl ?_;refine bQ hb3 aR aF rfl ?_;have e:∀ v w',aQ w' v (jD (i.imp a).result)->aE w w'->K v w':=hk;obtain ⟨k,rfl⟩:∃ k:Nat,a=k:=⟨a.toNat,by omega⟩;refine rI lH bD aF h'.im (pU a1 ha) λrow hrow=>?_;obtain ⟨pv2,rfl,_⟩:=hrow;refine ⟨i64 (i.imp (k:Int)).result,rfl,by decide,dZ.2 ?_⟩;by_cases hr:(i.imp (k:Int)).result=0
  ·simp only [hr,aN];refine e _ _ ?_ xx;rw [jD,if_pos hr];exact aA.nil _ _
  ·simp only [hr,aN];refine iT aZ [i64 (i.imp (k:Int)).result] rfl rfl (by simp) rfl λv w4 ho x4=>e _ _ ?_ (xx.trans x4);rw [jD,if_neg hr];exact aA.of_own ho
 ·exact hk _ _ (aA.nil _ _) xx
end Go.Proofs.YtgkkecladbmjkaaGreatDoor
namespace Go.Tc
def mO:List UInt8->List Int->Bool
 | c::p,k::l=>(if c=97 then !gC k else !fL k)||mO p l
 | _,_=>false
def nS:List UInt8->List Int->Bool
 | c::p,k::l=>(c == 112&&(k == 2||k == 4))||nS p l
 | _,_=>false
def zZ (c:UInt8):Int:=if c=97 then -4 else if c=112 then -3 else -2
theorem aQz:∀ {p:List UInt8} {l:List Int},(∀ c∈p,c=97\/c=112\/c=105)->lM l->((mO p l||nS p l)=false↔iN (p.map zZ) l=true/\gK (p.map zZ) l=false)
 | [],_,_,_=>by simp [mO,nS,iN,gK]
 | _::_,[],_,_=>by simp [mO,nS,iN,gK]
 | c::p,k::l,hp,hl=>by
  have ih:=aQz (p:=p) (l:=l) (λc hc=>hp c (by simp [hc])) λk hk=>hl k (by simp [hk]);have hk:Kd k:=hl k (by simp);have ek:k=1\/k=2\/k=3\/k=4:=by obtain ⟨h1,h2⟩:=hk;omega
  simp only [mO,nS,iN,gK,List.map_cons];generalize mO p l=A at ih ⊢;generalize nS p l=B at ih ⊢;generalize iN (p.map zZ) l=C at ih ⊢;generalize gK (p.map zZ) l=D at ih ⊢
  rcases hp c (by simp) with rfl|rfl|rfl<;>rcases ek with rfl|rfl|rfl|rfl <;>
   (simp [zZ,qA,rV,fL,gC];try (revert ih;cases A<;>cases B<;>cases C<;>cases D<;>simp))
def vA (a b:Int):Int:=if fL a≠fL b\/(gC a=true/\a≠b) then 11 else if (a == b||(a == 1&&b == 2)) then 0 else 12
def NK:List Int->List Int->Bool
 | a::t,k::l=>(vA k a == 11)||NK t l
 | _,_=>false
def NJ:List Int->List Int->Bool
 | a::t,k::l=>(vA k a == 12)||NJ t l
 | _,_=>false
theorem XY {k a:Int} (hk:Kd k) (ha:Kd a):((vA k a == 11)||(vA k a == 12))=false↔qA k a=true/\rV k a=false:=by
 have ek:k=1\/k=2\/k=3\/k=4:=by obtain ⟨h1,h2⟩:=hk;omega
 have ea:a=1\/a=2\/a=3\/a=4:=by obtain ⟨h1,h2⟩:=ha;omega
 rcases ek with rfl|rfl|rfl|rfl<;>rcases ea with rfl|rfl|rfl|rfl<;>decide
theorem inA:∀ {t l:List Int},lM t->lM l->((NK t l||NJ t l)=false↔iN t l=true/\gK t l=false)
 | [],_,_,_=>by simp [NK,NJ,iN,gK]
 | _::_,[],_,_=>by simp [NK,NJ,iN,gK]
 | a::t,k::l,ht,hl=>by
  have ih:=inA (t:=t) (l:=l) (λc hc=>ht c (by simp [hc])) λk hk=>hl k (by simp [hk]);have h1:=XY (hl k (by simp)) (ht a (by simp));simp only [NK,NJ,iN,gK];generalize NK t l=A at ih ⊢;generalize NJ t l=B at ih ⊢;generalize iN t l=C at ih ⊢;generalize gK t l=D at ih ⊢;generalize (vA k a == 11)=E at h1 ⊢;generalize (vA k a == 12)=F at h1 ⊢;generalize qA k a=G at h1 ⊢;generalize rV k a=H at h1 ⊢;revert ih h1;cases A<;>cases B<;>cases C<;>cases D<;>cases E<;>cases F<;>cases G<;>cases H<;>simp
theorem xV:∀ {t l:List Int} {j:Nat} {a k:Int},t[j]?=some a->l[j]?=some k->NK (t.take (j+1)) (l.take (j+1))=(NK (t.take j) (l.take j)||vA k a == 11)
 | [],_,_,_,_,h,_=>by simp at h
 | _::_,[],_,_,_,_,h=>by simp at h
 | a::t,k::l,0,_,_,h1,h2=>by simp at h1 h2;subst h1 h2;simp [NK]
 | a::t,k::l,j+1,_,_,h1,h2=>by
  have:=xV (t:=t) (l:=l) (j:=j) (by simpa using h1) (by simpa using h2);simp only [List.take_succ_cons,NK] at this ⊢;rw [this,Bool.or_assoc]
theorem xU:∀ {t l:List Int} {j:Nat} {a k:Int},t[j]?=some a->l[j]?=some k->NJ (t.take (j+1)) (l.take (j+1))=(NJ (t.take j) (l.take j)||vA k a == 12)
 | [],_,_,_,_,h,_=>by simp at h
 | _::_,[],_,_,_,_,h=>by simp at h
 | a::t,k::l,0,_,_,h1,h2=>by simp at h1 h2;subst h1 h2;simp [NJ]
 | a::t,k::l,j+1,_,_,h1,h2=>by
  have:=xU (t:=t) (l:=l) (j:=j) (by simpa using h1) (by simpa using h2);simp only [List.take_succ_cons,NJ] at this ⊢;rw [this,Bool.or_assoc]
theorem AU:∀ {p:List UInt8} {l:List Int} {j:Nat} {c:UInt8} {k:Int},p[j]?=some c->l[j]?=some k->mO (p.take (j+1)) (l.take (j+1))=(mO (p.take j) (l.take j)||(if c=97 then !gC k else !fL k))
 | [],_,_,_,_,h,_=>by simp at h
 | _::_,[],_,_,_,_,h=>by simp at h
 | a::t,k::l,0,_,_,h1,h2=>by simp at h1 h2;subst h1 h2;simp [mO]
 | a::t,k::l,j+1,_,_,h1,h2=>by
  have:=AU (p:=t) (l:=l) (j:=j) (by simpa using h1) (by simpa using h2);simp only [List.take_succ_cons,mO] at this ⊢;rw [this,Bool.or_assoc]
theorem AR:∀ {p:List UInt8} {l:List Int} {j:Nat} {c:UInt8} {k:Int},p[j]?=some c->l[j]?=some k->nS (p.take (j+1)) (l.take (j+1))=(nS (p.take j) (l.take j)||(c == 112&&(k == 2||k == 4)))
 | [],_,_,_,_,h,_=>by simp at h
 | _::_,[],_,_,_,_,h=>by simp at h
 | a::t,k::l,0,_,_,h1,h2=>by simp at h1 h2;subst h1 h2;simp [nS]
 | a::t,k::l,j+1,_,_,h1,h2=>by
  have:=AR (p:=t) (l:=l) (j:=j) (by simpa using h1) (by simpa using h2);simp only [List.take_succ_cons,nS] at this ⊢;rw [this,Bool.or_assoc]
end Go.Tc
namespace Go.Proofs.YtgkkecladbmjkaaGreatDoor
open Tryz
open Go.Vc Go.Tc
variable {w:O} {K:Z->O->Prop}
abbrev Wr (w:O) (g:Nat) (kf lf:Bool):Prop:=dW w g [.bool kf,.bool lf] 266
theorem tT {g:Nat} {kf lf:Bool} {e:Int} (hb:Wr w g kf lf) (hk:∀ w',Wr w' g (kf||e == 11) (lf||e == 12)->(∀ a,aE a w->a.heap.size<=g->aE a w')->K (.tuple #[]) w') :
  aB prog 150 #[.pointer (some ⟨g,0,none⟩),i64 e] w K:=by
 apply aHd;unfold KN;refine ⟨.inl ⟨_,rfl⟩,?_⟩;refine bQ hb.boxed cW jZ rfl ?_
 cases kf<;>cases lf <;>
  (simp only [aN]
   refine ⟨.inl ⟨_,rfl⟩,?_⟩;refine CK (by first|exact bO|exact cD|exact bB|exact cC|exact bV|exact bU|exact cG|exact cB|exact cF|exact bN|exact bI|exact bT|exact bG|exact bE|exact cA|exact bZ|exact bS|exact bK|exact bA|exact bD|exact bC|exact bM|exact cE|exact bL|exact cL|exact bY|exact cS|exact cR|exact cK|exact cQ|exact cP|exact cO|exact cJ|exact cI|exact cH|exact bX|exact cN|exact bW|exact cY|exact cX|exact cZ|exact dH|exact dG|exact dF|exact dM|exact dE|exact dD|exact dC|exact dL|exact dK|exact dJ|exact bH|exact dB|exact dQ|exact dA|exact dP|exact dY|exact cU|exact dO|exact dX|exact cW) mP hb (n:=2) rfl (by decide) rfl ⟨.inl ⟨_,rfl⟩,?_⟩;have hb1:=hb.set 0;refine bQ (hb1 _).boxed (by first|exact bO|exact cD|exact bB|exact cC|exact bV|exact bU|exact cG|exact cB|exact cF|exact bN|exact bI|exact bT|exact bG|exact bE|exact cA|exact bZ|exact bS|exact bK|exact bA|exact bD|exact bC|exact bM|exact cE|exact bL|exact cL|exact bY|exact cS|exact cR|exact cK|exact cQ|exact cP|exact cO|exact cJ|exact cI|exact cH|exact bX|exact cN|exact bW|exact cY|exact cX|exact cZ|exact dH|exact dG|exact dF|exact dM|exact dE|exact dD|exact dC|exact dL|exact dK|exact dJ|exact bH|exact dB|exact dQ|exact dA|exact dP|exact dY|exact cU|exact dO|exact dX|exact cW|exact cV) (by first|exact eG|exact fO|exact eW|exact eV|exact eF|exact eY|exact fN|exact gF|exact gV|exact fM|exact aF|exact iX|exact iW|exact iM|exact jZ) rfl ?_
   simp only [aN];refine ⟨.inl ⟨_,rfl⟩,?_⟩;refine CK (by first|exact bO|exact cD|exact bB|exact cC|exact bV|exact bU|exact cG|exact cB|exact cF|exact bN|exact bI|exact bT|exact bG|exact bE|exact cA|exact bZ|exact bS|exact bK|exact bA|exact bD|exact bC|exact bM|exact cE|exact bL|exact cL|exact bY|exact cS|exact cR|exact cK|exact cQ|exact cP|exact cO|exact cJ|exact cI|exact cH|exact bX|exact cN|exact bW|exact cY|exact cX|exact cZ|exact dH|exact dG|exact dF|exact dM|exact dE|exact dD|exact dC|exact dL|exact dK|exact dJ|exact bH|exact dB|exact dQ|exact dA|exact dP|exact dY|exact cU|exact dO|exact dX|exact cW|exact cV) mP (hb1 _) (n:=2) rfl (by decide) rfl ?_;exact hk _ ((hb1 _).set 1 _) λa ha hg=>(ha.setCell hg _).setCell hg _)
end Go.Proofs.YtgkkecladbmjkaaGreatDoor
namespace Go.Tc
theorem sM:∀ {a b acc:List Int} {j:Nat} {x y k:Int},a[j]?=some x->b[j]?=some y->jB (a.take j) (b.take j)=some acc->nP x y=some k->jB (a.take (j+1)) (b.take (j+1))=some (acc++[k])
 | [],_,_,_,_,_,_,h,_,_,_=>by simp at h
 | _::_,[],_,_,_,_,_,_,h,_,_=>by simp at h
 | a::l,b::m,acc,0,x,y,k,h1,h2,h3,h4=>by
  simp at h1 h2;subst h1 h2;simp [jB] at h3;subst h3;simp [jB,h4]
 | a::l,b::m,acc,j+1,x,y,k,h1,h2,h3,h4=>by
  simp only [List.take_succ_cons,jB,Option.bind_eq_some_iff,Option.map_eq_some_iff] at h3;obtain ⟨q,hq,r,hr,rfl⟩:=h3;have:=sM (a:=l) (b:=m) (by simpa using h1) (by simpa using h2) hr h4;simp only [List.take_succ_cons,jB] at this ⊢;rw [hq,this];rfl
theorem xO:∀ {a b:List Int} {j:Nat} {x y:Int},a[j]?=some x->b[j]?=some y->nP x y=none->jB a b=none
 | [],_,_,_,_,h,_,_=>by simp at h
 | _::_,[],_,_,_,_,h,_=>by simp at h
 | a::l,b::m,0,x,y,h1,h2,h4=>by
  simp at h1 h2;subst h1 h2;simp [jB,h4]
 | a::l,b::m,j+1,x,y,h1,h2,h4=>by
  have:=xO (a:=l) (b:=m) (by simpa using h1) (by simpa using h2) h4;simp [jB,this]
theorem xP:∀ {a b:List Int},a.length≠b.length->jB a b=none
 | [],[],h=>absurd rfl h
 | [],_::_,_=>rfl
 | _::_,[],_=>rfl
 | a::l,b::m,h=>by
  have:=xP (a:=l) (b:=m) (by simpa using h);simp [jB,this]
end Go.Tc
namespace Go.Proofs.YtgkkecladbmjkaaGreatDoor
open Tryz
open Go.Vc Go.Tc
variable {w:O} {K:Z->O->Prop}
theorem ME {av bv:Z} {a b:List Int} (ha:aQ w av a) (hb:aQ w bv b) (hk:∀ w',aE w w'->K (.bool (decide (a=b))) w'):aB prog 116 #[av,bv] w K:=by
 have ca:=qR ha;apply aIe;unfold LM;refine hU aM ha (hU aM hb (dZ.2 (aK (λhne=>?_) λheq=>?_)))
 ·have:¬ a=b:=λe=>hne (by rw [e]);rw [decide_eq_false this] at hk;exact hk _ (aE.refl _)
 have hl:a.length=b.length:=by omega
 refine ⟨λv w'=>∃ j:Nat,v=i64 j/\j<=a.length/\aE w w'/\a.take j=b.take j,λv _=>a.length - (RowKit.intOf v).toNat,⟨0,rfl,Nat.zero_le _,aE.refl _,rfl⟩,?_⟩;rintro _ w1 ⟨j,rfl,hj,x1,hjs⟩ _;refine hU aM (ha.ext x1) (bP.2 (aK (λhlt=>?_) λhge=>?_))
 ·obtain ⟨x,hx⟩:=fQ (l:=a) (j:=j) (by omega);obtain ⟨y,hy⟩:=fQ (l:=b) (j:=j) (by omega);have D1:aE w1 w1.drew:=(aE.refl _).drew;refine aJ.mk' (λw'=>aE w1 w') D1 ?_;refine lT aM aF (ha.ext x1) (λ_ h=>h) (by omega) (by omega) (fD hx) ?_;refine lT aM aF (hb.ext x1) (λ_ h=>h) (by omega) (by omega) (fD hy) ?_;refine aC.ok (λw' _=>CT) (aK (λhne=>?_) λheq=>?_)
  ·have:¬ a=b:=λe=>hne (by subst e;rw [hx] at hy;cases hy;rfl);rw [decide_eq_false this] at hk;exact hk _ (x1.trans D1)
  ·have:x=y:=by simpa using heq
   subst this;refine dS.2 ?_;rw [iF (by omega) (by unfold maxLen at ca;omega),eI];exact ⟨⟨j+1,rfl,by omega,x1.trans D1,by rw [List.take_add_one,List.take_add_one,hx,hy,hjs]⟩,by simp only [aW];omega⟩
 ·have hjl:j=a.length:=by omega
  subst hjl
  have:a=b:=by
   rw [List.take_length,hl,List.take_length] at hjs;exact hjs
  rw [decide_eq_true this] at hk;exact hk _ x1
theorem UM {av bv:Z} {a b:List Int} (ha:aQ w av a) (hb:aQ w bv b) (ka:lM a) (kb:lM b) (hl8:a.length<=1000)
  (yes:∀ j v w',jB a b=some j->w'.ownsRow w.heap.size 3 1 v j.length (j.map i64)->aE w w'->K (.tuple #[v,.bool true]) w') (no:∀ w',jB a b=none->aE w w'->K (.tuple #[cM,.bool false]) w') :
  aB prog 115 #[av,bv] w K:=by
 apply aIf;unfold LP;refine hU aM ha (hU aM hb (dZ.2 (aK (λhne=>?_) λheq=>?_)))
 ·exact no _ (xP λe=>hne (by rw [e])) (aE.refl _)
 have hl:a.length=b.length:=by omega
 refine ⟨λov v w'=>∃ (j:Nat) (acc:List Int),v=i64 j/\j<=a.length/\aE w w'/\jB (a.take j) (b.take j)=some acc/\acc.length=j/\w'.ownsRow w.heap.size 3 1 ov j (acc.map i64),λ_ v _=>a.length - (RowKit.intOf v).toNat,
  ⟨0,[],rfl,Nat.zero_le _,aE.refl _,rfl,rfl,World.ownsRow_nil _ _ _ _⟩,?_⟩
 rintro ov _ w1 ⟨j,acc,rfl,hj,x1,hacc,hal,ho⟩ _;refine hU aM (ha.ext x1) (bP.2 (aK (λhlt=>?_) λhge=>?_))
 ·obtain ⟨x,hx⟩:=fQ (l:=a) (j:=j) (by omega);obtain ⟨y,hy⟩:=fQ (l:=b) (j:=j) (by omega);have D1:aE w1 w1.drew:=(aE.refl _).drew;have xd:=x1.trans D1;refine aJ.mk' (λw'=>aE w1 w') D1 ?_;refine lT aM aF (ha.ext x1) (λ_ h=>h) (by omega) (by omega) (fD hx) ?_;refine lT aM aF (hb.ext x1) (λ_ h=>h) (by omega) (by omega) (fD hy) ?_;refine aCi (ka x (List.mem_of_getElem? hx)) (kb y (List.mem_of_getElem? hy)) ⟨D1,?_⟩;unfold PP;cases hk:nP x y with
  | none=>
   refine aC.ok (λw' _=>lS) (aC.ok (λw' _=>lR) (gG.2 (aS.2 ?_)));exact no _ (xO hx hy hk) xd
  | some k=>
   refine aC.ok (λw' _=>lS) (aC.ok (λw' _=>lR) (gG.2 (aD.2 ?_)));refine iT aZ [i64 k] rfl rfl (by simp) rfl λv2 w2 ho2 x2=>?_;have x12:=D1.trans x2;refine EK aZ (x12.own ho) (aA.of_own ho2) rfl (by omega) (by unfold maxLen;omega) (xd.trans x2).size λv3 w3 ho3 hg3=>?_;refine mJ (by omega) ?_;refine ⟨⟨j+1,acc++[k],rfl,by omega,(xd.trans x2).grown hg3 λq hq=>((x12.own ho).lt q hq).1,sM hx hy hacc hk,by simp [hal],by simpa using ho3⟩,by simp only [aW];omega⟩
 ·have hjl:j=a.length:=by omega
  subst hjl;rw [List.take_length,hl,List.take_length] at hacc;refine yes acc ov _ hacc ?_ x1;have:=ho;rw [<- hal] at this;exact this
end Go.Proofs.YtgkkecladbmjkaaGreatDoor
namespace Go.Vc
section
variable {P:Program} {w:O} {S:O->Prop} {L:Z->Prop}
theorem sA {t:TypeId} (ht:P.underlying t=some .string) {s:ByteArray} {j:Nat} {c:UInt8} (h:s[j]?=some c):(Instr.index t (.string s) (i64 j)).run P w=.ok (.int .u8 c.toNat) w:=by
 simp [Instr.index,asIntOf,run_underlying ht,h]
end
end Go.Vc
namespace Go.Tc
theorem aBo {i:dN} {m:gA} {op a b:Int} (ho:1<=op/\op<=39):(∀ c∈Go.Proofs.YtgkkecladbmjkaaGreatDoor.hJ op,c=97\/c=112\/c=105)/\(Go.Proofs.YtgkkecladbmjkaaGreatDoor.hJ op).length<=(aI i m ⟨op,a,b⟩).length/\(¬ (op=3\/op=34\/op=22\/op=37\/op=38\/op=39\/op=4\/op=5)->aI i m ⟨op,a,b⟩=(Go.Proofs.YtgkkecladbmjkaaGreatDoor.hJ op).map zZ):=by
 have:op=1\/op=2\/op=3\/op=4\/op=5\/op=6\/op=7\/op=8\/op=9\/op=10\/op=11\/op=12\/op=13\/op=14\/op=15\/op=16\/op=17\/op=18\/op=19\/op=20\/op=21\/op=22\/op=23\/op=24\/op=25\/op=26\/op=27\/op=28\/op=29\/op=30\/op=31\/op=32\/op=33\/op=34\/op=35\/op=36\/op=37\/op=38\/op=39:=by omega
 rcases this with rfl|rfl|rfl|rfl|rfl|rfl|rfl|rfl|rfl|rfl|rfl|rfl|rfl|rfl|rfl|rfl|rfl|rfl|rfl|rfl|rfl|rfl|rfl|rfl|rfl|rfl|rfl|rfl|rfl|rfl|rfl|rfl|rfl|rfl|rfl|rfl|rfl|rfl|rfl<;>refine ⟨by decide,?_,?_⟩<;>first|exact Nat.zero_le _|exact Nat.le_refl _|exact λ_=>rfl|exact λh=>absurd (by omega) h
end Go.Tc
namespace Go.Proofs.YtgkkecladbmjkaaGreatDoor
open Tryz
open Go.Vc Go.Tc
variable {w:O} {K:Z->O->Prop}
variable {A B S:Bool} {i:dN} {m:gA} {a k0 k1 k2:Int}
theorem ySF {S:O->Prop} {L:Z->Prop} {α:Type} {T:O->List Z->α->Prop} {sz:Nat} {t s f o ft:Nat} {v:Z} {l:List α} {i:Nat} {e:α} (h:XA prog t sz) (hf:FA prog s f o) (hl:L1 prog ft) (hs:eA T sz w v l) (hx:∀ w',S w'->aE w w') (hi:l[i]?=some e)
  (hk:∀ row,T w row e->∃ u,row[o]?=some u/\o < sz/\L u):aC prog S (Instr.indexAt t v (i64 i)) λp=>aC prog S (Instr.fieldAt s p f) λq=>aC prog S (Instr.loadAt ft q) L:=by
 obtain ⟨cs,h1,h2⟩:=hs;obtain ⟨row,h3,h4⟩:=h2 i e hi;have hlt:i < l.length:=(List.getElem?_eq_some_iff.1 hi).1;obtain ⟨u,hu,ho,hK⟩:=hk row h4;obtain ⟨e',z,b',hte,hinf⟩:=h;obtain ⟨d,hd,ha⟩:=hl;obtain ⟨b,off,cap,rfl,hcell⟩:=h1.there (by omega)
 have hu':cs[i*sz+o]?=some u:=by
  rw [<- h3,List.getElem?_take,if_pos ho,List.getElem?_drop] at hu;exact hu
 have hc:=hcell _ _ hu';rw [<- Nat.add_assoc] at hc;refine aC.ok (λw' _=>iG hte hinf (by omega) (by omega)) (aC.ok (λw' _=>hf.ex w' b _) (aC.ok (λw' hw=>kH hd ha ?_) hK));have:=(hx w' hw).cell hc;simpa using this
theorem zX (l:List Int):(l.map i64).all gO=true:=List.all_eq_true.2 λv hv=>by obtain ⟨x,_,rfl⟩:=List.mem_map.1 hv;rfl
theorem aBv {l:List Int} (h:l.length=1):l=[cT l 0]:=by
 match l,h with
 | [a],_=>rfl
theorem aKx {l:List Int} (h:l.length=3):l=[cT l 0,cT l 1,cT l 2]:=by
 match l,h with
 | [a,b,c],_=>rfl
theorem jW {l:List Int} {j:Nat} (h:j < l.length):l[j]?=some (cT l j):=fY h
def qY (i:dN) (m:gA) (x:gN) (l:List Int):Prop:=kM x (aI i m x) l=true/\iR x (aI i m x) l=false
theorem xY {op b:Int} {l:List Int} (h:op≠22/\op≠30/\op≠31/\op≠36):qY i m ⟨op,a,b⟩ l↔iN (aI i m ⟨op,a,b⟩) l=true/\gK (aI i m ⟨op,a,b⟩) l=false:=by
 unfold qY kM iR;dsimp only;rw [if_neg h.1,if_neg h.1,if_neg h.2.1,if_neg h.2.2.1,if_neg h.2.2.2];simp
theorem NO {D z:Bool} (h:(A||B)=false↔D=true/\S=false):(A||(B||z))=false↔D=true/\(S||z)=false:=by
 revert h;cases A<;>cases B<;>cases D<;>cases S<;>cases z<;>simp
theorem aMe (h0:Kd k0) (h1:Kd k1) (h2:Kd k2):((!fL k0||(fL k1 != fL k2)||(gC k1&&(k1 != k2)))||(gC k1&&xQ k0))=false ↔
  (iN [-2,-1,-1] [k0,k1,k2]&&(fL k1&&fL k2||gC k1&&k1 == k2))=true/\(gC k1&&k0 == 2)=false:=by
 rcases EJ h0 with rfl|rfl|rfl|rfl<;>rcases EJ h1 with rfl|rfl|rfl|rfl<;>rcases EJ h2 with rfl|rfl|rfl|rfl<;>decide
theorem aMd (h0:Kd k0) (_:Kd k1) (h2:Kd k2) (h:(A||B)=false↔iN [-4,-3,-2] [k0,k1,k2]=true/\S=false) :
  (A||(B||(decide (k0=3)&&xQ k2)))=false↔iN [-4,-3,-2] [k0,k1,k2]=true/\(S||(k0 == 3&&k2 == 2))=false:=by
 rw [NO h];rcases EJ h0 with rfl|rfl|rfl|rfl<;>rcases EJ h2 with rfl|rfl|rfl|rfl<;>cases S<;>simp [iN,qA,gC,fL,xQ]
theorem FU (h:i.right) (h0:0<=a) (ha:a < i.methods.length):lM (i.meth a).params:=(h.2.2.1.2.1 _ (dN.meth_mem h0 ha)).1.1
theorem PY (h:i.right) (h0:0<=a) (ha:a < i.imports.length):lM (i.imp a).params:=(h.2.1.2 _ (dN.imp_mem h0 ha)).2.1.1
theorem aMp {p:fZ} {row:List Z} {x:gN} {sv:Z} {s:List Int} (h:gZ w p i) (hm:iO w row m) (hx:rT i m x) (hs:aQ w sv s) (ks:lM s) (h8:s.length<=8)
  (yes:∀ out v w',tS i m x s=some out->w'.ownsRow w.heap.size 3 1 v out.length (out.map i64)->aE w w'->K (.tuple #[v,i64 0]) w') (no:∀ e w',tS i m x s=none->e≠0->aE w w'->K (.tuple #[cM,i64 e]) w') :
  aB prog 113 #[p.val i,.agg row.toArray,.agg #[i64 x.op,i64 x.a,i64 x.b],sv] w K:=by
 obtain ⟨op,a,b⟩:=x;have hx0:=hx;obtain ⟨ir,mr,⟨ho,a1,a2,_⟩,hn⟩:=hx;dsimp only at ho a1 a2;have hm0:=hm;obtain ⟨pv,lv,cv,rfl,hp,hl,hc⟩:=hm;apply aIh;unfold LR fZ.val;refine bx λb1 w1 hb1 x1=>?_;refine bx λb2 w2 hb2 x2=>?_;refine bx λb3 w3 hb3 x3=>?_;have hb1:=(hb1.ext x2).ext x3;have hb2:fB w3 b2 [pv,i64 m.result,lv,cv]:=hb2.ext x3;have xx:=(x1.trans x2).trans x3;refine lF hb1 kF rfl (lF hb2 lV rfl (lF hb3 gU rfl ?_));refine aAu (h.ext xx) (hm0.ext xx) hx0 λw4 x4=>?_;have xx4:=xx.trans x4;refine hU aM (hs.ext xx4) (bP.2 (aK (λhlt=>?_) λhge=>?_))
 ·refine no 10 _ ?_ (by decide) xx4;unfold tS;dsimp only;rw [if_pos (.inl (by omega))]
 refine hU aM (hs.ext xx4) (iL.2 ?_);rw [aU (by omega),show (s.length:Int) - ((aI i m ⟨op,a,b⟩).length:Int)=((s.length - (aI i m ⟨op,a,b⟩).length:Nat):Int) by omega];obtain ⟨tv,trun,tsl⟩:=MK underlying42 fX (hs.ext xx4) (lo:=some (.int .i64 ((s.length - (aI i m ⟨op,a,b⟩).length:Nat):Int))) (hi':=none) (a:=s.length - (aI i m ⟨op,a,b⟩).length) (b:=s.length) (.inr rfl) (.inl ⟨rfl,rfl⟩) (by omega) (Nat.le_refl _);refine V.ok (trun _) ?_;refine hU aM (hs.ext xx4) (iL.2 ?_);rw [aU (by omega),show (s.length:Int) - ((aI i m ⟨op,a,b⟩).length:Int)=((s.length - (aI i m ⟨op,a,b⟩).length:Nat):Int) by omega];obtain ⟨uv,urun,usl⟩:=MK underlying42 fX (hs.ext xx4) (lo:=none) (hi':=some (.int .i64 ((s.length - (aI i m ⟨op,a,b⟩).length:Nat):Int))) (a:=0) (b:=s.length - (aI i m ⟨op,a,b⟩).length) (.inl ⟨rfl,rfl⟩) (.inr rfl) (by omega) (by omega);refine V.ok (urun _) ?_
 have hu4:aA w4 uv 1 (s.length - (aI i m ⟨op,a,b⟩).length) ((s.take (s.length - (aI i m ⟨op,a,b⟩).length)).map i64):=by
  have:=usl _ (hs.ext xx4);simpa [List.map_take] using this
 have ht4:aQ w4 tv (s.drop (s.length - (aI i m ⟨op,a,b⟩).length)):=by
  have:=tsl _ (hs.ext xx4);unfold aQ;rw [List.length_drop,List.map_drop];have e2:((s.map i64).drop (s.length - (aI i m ⟨op,a,b⟩).length)).take (s.length - (s.length - (aI i m ⟨op,a,b⟩).length))=(s.map i64).drop (s.length - (aI i m ⟨op,a,b⟩).length):=List.take_of_length_le (by simp)
  rwa [e2] at this
 refine hU aM hu4 ?_;refine lF (hb1.ext x4) kF rfl (lF (hb3.ext x4) gU rfl ?_);refine aCw (h.ext xx4) hx0 λw5 x5=>dS.2 ?_;have xx5:=xx4.trans x5
 have hh2:hgt i m ⟨op,a,b⟩<=2:=by
  unfold hgt;rcases vL ho with rfl|rfl|rfl|rfl|rfl|rfl|rfl|rfl|rfl|rfl|rfl|rfl|rfl|rfl|rfl|rfl|rfl|rfl|rfl|rfl|rfl|rfl|rfl|rfl|rfl|rfl|rfl|rfl|rfl|rfl|rfl|rfl|rfl|rfl|rfl|rfl|rfl|rfl|rfl<;>first|exact Nat.zero_le _|exact Nat.le_succ 1|exact Nat.le_refl _|exact Nat.le_succ_of_le (wZ _)
 rw [aU (by omega)];refine jJ.2 (aK (λhgt8=>?_) λhle8=>?_)
 ·refine no 10 _ ?_ (by decide) xx5;unfold tS;dsimp only;rw [if_pos (.inr (by omega))]
 have hdo:∀ {l},l=s.drop (s.length - (aI i m ⟨op,a,b⟩).length)->tS i m ⟨op,a,b⟩ s=if kM ⟨op,a,b⟩ (aI i m ⟨op,a,b⟩) l=true/\iR ⟨op,a,b⟩ (aI i m ⟨op,a,b⟩) l=false then some (s.take (s.length - (aI i m ⟨op,a,b⟩).length)++fU i m ⟨op,a,b⟩ l) else none:=by
  rintro _ rfl;unfold tS;dsimp only;rw [if_neg (by omega)]
 have hkl:lM (s.drop (s.length - (aI i m ⟨op,a,b⟩).length)):=λk hk=>ks k (List.mem_of_mem_drop hk);have hll:(s.drop (s.length - (aI i m ⟨op,a,b⟩).length)).length=(aI i m ⟨op,a,b⟩).length:=by rw [List.length_drop];omega
 have ht5:=ht4.ext x5;generalize hL:s.drop (s.length - (aI i m ⟨op,a,b⟩).length)=l at ht5 hkl hll;have hdo:=hdo hL.symm;refine kO aNb [] rfl rfl ?_;refine QG λw6 hW0 x6=>?_;have x36:=(x4.trans x5).trans x6;have hb1:=hb1.ext x36;have hb2:=hb2.ext x36;have hb3:=hb3.ext x36;have xx6:=xx5.trans x6;have hg0:w5.heap.size<=w5.heap.size:=Nat.le_refl _;generalize hg:w5.heap.size=g at hW0 hg0;have hW0:Wr w6 g false false:=hW0;have f1:=(h.ext xx5);have f2:=hm0.ext xx5;have fb1:∀ {w'},aE w5 w'->fB w' b1 [.string i.name,p.fv,p.iv,p.mv,p.xv]:=λhx=>(((‹fB w3 b1 _›).ext x4).ext x5).ext hx;have fb2:∀ {w'},aE w5 w'->fB w' b2 [pv,i64 m.result,lv,cv]:=λhx=>(((‹fB w3 b2 [pv,i64 m.result,lv,cv]›).ext x4).ext x5).ext hx;have fb3:∀ {w'},aE w5 w'->fB w' b3 [i64 op,i64 a,i64 b]:=λhx=>(((‹fB w3 b3 _›).ext x4).ext x5).ext hx;have hgs:w5.heap.size<=g:=by omega
 refine bQ hb3 aT aF rfl (AQ ho ?_);obtain ⟨pc1,pc2,pc3⟩:=aBo (i:=i) (m:=m) (a:=a) (b:=b) ho;refine ⟨λv w'=>∃ j:Nat,v=i64 j/\j<=(hJ op).length/\aE w5 w'/\Wr w' g (mO ((hJ op).take j) (l.take j)) (nS ((hJ op).take j) (l.take j)),λv _=>(hJ op).length - (RowKit.intOf v).toNat,⟨0,rfl,Nat.zero_le _,x6,hW0⟩,?_⟩;rintro _ w7 ⟨j,rfl,hj,x7,hW⟩ _;refine V.ok (qP underlying9) (bP.2 (aK (λhlt=>?_) λhge=>?_))
 ·have hlt':j < (hJ op).length:=by simpa [ByteArray.size] using hlt
  obtain ⟨c,hc1⟩:∃ c,(hJ op)[j]?=some c:=⟨_,List.getElem?_eq_getElem hlt'⟩;have hk1:=jW (l:=l) (j:=j) (by omega);have hkd:=hkl _ (List.mem_of_getElem? hk1);have eK:=AU hc1 hk1;have eL:=AR hc1 hk1;generalize mO ((hJ op).take j) (l.take j)=A at hW eK;generalize nS ((hJ op).take j) (l.take j)=B at hW eL
  have hsc:(⟨(hJ op).toArray⟩:ByteArray)[j]?=some c:=by
   rw [List.getElem?_eq_some_iff] at hc1;obtain ⟨hq,he⟩:=hc1;rw [getElem?_pos _ _ (by simpa [ByteArray.size] using hq)];exact congrArg some he
  refine V.ok (sA underlying9 hsc) (aO.2 ?_)
  have go:∀ {w'} {A' B'},aE w5 w'->Wr w' g A' B'->A'=mO ((hJ op).take (j+1)) (l.take (j+1))->B'=nS ((hJ op).take (j+1)) (l.take (j+1))->V prog (binOp .add 3 (i64 j) (i64 1)) w' λt w2=>
    (∃ j:Nat,t=i64 j/\j<=(hJ op).length/\aE w5 w2/\Wr w2 g (mO ((hJ op).take j) (l.take j)) (nS ((hJ op).take j) (l.take j)))/\(hJ op).length - (RowKit.intOf t).toNat < (hJ op).length - (RowKit.intOf (i64 (j:Int))).toNat:=by
   intro w' A' B' hx hw e1 e2;subst e1 e2;refine dS.2 ?_;have:(hJ op).length<=8:=by omega
   rw [aU (by omega),eI];exact ⟨⟨j+1,rfl,by omega,hx,hw⟩,by simp only [aW];omega⟩
  by_cases h97:c=97
  ·subst h97;simp only [show (((97:UInt8).toNat:Nat):Int)=97 from rfl,aN];refine ⟨.inl ⟨_,rfl⟩,bQ hW.boxed cW jZ rfl ?_⟩;rw [if_pos rfl] at eK;simp only [show ((97:UInt8) == 112)=false from rfl,Bool.false_and,Bool.or_false] at eL
   have st:∀ v,v=mO ((hJ op).take (j+1)) (l.take (j+1))->V prog (Instr.fieldAt 266 (.pointer (some ⟨g,0,none⟩)) 0) w7 λt76 w43=>U prog (Instr.storeAt 4 t76 (.bool v)) w43 λ_ w44=>V prog (binOp .add 3 (i64 j) (i64 1)) w44 λt w2=>
    (∃ j:Nat,t=i64 j/\j<=(hJ op).length/\aE w5 w2/\Wr w2 g (mO ((hJ op).take j) (l.take j)) (nS ((hJ op).take j) (l.take j)))/\(hJ op).length - (RowKit.intOf t).toNat < (hJ op).length - (RowKit.intOf (i64 (j:Int))).toNat:=by
    rintro v hv;refine CK cW mP hW (n:=2) rfl (by decide) rfl ?_;exact go (x7.setCell hgs _) (hW.set 0 _) hv eL.symm
   cases A with
   | true=>simp only [aN];exact ⟨.inl ⟨_,rfl⟩,st _ (by rw [eK];rfl)⟩
   | false=>
    simp only [aN];refine kP aM aF (ht5.ext x7) (by omega) (by omega) (fD hk1) (pT (gG.2 ?_));exact ⟨.inl ⟨_,rfl⟩,st _ (by rw [eK];rfl)⟩
  ·have hcn:¬ ((c.toNat:Int)=97):=λe=>h97 (by
    apply UInt8.toNat_inj.1;have:c.toNat=97:=by omega
    exact this)
   simp only [hcn,aN];rw [if_neg h97] at eK;refine ⟨.inl ⟨_,rfl⟩,bQ hW.boxed cW jZ rfl ?_⟩
   have second:∀ {w1},aE w5 w1->Wr w1 g (mO ((hJ op).take (j+1)) (l.take (j+1))) B->∀ v,v=nS ((hJ op).take (j+1)) (l.take (j+1))->V prog (Instr.fieldAt 266 (.pointer (some ⟨g,0,none⟩)) 1) w1 λt76 w43=>U prog (Instr.storeAt 4 t76 (.bool v)) w43 λ_ w44=>V prog (binOp .add 3 (i64 j) (i64 1)) w44 λt w2=>
    (∃ j:Nat,t=i64 j/\j<=(hJ op).length/\aE w5 w2/\Wr w2 g (mO ((hJ op).take j) (l.take j)) (nS ((hJ op).take j) (l.take j)))/\(hJ op).length - (RowKit.intOf t).toNat < (hJ op).length - (RowKit.intOf (i64 (j:Int))).toNat:=by
    rintro w1 hx hw v hv;refine CK cV mP hw (n:=2) rfl (by decide) rfl ?_;exact go (hx.setCell hgs _) (hw.set 1 _) rfl hv
   have kpart:∀ v,v=mO ((hJ op).take (j+1)) (l.take (j+1))->aE w5 (w7.setCell ⟨g,0,none⟩ (.bool v))/\Wr (w7.setCell ⟨g,0,none⟩ (.bool v)) g (mO ((hJ op).take (j+1)) (l.take (j+1))) B:=by
    rintro _ rfl;exact ⟨x7.setCell hgs _,hW.set 0 _⟩
   have hch:c=112\/c=105:=by
    rcases pc1 c (List.mem_of_getElem? hc1) with h1|h1|h1
    ·exact absurd h1 h97
    ·exact .inl h1
    ·exact .inr h1
   cases A with
   | true=>
    simp only [aN];refine ⟨.inl ⟨_,rfl⟩,?_⟩;refine CK cW mP hW (n:=2) rfl (by decide) rfl ⟨.inl ⟨_,rfl⟩,?_⟩;obtain ⟨kx,kw⟩:=kpart true (by rw [eK];rfl);refine bQ kw.boxed cV jZ rfl ?_;cases B with
    | true=>simp only [aN];exact ⟨.inl ⟨_,rfl⟩,second kx kw _ (by rw [eL];rfl)⟩
    | false=>
     simp only [aN];refine V.ok (sA underlying9 hsc) (aO.2 ?_);rcases hch with rfl|rfl
     ·simp only [show (((112:UInt8).toNat:Nat):Int)=112 from rfl,aN];refine kP aM aF (ht5.ext kx) (by omega) (by omega) (fD hk1) (vT ?_);exact ⟨.inl ⟨_,rfl⟩,second kx kw _ (by rw [eL];rfl)⟩
     ·simp only [show (((105:UInt8).toNat:Nat):Int)=105 from rfl,aN,Int.reduceEq];exact ⟨.inl ⟨_,rfl⟩,second kx kw _ (by rw [eL];rfl)⟩
   | false=>
    simp only [aN];refine kP aM aF (ht5.ext x7) (by omega) (by omega) (fD hk1) (pS (gG.2 ?_));refine ⟨.inl ⟨_,rfl⟩,?_⟩;refine CK cW mP hW (n:=2) rfl (by decide) rfl ⟨.inl ⟨_,rfl⟩,?_⟩;obtain ⟨kx,kw⟩:=kpart (!fL (cT l j)) (by rw [eK];rfl);refine bQ kw.boxed cV jZ rfl ?_;cases B with
    | true=>simp only [aN];exact ⟨.inl ⟨_,rfl⟩,second kx kw _ (by rw [eL];rfl)⟩
    | false=>
     simp only [aN];refine V.ok (sA underlying9 hsc) (aO.2 ?_);rcases hch with rfl|rfl
     ·simp only [show (((112:UInt8).toNat:Nat):Int)=112 from rfl,aN];refine kP aM aF (ht5.ext kx) (by omega) (by omega) (fD hk1) (vT ?_);exact ⟨.inl ⟨_,rfl⟩,second kx kw _ (by rw [eL];rfl)⟩
     ·simp only [show (((105:UInt8).toNat:Nat):Int)=105 from rfl,aN,Int.reduceEq];exact ⟨.inl ⟨_,rfl⟩,second kx kw _ (by rw [eL];rfl)⟩
 have hjl:j=(hJ op).length:=by
  have:¬ j < (hJ op).length:=λhh=>hge (by simpa [ByteArray.size] using hh);omega
 subst hjl;rw [List.take_length] at hW;have J:∀ {w' kf lf},aE w5 w'->Wr w' g kf lf->((kf||lf)=false↔qY i m ⟨op,a,b⟩ l)->∃ kf lf,Wr w' g kf lf/\aE w5 w'/\((kf||lf)=false↔qY i m ⟨op,a,b⟩ l):=λh1 h2 h3=>⟨_,_,h2,h1,h3⟩
 have rd:∀ {w' n u K},aE w5 w'->n < l.length->u=i64 (cT l n)->K u w'->V prog (Instr.indexAt 42 tv (i64 (n:Nat))) w' λp w1=>V prog (Instr.loadAt 3 p) w1 K:=λ{w' n u K} hx hn hu hK=>by
  subst hu;exact kP aM aF (ht5.ext hx) (by omega) (by omega) (fD (jW hn)) hK
 refine ⟨λw'=>∃ kf lf,Wr w' g kf lf/\aE w5 w'/\((kf||lf)=false↔qY i m ⟨op,a,b⟩ l),?_,?_⟩
 ·refine bQ (fb3 x7) aT aF rfl ?_;by_cases c3:op=3
  ·subst c3;have a1:0<=a:=a1;have hna:a < (m.locs.length:Int):=hn;have hl1:l.length=1:=hll;have hkd:=pR (DC mr) (k:=a.toNat) (by omega);have hk0:=mC hkl (n:=0) (by omega);simp only [aN,Int.reduceEq];refine lF (fb2 x7) lV rfl ?_;refine bQ (fb3 x7) aR aF rfl ?_;refine DF (f2.ext x7) mr a1 λw8 x8=>gM.2 (gL.2 ?_);refine rd (n:=0) (x7.trans x8) (by omega) rfl ?_;refine xR hk0 hkd ?_;refine tT (dW.ext hW x8) λw9 hW9 hx9=>J (hx9 _ (x7.trans x8) hgs) hW9 ?_;rw [xY ⟨by decide,by decide,by decide,by decide⟩,aBv hl1];have:=inA (t:=[m.locs.getD a.toNat 0]) (l:=[cT l 0]) (by intro k hk;rw [List.mem_singleton] at hk;subst hk;exact hkd) (by intro k hk;rw [List.mem_singleton] at hk;subst hk;exact hk0);simp only [NK,NJ,Bool.or_false] at this;exact this
  by_cases c34:op=34
  ·subst c34;have a1:0<=a:=a1;have hna:a < (i.fields.length:Int):=hn;have hl1:l.length=1:=hll;have hkd:=pR ir.1.1 (k:=a.toNat) (by omega);have hk0:=mC hkl (n:=0) (by omega);simp only [aN,Int.reduceEq];have D1:aE w7 w7.drew:=(aE.refl _).drew;have xd:=x7.trans D1;refine aJ.mk' (λw'=>aE w5 w') xd ?_;refine lT aM aF ht5 (λ_ h=>h) (by omega) (by omega) (fD (j:=0) (jW (by omega))) ?_;refine gY (λw' hw=>fb1 hw) eE bJ rfl ?_;refine gY (λw' hw=>fb3 hw) aR aF rfl ?_;obtain ⟨ka,hka⟩:∃ ka:Nat,a=ka:=⟨a.toNat,by omega⟩;have hfi:i.fields[ka]?=some (i.fields.getD a.toNat 0):=by rw [hka,Int.toNat_natCast];exact fY (by omega)
   refine lT aM aF f1.fl (λ_ h=>h) a1 hna (by rw [hka];exact fD hfi) ?_;refine xR hk0 hkd ⟨xd,?_⟩;refine tT (dW.ext hW D1) λw9 hW9 hx9=>J (hx9 _ xd hgs) hW9 ?_;rw [xY ⟨by decide,by decide,by decide,by decide⟩,aBv hl1];have:=inA (t:=[i.fields.getD a.toNat 0]) (l:=[cT l 0]) (by intro k hk;rw [List.mem_singleton] at hk;subst hk;exact hkd) (by intro k hk;rw [List.mem_singleton] at hk;subst hk;exact hk0);simp only [NK,NJ,Bool.or_false] at this;exact this
  by_cases c22:op=22
  ·subst c22;have hl3:l.length=3:=hll;have hk0:=mC hkl (n:=0) (by omega);have hk1:=mC hkl (n:=1) (by omega);have hk2:=mC hkl (n:=2) (by omega)
   have hgood:qY i m ⟨22,a,b⟩ l↔(iN [-2,-1,-1] [cT l 0,cT l 1,cT l 2]&&(fL (cT l 1)&&fL (cT l 2)||gC (cT l 1)&&cT l 1 == cT l 2))=true/\(gC (cT l 1)&&cT l 0 == 2)=false:=by
    have e:qY i m ⟨22,a,b⟩ l=((iN [-2,-1,-1] l&&(fL (cT l 1)&&fL (cT l 2)||gC (cT l 1)&&cT l 1 == cT l 2))=true/\(gC (cT l 1)&&cT l 0 == 2)=false):=rfl;rw [e,<- aKx hl3]
   have hf:=(aMe hk0 hk1 hk2).trans hgood.symm;have hW:Wr w7 g false false:=hW;simp only [aN,Int.reduceEq];have D1:aE w7 w7.drew:=(aE.refl _).drew;have xd:=x7.trans D1;have hWd:Wr w7.drew g false false:=dW.ext hW D1;refine aJ.mk' (λw'=>aE w5 w'/\Wr w' g false false) ⟨xd,hWd⟩ ⟨.inl ⟨_,rfl⟩,?_⟩;refine gY (λw' hw=>(dW.boxed hw.2)) cW jZ rfl ?_;simp only [aN];have yr:∀ {n L},n < l.length->L (i64 (cT l n))->aC prog (λw'=>aE w5 w'/\Wr w' g false false) (Instr.indexAt 42 tv (i64 (n:Nat))) λp=>aC prog (λw'=>aE w5 w'/\Wr w' g false false) (Instr.loadAt 3 p) L:=λ{n L} hn hL=>lT aM aF ht5 (λ_ h=>h.1) (by omega) (by omega) (fD (jW hn)) hL;refine yr (n:=0) (by omega) (pS ⟨⟨xd,hWd⟩,aC.ok (λw' _=>uU) ?_⟩)
   have leak:∀ (kf:Bool) {w'},kf=(!fL (cT l 0)||(fL (cT l 1) != fL (cT l 2))||(gC (cT l 1)&&(cT l 1 != cT l 2)))->w'=w7.drew.setCell ⟨g,0,none⟩ (.bool kf)->(aE w5 w'/\Wr w' g kf false):=by
    rintro kf _ _ rfl;exact ⟨xd.setCell hgs _,dW.set hWd 0 _⟩
   have fin:∀ (kf lf:Bool) {w'},kf=(!fL (cT l 0)||(fL (cT l 1) != fL (cT l 2))||(gC (cT l 1)&&(cT l 1 != cT l 2)))->lf=(gC (cT l 1)&&xQ (cT l 0))->aE w5 w'->Wr w' g kf false ->
     V prog (Instr.fieldAt 266 (.pointer (some ⟨g,0,none⟩)) 1) w' λt204 w117=>U prog (Instr.storeAt 4 t204 (.bool lf)) w117 λ_ w118=>∃ kf lf,Wr w118 g kf lf/\aE w5 w118/\((kf||lf)=false↔qY i m ⟨22,a,b⟩ l):=by
    intro kf lf w' e1 e2 hx hw;refine CK cV mP hw (n:=2) rfl (by decide) rfl ?_;exact J (hx.setCell hgs _) (hw.set 1 _) (by rw [e1,e2];exact hf)
   have rest:∀ (kf:Bool),kf=(!fL (cT l 0)||(fL (cT l 1) != fL (cT l 2))||(gC (cT l 1)&&(cT l 1 != cT l 2)))->aC prog (λw'=>aE w5 w'/\Wr w' g false false) (Instr.fieldAt 266 (.pointer (some ⟨g,0,none⟩)) 0) λt185=>U prog (Instr.storeAt 4 t185 (.bool kf)) w7.drew λ_ w101=>
     Go.Vc.aY (.pointer (some ⟨g,0,none⟩))/\V prog (Instr.fieldAt 266 (.pointer (some ⟨g,0,none⟩)) 1) w101 λt189 w103=>V prog (Instr.loadAt 4 t189) w103 λt190 w104=>
     gd t190 false (λK=>K tv w104) w104 λt192 w105=>gd t190 false (λK=>V prog (Instr.indexAt 42 t192 (i64 1)) w105 K) w105 λt193 w106=>gd t190 false (λK=>V prog (Instr.loadAt 3 t193) w106 K) w106 λt194 w107=>gd t190 false (λK=>aB prog 147 #[t194] w107 K) w107 λt195 w108=>
     gd t190 false (λK=>K t195 w108) w108 λt196 w109=>gd t196 true (λK=>K tv w109) w109 λt197 w110=>gd t196 true (λK=>V prog (Instr.indexAt 42 t197 (i64 0)) w110 K) w110 λt198 w111=>gd t196 true (λK=>V prog (Instr.loadAt 3 t198) w111 K) w111 λt199 w112=>
     gd t196 true (λK=>aB prog 149 #[t199] w112 K) w112 λt200 w113=>gd t190 false (λK=>aG t196 t200 (.bool false) λv=>K v w113) w113 λt201 w114=>aG t190 (.bool true) t201 λt202=>
     Go.Vc.aY (.pointer (some ⟨g,0,none⟩))/\V prog (Instr.fieldAt 266 (.pointer (some ⟨g,0,none⟩)) 1) w114 λt204 w117=>U prog (Instr.storeAt 4 t204 t202) w117 λ_ w118=>∃ kf lf,Wr w118 g kf lf/\aE w5 w118/\((kf||lf)=false↔qY i m ⟨22,a,b⟩ l):=by
    intro kf e1;refine aC.ok (λw' _=>(cW:FA prog 266 0 0).ex w' g 0) ?_;refine MA mP hWd (n:=2) rfl (o:=0) (by decide) rfl ⟨.inl ⟨_,rfl⟩,?_⟩;obtain ⟨lx,lw⟩:=leak kf e1 rfl;refine bQ lw.boxed cV jZ rfl ?_;simp only [aN];refine rd (n:=1) lx (by omega) rfl (pT ?_);cases hz:gC (cT l 1) with
    | false=>simp only [aN];exact ⟨.inl ⟨_,rfl⟩,fin kf _ e1 (by rw [hz];rfl) lx lw⟩
    | true=>
     simp only [aN];refine rd (n:=0) lx (by omega) rfl (vT ?_);exact ⟨.inl ⟨_,rfl⟩,fin kf _ e1 (by rw [hz];rfl) lx lw⟩
   cases i0:fL (cT l 0) with
   | false=>
    simp only [aN];exact ⟨⟨xd,hWd⟩,⟨xd,hWd⟩,⟨xd,hWd⟩,.inl ⟨_,rfl⟩,rest _ (by rw [i0];rfl)⟩
   | true=>
    simp only [aN];refine yr (n:=1) (by omega) (yr (n:=2) (by omega) ?_);refine pS ⟨⟨xd,hWd⟩,pS ⟨⟨xd,hWd⟩,aC.ok (λw' _=>WC) ?_⟩⟩;cases i12:(fL (cT l 1) != fL (cT l 2)) with
    | true=>
     simp only [aN];exact ⟨⟨xd,hWd⟩,.inl ⟨_,rfl⟩,rest _ (by rw [i0,i12];rfl)⟩
    | false=>
     simp only [aN];refine yr (n:=1) (by omega) (pT ⟨⟨xd,hWd⟩,?_⟩);cases a1':gC (cT l 1) with
     | false=>simp only [aN];exact ⟨.inl ⟨_,rfl⟩,rest _ (by rw [i0,i12,a1'];rfl)⟩
     | true=>
      simp only [aN];refine yr (n:=1) (by omega) (yr (n:=2) (by omega) (aC.ok (λw' _=>CT) ?_));exact ⟨.inl ⟨_,rfl⟩,rest _ (by rw [i0,i12,a1'];by_cases hq:cT l 1=cT l 2<;>simp [hq])⟩
  have hP:=aQz (p:=hJ op) (l:=l) pc1 hkl
  have st1:∀ (kf lf:Bool) {w'},((kf||lf)=false↔qY i m ⟨op,a,b⟩ l)->(∃ lf0,Wr w' g kf lf0)->aE w5 w' ->
    V prog (Instr.fieldAt 266 (.pointer (some ⟨g,0,none⟩)) 1) w' λt204 w117=>U prog (Instr.storeAt 4 t204 (.bool lf)) w117 λ_ w118=>∃ kf lf,Wr w118 g kf lf/\aE w5 w118/\((kf||lf)=false↔qY i m ⟨op,a,b⟩ l):=by
   rintro kf lf w' hf ⟨lf0,hw⟩ hx;refine CK cV mP hw (n:=2) rfl (by decide) rfl ?_;exact J (hx.setCell hgs _) (hw.set 1 _) hf
  by_cases c30:op=30
  ·subst c30;have hl3:l.length=3:=hll;have hk0:=mC hkl (n:=0) (by omega);have hk1:=mC hkl (n:=1) (by omega);have hk2:=mC hkl (n:=2) (by omega);have e3:l.take (hJ 30).length=l:=List.take_of_length_le (by rw [hl3];exact Nat.le_refl _);rw [e3] at hW
   have hgood:qY i m ⟨30,a,b⟩ l↔iN [-4,-3,-2] [cT l 0,cT l 1,cT l 2]=true/\(gK [-4,-3,-2] [cT l 0,cT l 1,cT l 2]||(cT l 0 == 3&&cT l 2 == 2))=false:=by
    rw [<- aKx hl3];unfold qY kM iR;dsimp only;rw [if_neg (by decide),if_neg (by decide),if_pos rfl,show aI i m ⟨30,a,b⟩=[-4,-3,-2] from rfl,Bool.and_true]
   have hP:(mO (hJ 30) l||nS (hJ 30) l)=false↔iN [-4,-3,-2] [cT l 0,cT l 1,cT l 2]=true/\gK [-4,-3,-2] [cT l 0,cT l 1,cT l 2]=false:=by
    rw [<- aKx hl3];exact hP
   have hz:=(aMd hk0 hk1 hk2 hP).trans hgood.symm;generalize mO (hJ 30) l=A at hW hz;generalize nS (hJ 30) l=B at hW hz;simp only [aN,Int.reduceEq];refine ⟨.inl ⟨_,rfl⟩,bQ hW.boxed cV jZ rfl ?_⟩;cases B with
   | true=>simp only [aN];exact ⟨.inl ⟨_,rfl⟩,st1 A _ (by simpa using hz) ⟨_,hW⟩ x7⟩
   | false=>
    simp only [aN];refine rd (n:=0) x7 (by omega) rfl (aO.2 ?_);by_cases z0:cT l 0=3
    ·simp only [z0,aN];refine rd (n:=2) x7 (by omega) rfl (vT ?_);exact ⟨.inl ⟨_,rfl⟩,st1 A _ (by simpa [z0] using hz) ⟨_,hW⟩ x7⟩
    ·simp only [z0,aN];exact ⟨.inl ⟨_,rfl⟩,st1 A _ (by simpa [z0] using hz) ⟨_,hW⟩ x7⟩
  by_cases c31:op=31
  ·subst c31;have hl5:l.length=5:=hll;have e3:l.take (hJ 31).length=l:=List.take_of_length_le (by rw [hl5];exact Nat.le_refl _);rw [e3] at hW
   have hgood:qY i m ⟨31,a,b⟩ l↔iN [-4,-3,-4,-3,-3] l=true/\(gK [-4,-3,-4,-3,-3] l||(cT l 0 == 3&&cT l 2 == 4))=false:=by
    unfold qY kM iR;dsimp only;rw [if_neg (by decide),if_neg (by decide),if_neg (by decide),if_pos rfl,show aI i m ⟨31,a,b⟩=[-4,-3,-4,-3,-3] from rfl,Bool.and_true]
   have hP:(mO (hJ 31) l||nS (hJ 31) l)=false↔iN [-4,-3,-4,-3,-3] l=true/\gK [-4,-3,-4,-3,-3] l=false:=hP;have hz:=(NO (z:=(cT l 0 == 3&&cT l 2 == 4)) hP).trans hgood.symm;generalize mO (hJ 31) l=A at hW hz;generalize nS (hJ 31) l=B at hW hz;simp only [aN,Int.reduceEq];refine ⟨.inl ⟨_,rfl⟩,bQ hW.boxed cV jZ rfl ?_⟩;cases B with
   | true=>simp only [aN];exact ⟨.inl ⟨_,rfl⟩,st1 A _ (by simpa using hz) ⟨_,hW⟩ x7⟩
   | false=>
    simp only [aN];refine rd (n:=0) x7 (by omega) rfl (aO.2 ?_);by_cases z0:cT l 0=3
    ·simp only [z0,aN];refine rd (n:=2) x7 (by omega) rfl (aO.2 ?_);exact ⟨.inl ⟨_,rfl⟩,st1 A _ (by simpa [z0] using hz) ⟨_,hW⟩ x7⟩
    ·simp only [z0,aN];exact ⟨.inl ⟨_,rfl⟩,st1 A _ (by simpa [z0] using hz) ⟨_,hW⟩ x7⟩
  by_cases c36:op=36
  ·subst c36;have hl3:l.length=3:=hll;have e3:l.take (hJ 36).length=l:=List.take_of_length_le (by rw [hl3];exact Nat.le_refl _);rw [e3] at hW
   have hgood:qY i m ⟨36,a,b⟩ l↔iN [-4,-3,-3] l=true/\(gK [-4,-3,-3] l||(a == 1&&cT l 0 == 4))=false:=by
    unfold qY kM iR;dsimp only;rw [if_neg (by decide),if_neg (by decide),if_neg (by decide),if_neg (by decide),if_pos rfl,show aI i m ⟨36,a,b⟩=[-4,-3,-3] from rfl,Bool.and_true]
   have hP:(mO (hJ 36) l||nS (hJ 36) l)=false↔iN [-4,-3,-3] l=true/\gK [-4,-3,-3] l=false:=hP;have hz:=(NO (z:=(a == 1&&cT l 0 == 4)) hP).trans hgood.symm;generalize mO (hJ 36) l=A at hW hz;generalize nS (hJ 36) l=B at hW hz;simp only [aN,Int.reduceEq];refine ⟨.inl ⟨_,rfl⟩,bQ hW.boxed cV jZ rfl ?_⟩;cases B with
   | true=>simp only [aN];exact ⟨.inl ⟨_,rfl⟩,st1 A _ (by simpa using hz) ⟨_,hW⟩ x7⟩
   | false=>
    simp only [aN];refine bQ (fb3 x7) aR aF rfl (aO.2 ?_);by_cases z0:a=1
    ·subst z0;simp only [aN];refine rd (n:=0) x7 (by omega) rfl (aO.2 ?_);exact ⟨.inl ⟨_,rfl⟩,st1 A (decide (cT l 0=4)) (by simpa using hz) ⟨_,hW⟩ x7⟩
    ·simp only [z0,aN];exact ⟨.inl ⟨_,rfl⟩,st1 A _ (by simpa [z0] using hz) ⟨_,hW⟩ x7⟩
  by_cases c37:op=37
  ·subst c37;have a1:0<=a:=a1;obtain ⟨ka,rfl⟩:∃ ka:Nat,a=ka:=⟨a.toNat,by omega⟩;have hna:(ka:Int) < (i.methods.length:Int):=hn;have hlp:l.length=(i.meth (ka:Int)).params.length:=hll;have hkp:lM (i.meth (ka:Int)).params:=FU ir a1 hna;have hW:Wr w7 g false false:=hW;have e3:aI i m ⟨37,(ka:Int),b⟩=(i.meth (ka:Int)).params:=rfl;simp only [aN,Int.reduceEq];refine ⟨λv w'=>∃ j:Nat,v=i64 j/\j<=l.length/\aE w5 w'/\Wr w' g (NK ((i.meth (ka:Int)).params.take j) (l.take j)) (NJ ((i.meth (ka:Int)).params.take j) (l.take j)),λv _=>l.length - (RowKit.intOf v).toNat,⟨0,rfl,Nat.zero_le _,x7,hW⟩,?_⟩;rintro _ w8 ⟨j,rfl,hj,x8,hW8⟩ _;rw [e3];refine bP.2 (aK (λhlt=>?_) λhge=>?_)
   ·have hk1:=jW (l:=l) (j:=j) (by omega);obtain ⟨q,hq⟩:=fQ (l:=(i.meth (ka:Int)).params) (j:=j) (by omega);have D1:aE w8 w8.drew:=(aE.refl _).drew;have xd:=x8.trans D1;refine aJ.mk' (λw'=>aE w5 w') xd ?_;refine lT aM aF ht5 (λ_ h=>h) (by omega) (by omega) (fD hk1) ?_;refine gY (λw' hw=>fb1 hw) bF fS rfl ?_;refine gY (λw' hw=>fb3 hw) aR aF rfl ?_;have hmi:=iI a1 hna;rw [Int.toNat_natCast] at hmi;refine ySF iA dR bJ f1.mt (λ_ h=>h) hmi λrow hrow=>?_;obtain ⟨pv9,lv9,cv9,rfl,hp9,_,_⟩:=hrow;refine ⟨pv9,rfl,by decide,?_⟩;refine lT aM aF hp9 (λ_ h=>h) (by omega) (by omega) (fD hq) ?_;refine xR (hkl _ (List.mem_of_getElem? hk1)) (hkp _ (List.mem_of_getElem? hq)) ⟨xd,?_⟩;refine tT (dW.ext hW8 D1) λw9 hW9 hx9=>⟨hx9 _ xd hgs,dS.2 ?_⟩;rw [aU (by omega),eI];refine ⟨⟨j+1,rfl,by omega,hx9 _ xd hgs,?_⟩,by simp only [aW];omega⟩;rw [xV hq hk1,xU hq hk1];exact hW9
   ·have hjl:j=l.length:=by omega
    subst hjl;rw [List.take_length,hlp,List.take_length] at hW8;refine J x8 hW8 ?_;rw [xY ⟨by decide,by decide,by decide,by decide⟩,e3];exact inA hkp hkl
  by_cases c38:op=38
  ·subst c38;have a1:0<=a:=a1;obtain ⟨ka,rfl⟩:∃ ka:Nat,a=ka:=⟨a.toNat,by omega⟩;have hna:(ka:Int) < (i.imports.length:Int):=hn;have hlp:l.length=(i.imp (ka:Int)).params.length:=hll;have hkp:lM (i.imp (ka:Int)).params:=PY ir a1 hna;have hW:Wr w7 g false false:=hW;have e3:aI i m ⟨38,(ka:Int),b⟩=(i.imp (ka:Int)).params:=rfl;simp only [aN,Int.reduceEq];refine ⟨λv w'=>∃ j:Nat,v=i64 j/\j<=l.length/\aE w5 w'/\Wr w' g (NK ((i.imp (ka:Int)).params.take j) (l.take j)) (NJ ((i.imp (ka:Int)).params.take j) (l.take j)),λv _=>l.length - (RowKit.intOf v).toNat,⟨0,rfl,Nat.zero_le _,x7,hW⟩,?_⟩;rintro _ w8 ⟨j,rfl,hj,x8,hW8⟩ _;rw [e3];refine bP.2 (aK (λhlt=>?_) λhge=>?_)
   ·have hk1:=jW (l:=l) (j:=j) (by omega);obtain ⟨q,hq⟩:=fQ (l:=(i.imp (ka:Int)).params) (j:=j) (by omega);have D1:aE w8 w8.drew:=(aE.refl _).drew;have xd:=x8.trans D1;refine aJ.mk' (λw'=>aE w5 w') xd ?_;refine lT aM aF ht5 (λ_ h=>h) (by omega) (by omega) (fD hk1) ?_;refine gY (λw' hw=>fb1 hw) dI iB rfl ?_;refine gY (λw' hw=>fb3 hw) aR aF rfl ?_;have hmi:=pU a1 hna;rw [Int.toNat_natCast] at hmi;refine ySF lH bA bJ f1.im (λ_ h=>h) hmi λrow hrow=>?_;obtain ⟨pv9,rfl,hp9⟩:=hrow;refine ⟨pv9,rfl,by decide,?_⟩;refine lT aM aF hp9 (λ_ h=>h) (by omega) (by omega) (fD hq) ?_;refine xR (hkl _ (List.mem_of_getElem? hk1)) (hkp _ (List.mem_of_getElem? hq)) ⟨xd,?_⟩;refine tT (dW.ext hW8 D1) λw9 hW9 hx9=>⟨hx9 _ xd hgs,dS.2 ?_⟩;rw [aU (by omega),eI];refine ⟨⟨j+1,rfl,by omega,hx9 _ xd hgs,?_⟩,by simp only [aW];omega⟩;rw [xV hq hk1,xU hq hk1];exact hW9
   ·have hjl:j=l.length:=by omega
    subst hjl;rw [List.take_length,hlp,List.take_length] at hW8;refine J x8 hW8 ?_;rw [xY ⟨by decide,by decide,by decide,by decide⟩,e3];exact inA hkp hkl
  by_cases c39:op=39
  ·subst c39;have hW:Wr w7 g false false:=hW;have e3:aI i m ⟨39,a,b⟩=jD m.result:=rfl;simp only [aN,Int.reduceEq];rw [e3] at hll ⊢;by_cases hr:m.result=0
   ·have e4:jD m.result=[]:=by unfold jD;rw [if_pos hr]
    have hll0:l.length=0:=by rw [hll,e4];rfl
    simp only [e4,List.length_nil,Int.natCast_zero,aN,Int.reduceGT];refine J x7 hW ?_;rw [xY ⟨by decide,by decide,by decide,by decide⟩,e3,e4];simp [iN,gK]
   ·have e4:jD m.result=[m.result]:=by unfold jD;rw [if_neg hr]
    have hl1:l.length=1:=by rw [hll,e4];rfl
    have hk0:=mC hkl (n:=0) (by omega);have hkr:Kd m.result:=by have:=mr.2.1;unfold Kd;omega
    simp only [e4,List.length_cons,List.length_nil,Nat.zero_add,Int.natCast_one,aN,Int.reduceGT];have D1:aE w7 w7.drew:=(aE.refl _).drew;have xd:=x7.trans D1;refine aJ.mk' (λw'=>aE w5 w') xd ?_;refine lT aM aF ht5 (λ_ h=>h) (by omega) (by omega) (fD (j:=0) (jW (by omega))) ?_;refine gY (λw' hw=>fb2 hw) eX aF rfl ?_;refine xR hk0 hkr ⟨xd,?_⟩;refine tT (dW.ext hW D1) λw9 hW9 hx9=>J (hx9 _ xd hgs) hW9 ?_;rw [xY ⟨by decide,by decide,by decide,by decide⟩,e3,e4,aBv hl1];have:=inA (t:=[m.result]) (l:=[cT l 0]) (by intro k hk;rw [List.mem_singleton] at hk;subst hk;exact hkr) (by intro k hk;rw [List.mem_singleton] at hk;subst hk;exact hk0);simp only [NK,NJ,Bool.or_false] at this;exact this
  simp only [c3,c34,c22,c30,c31,c36,c37,c38,c39,aN];refine J x7 hW ?_;rw [xY ⟨c22,c30,c31,c36⟩];by_cases c45:op=4\/op=5
  ·rcases c45 with rfl|rfl
   all_goals
    have hl1:l.length=1:=hll;rw [aBv hl1];simp [mO,nS,hJ,fP,aI,iN,gK,qA,rV]
  ·simp only [not_or] at c45;have e5:=pc3 (by omega);have e6:l.take (hJ op).length=l:=List.take_of_length_le (by rw [hll,e5];simp);rw [e5,e6];exact hP
 ·rintro w8 ⟨kf,lf,hW8,x8,hgood⟩ _;refine ⟨.inl ⟨_,rfl⟩,bQ hW8.boxed cW jZ rfl ?_⟩
  have bad:(kf||lf)=true->tS i m ⟨op,a,b⟩ s=none:=λhb=>by
   rw [hdo,if_neg];intro hgd;have:=hgood.2 hgd;rw [hb] at this;cases this
  cases kf with
  | true=>simp only [aN];exact no 11 _ (bad rfl) (by decide) (xx5.trans x8)
  | false=>
  simp only [aN];refine ⟨.inl ⟨_,rfl⟩,bQ hW8.boxed cV jZ rfl ?_⟩;cases lf with
  | true=>simp only [aN];exact no 12 _ (bad rfl) (by decide) (xx5.trans x8)
  | false=>
  simp only [aN]
  have hd2:tS i m ⟨op,a,b⟩ s=some (s.take (s.length - (aI i m ⟨op,a,b⟩).length)++fU i m ⟨op,a,b⟩ l):=by
   have hgd:kM ⟨op,a,b⟩ (aI i m ⟨op,a,b⟩) l=true/\iR ⟨op,a,b⟩ (aI i m ⟨op,a,b⟩) l=false:=hgood.1 rfl;rw [hdo,if_pos hgd]
  have D1:aE w8 w8.drew:=(aE.refl _).drew;have xd:=x8.trans D1;refine aJ.mk' (λw'=>aE w5 w') xd ?_;refine yA (λw' hw=>fb1 hw) kF rfl ?_;refine yA (λw' hw=>fb2 hw) lV rfl ?_;refine yA (λw' hw=>fb3 hw) gU rfl ?_;refine iT aZ [] rfl rfl (by simp) rfl λv1 w9 ho9 x9=>⟨xd.trans x9,?_⟩;have hul:(s.take (s.length - (aI i m ⟨op,a,b⟩).length)).length=s.length - (aI i m ⟨op,a,b⟩).length:=by rw [List.length_take];omega
  refine EK aZ ho9 (hu4.ext ((x5.trans xd).trans x9)) (zX _) (by omega) (by unfold maxLen;omega) x9.size λv2 w10 ho10 hg10=>?_;have x10:aE w8.drew w10:=x9.grown hg10 λk hk=>(ho9.lt k hk).1;have xd10:=xd.trans x10;refine ⟨xd10,?_⟩;refine YI (f1.ext xd10) (f2.ext xd10) hx0 (ht5.ext xd10) hll λv3 w11 h11 x11=>⟨xd10.trans x11,?_⟩;have hgl:(fU i m ⟨op,a,b⟩ l).length<=2:=by rw [xX];exact hh2
  refine EK aZ (x11.own ho10) h11 (zX _) (by omega) (by unfold maxLen;omega) (x10.trans x11).size λv4 w12 ho12 hg12=>?_;have x12:aE w8.drew w12:=(x10.trans x11).grown hg12 λk hk=>((x11.own ho10).lt k hk).1;refine ⟨xd.trans x12,yes _ v4 w12 hd2 ?_ ((xx5.trans xd).trans x12)⟩;have:=aX ho12 ((xx5.trans xd).size);simp only [List.nil_append] at this;rw [List.length_append,List.map_append,hul];simpa using this
end Go.Proofs.YtgkkecladbmjkaaGreatDoor
