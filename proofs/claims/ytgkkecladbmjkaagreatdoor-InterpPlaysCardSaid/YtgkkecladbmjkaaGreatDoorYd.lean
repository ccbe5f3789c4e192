/- General laws of operations (from the other texts of this seed). -/
import Derived.Test.YtgkkecladbmjkaaGreatDoorYb
import Derived.Test.YtgkkecladbmjkaaGreatDoorYc
import Derived.Deep.AppendLies
import Derived.Laws.CopyRow
import Derived.Laws.BytesArg
import Derived.Lib.AppendZeros
import Derived.Great.FillDense
import Derived.Great.BuildSlice
set_option maxHeartbeats 8000000
set_option linter.unusedSimpArgs false
namespace Go.Vc
section
variable {P:Program} {w:Ω} {K:O->Ω->Prop}
theorem stB {t x:TypeId} {z:O} {by_:Nat} (h:XA P t 1) (hx:cV P x z 1 by_) {g n c e:Nat} {cs:List O} (hb:bD w g cs e) (hn:cs.length=n) {k:IntKind} {i:Int} (h0:0<=i) (h1:i < n) {u:O} (hu:cB u=true) {K':Ω->Prop}
  (hk:K' (w.setCell ⟨g,i.toNat,none⟩ u)) :
  V P (Instr.indexAt t (.slice (some ⟨g,0,none⟩) n c) (.int k i)) w λp w1=>U P (Instr.storeAt x p u) w1 λ_ w2=>K' w2:=by
 obtain ⟨e',z',b',ht,hi⟩:=h;refine V.ok (gE ht hi h0 h1) ?_;have hlt:i.toNat < cs.length:=by omega
 have hc:=hb.cell i.toNat;rw [List.getElem?_eq_getElem hlt] at hc;simp only [Nat.zero_add,Nat.mul_one];exact U.ok (lV hx hu hc (hb.frozen _)) hk
end
section
variable {P:Program} {w:Ω} {K:O->Ω->Prop} {S:Ω->Prop} {L:O->Prop}
theorem dT {s f o ft b:Nat} {cs:List O} {u:O} (hb:∀ w',S w'->gD w' b cs) (h:FA P s f o) (hl:L1 P ft) (hc:cs[o]?=some u) (hk:L u) :
  aD P S (Instr.fieldAt s (.pointer (some ⟨b,0,none⟩)) f) λq=>aD P S (Instr.loadAt ft q) L:=by
 obtain ⟨d,hd,ha⟩:=hl;exact aD.ok (λw' _=>h.ex w' b 0) (aD.ok (λw' hw=>jX hd ha (hb w' hw o u hc)) hk)
theorem gF {t x:TypeId} {v:O} {n:Nat} {cs:List O} {k:IntKind} {i:Int} {u:O} (h:XA P t 1) (hl:L1 P x) (hs0:aB w v 1 n cs) (hx:∀ w',S w'->aG w w') (h0:0<=i) (h1:i < n) (hu:cs[i.toNat]?=some u) (hk:L u) :
  aD P S (Instr.indexAt t v (.int k i)) λp=>aD P S (Instr.loadAt x p) L:=by
 obtain ⟨e,z,b',ht,hi⟩:=h;obtain ⟨d,hd,ha⟩:=hl;obtain ⟨b,off,cap,rfl,hc⟩:=hs0.there (by omega);refine aD.ok (λw' _=>gE ht hi h0 h1) (aD.ok (λw' hw=>jX hd ha ((hx w' hw).cell ?_)) hk);simpa using hc _ _ hu
theorem tW {t ty n:Nat} {m:Nat} {v:O} {size:Nat} {cs:List O} (h:XA P t n) (hs:aB w v size m cs) (hk:L (i64 m)):aD P S (Builtin.len_ #[t] ty #[v]) L:=by
 obtain ⟨e,z,b,ht,hi⟩:=h;obtain ⟨a,c,rfl⟩:=hs.shape;exact aD.ok (λw' _=>jR ht) hk
end
theorem HI {P:Program} {w:Ω} {K:O->Ω->Prop} {t e by_:Nat} {z:O} {x:Int} {n:Nat} (hx:x=(n:Int)) (ht:P.underlying t=some (.slice e)) (hi:cV P e z 1 by_) (hz:z.cells=#[z]) (hb:by_*n<=281474976710656) (h63:n<=9223372036854775807)
  (hk:∀ w',bD w' w.heap.size (List.replicate n z) e->aG w w'->w'.heap.size=w.heap.size+1->K (.slice (some ⟨w.heap.size,0,none⟩) n n) w'):V P (Instr.makeSlice t (.int .i64 x) (.int .i64 x)) w K:=by
 subst hx;exact mkB ht hi hz hb h63 hk
section
variable {P:Program} {w:Ω} {S:Ω->Prop} {L:O->Prop}
theorem yA {t n b:Nat} {cs:List O} (hb:∀ w',S w'->gD w' b cs) (ht:∃ d z by_,P.underlying t=some d/\oC d=true/\cV P t z n by_) (hl:cs.length=n) (hk:L (.agg cs.toArray)):aD P S (Instr.loadAt t (.pointer (some ⟨b,0,none⟩))) L:=by
 obtain ⟨d,z,by_,h1,h2,h3⟩:=ht
 exact aD.ok (λw' hw=>kF h1 h2 h3 hl λj hj=>by
  obtain ⟨u,hu⟩:∃ u,cs[j]?=some u:=⟨_,List.getElem?_eq_getElem hj⟩;rw [hu];exact hb w' hw j u hu) hk
variable {K:O->Ω->Prop}
end
end Go.Vc
namespace Go.Vc
open Go.Proofs
section
variable {P:Program} {w:Ω} {K:O->Ω->Prop}
theorem MA {t:TypeId} {z:O} {n by_:Nat} (hi:cV P t z n by_) (hk:∀ w1,bD w1 w.heap.size z.cells.toList t->aG w w1->K (.pointer (some ⟨w.heap.size,0,none⟩)) w1):V P (Instr.alloc t true (.tuple #[])) w K:=
 V.ok (QO hi) (hk _ (by unfold bD;rw [heap_alloc_new]) ((aG.refl w).alloc _))
theorem tH {t:TypeId} {v:O} (hk:∀ w1,bD w1 w.heap.size v.cells.toList t->aG w w1->K (.pointer (some ⟨w.heap.size,0,none⟩)) w1):V P (Instr.box t v) w K:=
 V.ok aJv (hk _ (by unfold bD;rw [heap_alloc_new]) ((aG.refl w).alloc _))
theorem xL {t n:TypeId} {v:O} {K':O->Ω->Prop} (h:SA P t n) (hn:v.cells.size=n) (h1:v.cells.toList.all cB=true) (hk:∀ w1,bD w1 w.heap.size v.cells.toList t->aG w w1->K' (.pointer (some ⟨w.heap.size,0,none⟩)) w1) :
  V P (Instr.alloc t true (.tuple #[])) w (λp w1=>U P (Instr.storeAt t p v) w1 λ_ w2=>K' p w2):=
 as_ h hn h1 (hk _ (by unfold bD;rw [heap_alloc_new]) ((aG.refl w).alloc _))
theorem apA {t e by_ ty sz:Nat} {z:O} (ht:P.underlying t=some (.slice e)) (hi:cV P e z sz by_) (hz:(z.cells.size == sz)=true) (hsz:0 < sz) {B:Nat} {v:O} {n:Nat} {xs:List O} (ho:w.ownsRow B e sz v n xs) {x:O} {m:Nat} {news:List O} (hs:aB w x sz m news) (h1:news.all cB=true)
  (hb:(n+m)*by_<=140737488355328) (h63:n+m<=maxLen) (hB:B<=w.heap.size) (hk:∀ v' w',w'.ownsRow B e sz v' (n+m) (xs++news)->w.grownBy w' v.ownBlock->K v' w') :
  V P (Builtin.append_ #[t,t] ty #[v,x]) w K:=by
 obtain ⟨i,hi',hz',hn,hby⟩:=info_parts hi;rcases hs.2 with ⟨rfl,rfl⟩|⟨b,off,cap,rfl,_,_,hc⟩
 ·have hnews:news=[]:=by have:=hs.1;simpa using this
  subst hnews;refine V.ok (run_append_owned_none w B t ty e i sz ht hi' v n xs ho) (hk _ _ (by simpa using ho) ⟨rfl,rfl,rfl,Nat.le_refl _,λ_ _ _=>rfl⟩)
 ·obtain ⟨v',w',hr,h2,h3,_⟩:=run_append_own (P:=P) w B t ty e i z sz by_ ht hi' hz' hn hby (by simpa using hz) hsz v n xs ho ⟨b,off,none⟩ m cap news hs.1
   (λj u hj=>by rw [gO];exact hc j u hj) (λu hu=>by rw [tA];exact List.all_eq_true.1 h1 u hu) h63 hb hB
  exact V.ok hr (hk _ _ h2 h3)
theorem bD.boxed {g:Nat} {cs:List O} {e:TypeId} (h:bD w g cs e):gD w g cs:=λj u hj=>by rw [Nat.zero_add,h.cell];exact hj
structure Chg (w:Ω) (g:Nat) (w':Ω):Prop where
 ext:∀ a,aG a w->a.heap.size<=g->aG a w'
 same:∀ i,i≠g->w'.heap[i]?=w.heap[i]?
 size:w'.heap.size=w.heap.size
 grown:w.grownBy w' (some g)
theorem Chg.ownRow {w w':Ω} {g B e sz n:Nat} {v:O} {xs:List O} (h:Chg w g w') (ho:w.ownsRow B e sz v n xs) (hB:g < B):w'.ownsRow B e sz v n xs:=
 ho.kept h.grown (aMf ho λk hk=>by cases hk;exact hB)
theorem yJ {g:Nat} {e:TypeId}:∀ (l done old:List O) (w:Ω),l.length=old.length->(∀ u∈l,cB u=true)->bD w g (done++old) e ->
  ∃ w',(storeCells ⟨g,0,none⟩ l done.length).run P w=.ok () w'/\bD w' g (done++l) e/\Chg w g w'
 | [],done,[],w,_,_,hb=>⟨w,by simp [storeCells],hb,⟨λ_ h _=>h,λ_ _=>rfl,rfl,⟨rfl,rfl,rfl,Nat.le_refl _,λ_ _ _=>rfl⟩⟩⟩
 | v::l,done,u::old,w,hl,h1,hb=>by
  have hc:=hb.cell done.length;simp only [List.getElem?_append_right (Nat.le_refl _),Nat.sub_self,List.getElem?_cons_zero] at hc;have hs:=uA (P:=P) (h1 v (by simp)) hc (hb.frozen done.length)
  have hb1:bD (w.setCell ⟨g,done.length,none⟩ v) g ((done++[v])++old) e:=by
   have:=hb.set done.length v;rw [List.set_append_right _ _ (Nat.le_refl _)] at this;simpa using this
  obtain ⟨w',h2,h3,h4⟩:=yJ l (done++[v]) old _ (by simpa using hl) (λu hu=>h1 u (by simp [hu])) hb1;refine ⟨w',?_,by simpa using h3,⟨λa ha hg=>h4.ext a (ha.setCell hg v) hg,λi hi=>(h4.same i hi).trans (heap_setCell_other _ _ _ _ (λhe=>hi he)),h4.size.trans (by simp),⟨h4.grown.os,h4.grown.tape,h4.grown.output,by have:=h4.grown.size;simpa using this,λk hk hne=>(h4.grown.block k (by simpa using hk) hne).trans (heap_setCell_other _ _ _ _ (λhe=>hne (by simp [he])))⟩⟩⟩;simp only [storeCells,gO,Nat.zero_add,Sem.run_bind];rw [hs,Result.andThen_ok];simpa using h2
theorem GF {t:TypeId} {z v:O} {n by_ g:Nat} {old l:List O} {e:TypeId} {K':O->Ω->Prop} (hi:cV P t z n by_) (hb:bD w g old e) (hv:v.cells=l.toArray) (hl:l.length=n) (ho:old.length=n) (h1:l.all cB=true)
  (hk:∀ w',bD w' g l e->Chg w g w'->K' undef w'):U P (Instr.storeAt t (.pointer (some ⟨g,0,none⟩)) v) w K':=by
 obtain ⟨w',h2,h3,h4⟩:=yJ (P:=P) l [] old w (by omega) (λu hu=>List.all_eq_true.1 h1 u hu) hb;refine U.ok ?_ (hk w' (by simpa using h3) h4);simp only [List.length_nil] at h2;simp [Instr.storeAt,Instr.sureAddr,storeVar,dU hi,hv,hl,h2]
theorem vB {t:TypeId} {d:TypeDesc} {z:O} {n by_ g:Nat} {l:List O} {e:TypeId} (ht:P.underlying t=some d) (hd:oC d=true) (hi:cV P t z n by_) (hb:bD w g l e) (hl:l.length=n) :
  (loadVar t ⟨g,0,none⟩).run P w=.ok (.agg l.toArray) w:=by
 have:=kF (P:=P) (w:=w) (b:=g) (off:=0) ht hd hi hl λj hj=>by
  obtain ⟨u,hu⟩:∃ u,l[j]?=some u:=⟨_,List.getElem?_eq_getElem hj⟩;rw [hu,Nat.zero_add,hb.cell];exact hu
 simpa [Instr.loadAt,Instr.sureAddr] using this
end
end Go.Vc
namespace Go.Vc
section
variable {P:Program} {w:Ω} {K:O->Ω->Prop} {S:Ω->Prop} {L:O->Prop}
theorem aMn {t x:TypeId} {v:O} {n sz:Nat} {cs l:List O} {k:IntKind} {i:Int} (h:XA P t sz) (ht:∃ d z by_,P.underlying x=some d/\oC d=true/\cV P x z sz by_) (hs:aB w v sz n cs) (h0:0<=i) (h1:i < n)
  (hc:(cs.drop (i.toNat*sz)).take sz=l) (hl:l.length=sz) (hk:K (.agg l.toArray) w) :
  V P (Instr.indexAt t v (.int k i)) w λp w1=>V P (Instr.loadAt x p) w1 K:=by
 obtain ⟨e,z,b',hte,hi⟩:=h;obtain ⟨d,z',by_,h2,h3,h4⟩:=ht;obtain ⟨b,off,cap,rfl,hcell⟩:=hs.there (by omega);refine V.ok (gE hte hi h0 h1) (V.ok (kF h2 h3 h4 hl λj hj=>?_) hk);obtain ⟨u,hu⟩:∃ u,l[j]?=some u:=⟨_,List.getElem?_eq_getElem hj⟩;rw [hu,Nat.add_assoc];refine hcell _ u ?_;rw [<- hc,List.getElem?_take,List.getElem?_drop] at hu;split at hu
 ·exact hu
 ·cases hu
theorem aUm {t:TypeId} {a b:Int} (hk:L (.bool (decide (a < b)))):aD P S (binOp .lss t (.int .i64 a) (.int .i64 b)) L:=aD.ok (λ_ _=>pE) hk
theorem aUn {t:TypeId} {a b:Int} (hk:L (.bool (decide (a>=b)))):aD P S (binOp .geq t (.int .i64 a) (.int .i64 b)) L:=aD.ok (λ_ _=>BV) hk
end
end Go.Vc
namespace Go.Vc
open Go.Proofs
section
variable {P:Program} {w:Ω} {K:O->Ω->Prop} {S:Ω->Prop} {L:O->Prop}
theorem vS {t:TypeId} {zs:List O} (h:BD P t zs) {parts:Array (Nat × O)} (l:List (Nat × O)) (hp:parts=l.toArray) (h1:(l.all λx=>decide (x.1 < zs.length)&&cB x.2)=true)
  (hk:L (.agg (l.foldl (λcs x=>cs.set x.1 x.2) zs).toArray)):aD P S (Instr.build t parts) L:=by
 subst hp;obtain ⟨fs,b,hu,hi,hm⟩:=h;refine aD.ok (λw _=>?_) hk;simp only [Instr.build,Sem.run_bind,uX hi,Result.andThen_ok,run_underlying hu,hm,Value.cells];rw [aAw l zs rfl h1];simp
theorem aLw {t:TypeId} {ts:Array TypeId} {a b:Int}:(Builtin.max_ ts t #[.int .i64 a,.int .i64 b]).run P w=.ok (.int .i64 (if a < b then b else a)) w\/(Builtin.max_ ts t #[.int .i64 a,.int .i64 b]).run P w=.ok (.int .i64 (if b < a then a else b)) w:=by
 simp [Builtin.max_,Builtin.max2]
theorem mx2 {t:TypeId} {ts:Array TypeId} {a b:Int} (hk:∀ c,(c=a\/c=b)->a<=c->b<=c->K (.int .i64 c) w):V P (Builtin.max_ ts t #[.int .i64 a,.int .i64 b]) w K:=by
 rcases aLw (P:=P) (w:=w) (t:=t) (ts:=ts) (a:=a) (b:=b) with h|h
 iterate 2
  ·exact V.ok h (hk _ (by split<;>simp) (by split<;>omega) (by split<;>omega))
theorem YW {t:TypeId} {ts:Array TypeId} {a b:Int}:(Builtin.min_ ts t #[.int .i64 a,.int .i64 b]).run P w=.ok (.int .i64 (if a < b then a else b)) w\/(Builtin.min_ ts t #[.int .i64 a,.int .i64 b]).run P w=.ok (.int .i64 (if b < a then b else a)) w:=by
 simp [Builtin.min_,Builtin.min2]
theorem mn2 {t:TypeId} {ts:Array TypeId} {a b:Int} (hk:∀ c,(c=a\/c=b)->c<=a->c<=b->K (.int .i64 c) w):V P (Builtin.min_ ts t #[.int .i64 a,.int .i64 b]) w K:=by
 rcases YW (P:=P) (w:=w) (t:=t) (ts:=ts) (a:=a) (b:=b) with h|h
 iterate 2
  ·exact V.ok h (hk _ (by split<;>simp) (by split<;>omega) (by split<;>omega))
theorem rm {t:TypeId} {a b:Int} (hb:0 < b) (hk:∀ c,c=a.tmod b->-b < c->c < b->K (.int .i64 c) w):V P (binOp .rem t (.int .i64 a) (.int .i64 b)) w K:=by
 have hne:b≠0:=by omega
 have hr:(binOp .rem t (.int .i64 a) (.int .i64 b)).run P w=.ok (.int .i64 (a.tmod b)) w:=by simp [binOp,Op.intDiv,hne]
 exact V.ok hr (hk _ rfl (by have:=Int.lt_tmod_of_pos a hb;simpa using this) (Int.tmod_lt_of_pos a hb))
theorem aSr {t e n:TypeId} {z:O} {by_:Nat} (ht:P.underlying t=some (.array n e)) (hi:cV P e z 1 by_) {b off:Nat} {i:Int} (h0:0<=i) (h1:i < n) :
  (Instr.indexAt t (.pointer (some ⟨b,off,none⟩)) (.int .i64 i)).run P w=.ok (.pointer (some ⟨b,off+i.toNat,none⟩)) w:=by
 simp [Instr.indexAt,asIntOf,run_underlying ht,Instr.sureAddr,dU hi,h0,h1,gO]
theorem aSq {t e n:TypeId} {z:O} {by_:Nat} (ht:P.underlying t=some (.array n e)) (hi:cV P e z 1 by_) (hd:∃ k,P.underlying e=some (.int k)) {cs:Array O} {i:Int} {u:O} (h0:0<=i) (h1:i < n) (hu:cs[i.toNat]?=some u) (_:cB u=true) :
  (Instr.index t (.agg cs) (.int .i64 i)).run P w=.ok u w:=by
 obtain ⟨k,hd⟩:=hd;simp [Instr.index,asIntOf,run_underlying ht,dU hi,h0,h1,part,sY hd,oC,hu]
theorem aVk {t e:TypeId} {z:O} {by_:Nat} (ht:P.underlying t=some (.slice e)) (hi:cV P e z 1 by_) {a:Option Addr} {n c k:Nat} (hk:k<=c) :
  (Instr.sliceAt t (.slice a n c) none (some (.int .i64 (k:Int))) none).run P w=.ok (.slice (if c=0 then a else a.map (·.add 0)) k c) w:=by
 have h0:(0:Int)<=k/\(k:Int)<=c:=⟨by omega,by omega⟩;simp [Instr.sliceAt,Instr.slice,run_underlying ht,dU hi,Instr.sliceBounds,Instr.sliceBound,asIntOf,h0];intro h;omega
end
end Go.Vc
namespace Go.Vc
section
variable {P:Program} {w:Ω}
end
structure Fr (S:Nat->Prop) (w w':Ω):Prop where
 os:w'.os=w.os
 tape:w'.tape=w.tape
 output:w'.output=w.output
 size:w.heap.size<=w'.heap.size
 block:∀ i,i < w.heap.size->¬ S i->w'.heap[i]?=w.heap[i]?
theorem Fr.refl (S:Nat->Prop) (w:Ω):Fr S w w:=⟨rfl,rfl,rfl,Nat.le_refl _,λ_ _ _=>rfl⟩
theorem Fr.trans {S T:Nat->Prop} {a b c:Ω} (h:Fr S a b) (k:Fr T b c) (hT:∀ i,i < a.heap.size->T i->S i):Fr S a c:=
 ⟨k.os.trans h.os,k.tape.trans h.tape,k.output.trans h.output,Nat.le_trans h.size k.size,λi hi hn=>(k.block i (Nat.lt_of_lt_of_le hi h.size) λht=>hn (hT i hi ht)).trans (h.block i hi hn)⟩
theorem Fr.or {S T:Nat->Prop} {a b c:Ω} (h:Fr S a b) (k:Fr T b c):Fr (λi=>S i\/T i) a c:=
 ⟨k.os.trans h.os,k.tape.trans h.tape,k.output.trans h.output,Nat.le_trans h.size k.size,λi hi hn=>(k.block i (Nat.lt_of_lt_of_le hi h.size) λht=>hn (.inr ht)).trans (h.block i hi λhs=>hn (.inl hs))⟩
theorem Fr.mono {S T:Nat->Prop} {a b:Ω} (h:Fr S a b) (hT:∀ i,S i->T i):Fr T a b:=⟨h.os,h.tape,h.output,h.size,λi hi hn=>h.block i hi λhs=>hn (hT i hs)⟩
theorem Fr.of_ext {S:Nat->Prop} {w w':Ω} (h:aG w w'):Fr S w w':=⟨h.os,h.tape,h.output,h.size,λi hi _=>h.block i hi (by simp)⟩
theorem Fr.of_grown {S:Nat->Prop} {w w':Ω} {row:Option Nat} (h:w.grownBy w' row) (hr:∀ k,row=some k->S k):Fr S w w':=⟨h.os,h.tape,h.output,h.size,λi hi hn=>h.block i hi λhe=>hn (hr i he.symm)⟩
theorem Fr.of_set {S:Nat->Prop} {w:Ω} {b o:Nat} {v:O} (hb:S b):Fr S w (w.setCell ⟨b,o,none⟩ v):=⟨rfl,rfl,rfl,by simp,λi _ hn=>heap_setCell_other _ _ _ _ (λhe=>hn (by simp [he];exact hb))⟩
theorem Fr.set {S:Nat->Prop} {w w':Ω} (h:Fr S w w') {b o:Nat} {v:O} (hb:S b):Fr S w (w'.setCell ⟨b,o,none⟩ v):=h.trans (Fr.of_set (S:=S) hb) λ_ _ h=>h
theorem Fr.ext {S:Nat->Prop} {w0 w w':Ω} (h:Fr S w w') (hx:aG w0 w) (hS:∀ i,S i->w0.heap.size<=i):aG w0 w':=
 ⟨h.os.trans hx.os,h.tape.trans hx.tape,h.output.trans hx.output,Nat.le_trans hx.size h.size,λi hi hn=>(h.block i (Nat.lt_of_lt_of_le hi hx.size) λhs=>by have:=hS i hs;omega).trans (hx.block i hi hn)⟩
theorem Fr.blk {S:Nat->Prop} {w w':Ω} {g:Nat} {cs:List O} {e:TypeId} (h:Fr S w w') (hb:bD w g cs e) (hn:¬ S g):bD w' g cs e:=by
 unfold bD;rw [h.block g hb.lt hn];exact hb
theorem Fr.own {S:Nat->Prop} {w w':Ω} {B e sz n:Nat} {v:O} {xs:List O} (h:Fr S w w') (ho:w.ownsRow B e sz v n xs) (hn:∀ k,v.ownBlock=some k->¬ S k):w'.ownsRow B e sz v n xs:=by
 refine ⟨ho.1,?_⟩;rcases ho.2 with h1|⟨g,cap,cur,rfl,hb,hg,rest⟩
 ·exact .inl h1
 ·refine .inr ⟨g,cap,cur,rfl,hb,?_,rest⟩;rw [h.block g (Array.getElem?_eq_some_iff.1 hg).1 (hn g rfl)];exact hg
theorem apL {P:Program} {w:Ω} {K:O->Ω->Prop} {t e by_ ty:Nat} (h:XE P t e by_) {B B':Nat} {v:O} {n:Nat} {xs:List O} (ho:w.ownsRow B e 1 v n xs) {x:O} {m:Nat} {news:List O} (hs:w.ownsRow B' e 1 x m news) (hm:0 < m) (h1:news.all cB=true)
  (hb:(n+m)*by_<=140737488355328) (h63:n+m<=maxLen) (hB:B<=w.heap.size)
  (hk:∀ g cap w',w'.ownsRow B e 1 (.slice (some ⟨g,0,none⟩) (n+m) cap) (n+m) (xs++news)->w.grownBy w' v.ownBlock->(v.ownBlock=some g\/g=w.heap.size)->K (.slice (some ⟨g,0,none⟩) (n+m) cap) w') :
  V P (Builtin.append_ #[t,t] ty #[v,x]) w K:=by
 obtain ⟨z,ht,hi,hz⟩:=h;obtain ⟨i,hi',hz',hn,hby⟩:=info_parts hi;have hs0:=hs;rcases hs.2 with ⟨_,h0⟩|⟨b,cap,cur,rfl,_⟩
 ·omega
 ·obtain ⟨g,cap,w',hr,h2,h3,h4,h5⟩:=run_append_lies (P:=P) (w:=w) t ty B e i z 1 by_ ht hi' hz' hn hby (by simpa using hz) (by omega) v n xs ho ⟨b,0,none⟩ m cap news (by have:=hs.1;simpa using this) (hs0.cells rfl) (λu hu=>by rw [tA];exact List.all_eq_true.1 h1 u hu) hm h63 hb hB _ rfl;exact V.ok hr (hk g cap w' h2 h3 h4)
theorem fnK {P:Program} {w:Ω} {K:O->Ω->Prop} {f:Fn} {a c:Array O} (h:K (.func f a c) w):V P (Instr.makeFunc f a c) w K:=V.ok (by simp [Instr.makeFunc]) h
theorem BG {P:Program} {w:Ω} {K:Ω->Prop} {s f o ft b n by_:Nat} {z u:O} {cs:List O} {e:TypeId} (hf:FA P s f o) (hi:cV P ft z 1 by_) (hb:bD w b cs e) (hn:cs.length=n) (ho:o < n) (hu:cB u=true) (hk:K (w.setCell ⟨b,o,none⟩ u)) :
  V P (Instr.fieldAt s (.pointer (some ⟨b,0,none⟩)) f) w λq w1=>U P (Instr.storeAt ft q u) w1 λ_ w2=>K w2:=by
 refine V.ok (hf.ex w b 0) ?_;have hc:=hb.cell o;rw [List.getElem?_eq_getElem (by omega)] at hc;rw [Nat.zero_add];exact U.ok (lV hi hu hc (hb.frozen _)) hk
theorem wX {P:Program} {w:Ω} {K:Ω->Prop} {ft b o n by_:Nat} {z u:O} {cs:List O} {e:TypeId} (hi:cV P ft z 1 by_) (hb:bD w b cs e) (hn:cs.length=n) (ho:o < n) (hu:cB u=true) (hk:K (w.setCell ⟨b,o,none⟩ u)) :
  U P (Instr.storeAt ft (.pointer (some ⟨b,0+o,none⟩)) u) w λ_ w2=>K w2:=by
 have hc:=hb.cell o;rw [List.getElem?_eq_getElem (by omega)] at hc;rw [Nat.zero_add];exact U.ok (lV hi hu hc (hb.frozen _)) hk
section
variable {P:Program} {w:Ω}
end
theorem V.mono {P:Program} {s:Sem O} {w:Ω} {K K':O->Ω->Prop} (h:V P s w K) (hk:∀ v w',K v w'->K' v w'):V P s w K':=by
 obtain ⟨v,w',h1,h2⟩:=h;exact ⟨v,w',h1,hk v w' h2⟩
theorem cpB {P:Program} {w:Ω} {K:O->Ω->Prop} {t e by_ ty:Nat} (h:XE P t e by_) {g R c:Nat} {xs cs:List O} {te:TypeId} {a:Option Addr} {n c':Nat} (hb:bD w g xs te) (hx:xs.length=R) (hcl:cs.length=n) (hs:0 < n->aB w (.slice a n c') 1 n cs) (h1:cs.all cB=true)
  (hk:∀ v w',bD w' g (cs.take (min n R)++xs.drop (min n R)) te->Fr (λi=>i=g) w w'->K v w') :
  V P (Builtin.copy_ #[t,t] ty #[.slice (some ⟨g,0,none⟩) R c,.slice a n c']) w K:=by
 obtain ⟨z,ht,hi,hz⟩:=h;obtain ⟨i,hi',hz',hn,hby⟩:=info_parts hi;have hsz:(P.info? e).map (·.size)=some 1:=by rw [hi'];simp [hn]
 by_cases h0:min n R=0
 ·refine V.ok (run_copy_none (P:=P) w t t ty e _ a R c n c' ht hsz h0) (hk _ _ ?_ (Fr.refl _ _));rw [h0];simpa using hb
 ·have hlt:0 < n:=by omega
  rcases (hs hlt).2 with ⟨h2,_⟩|⟨b,off,cap,h2,_,_,hc⟩
  ·cases h2;omega
  ·cases h2
   have hr:=run_copy_row (P:=P) w t t ty e g 0 R c ⟨b,off,none⟩ n c' xs.toArray te (cs.take (min n R)) ht hsz hb (by show _=min n R;rw [List.length_take];omega) (λj u hj=>by
    rw [gO];rw [List.getElem?_take] at hj;split at hj
    ·exact hc j u hj
    ·cases hj) (by simp;omega) (λu hu=>by rw [tA];exact List.all_eq_true.1 h1 u (List.mem_of_mem_take hu))
   refine V.ok hr (hk _ _ ?_ ⟨rfl,rfl,rfl,by simp,λi _ hi=>setRow_other _ _ _ _ hi⟩);unfold bD;rw [setRow_heap w g _ _ te (0,0) hb];have hm:min (min n R) cs.length=min n R:=by omega
   simp [List.length_take,hm]
end Go.Vc
namespace Go.Vc
open Go.Proofs
abbrev u8 (b:Int):O:=.int .u8 b
section
variable {P:Program} {w:Ω} {K:O->Ω->Prop} {S:Ω->Prop} {L:O->Prop}
def cU (w:Ω) (v:O) (l:List Int):Prop:=aB w v 1 l.length (l.map u8)
theorem cU.ext {w w':Ω} {v:O} {l:List Int} (h:cU w v l) (hx:aG w w'):cU w' v l:=aB.ext h hx
theorem pZ (l:List Int):(l.map u8).all cB=true:=by simp [cB]
theorem ZD {s e:TypeId} (hs:P.underlying s=some (.pointer e)) (d:Nat) {a:Addr}:(Op.equalIn (d+1) s (.pointer (some a)) (.pointer none)).run P w=.ok false w:=by
 simp [Op.equalIn,run_underlying hs]
theorem aMa {s e:TypeId} (hs:P.underlying s=some (.pointer e)) (d:Nat):(Op.equalIn (d+1) s (.pointer none) (.pointer none)).run P w=.ok true w:=by
 simp [Op.equalIn,run_underlying hs]
theorem gZ {s e:TypeId} (hs:P.underlying s=some (.pointer e)) {x y:Operand} {a:Addr} :
  (do eqGuard .eql s x y (.pointer (some a)) (.pointer none);binOp .eql s (.pointer (some a)) (.pointer none)).run P w=.ok (.bool false) w:=by
 simp [eqGuard,binOp,lZ,ZD hs]
theorem vV {t e:TypeId} {z:O} {by_:Nat} (ht:P.underlying t=some (.slice e)) (hi:cV P e z 1 by_) {v:O} {n:Nat} {cs:List O} (h:aB w v 1 n cs) {lo hi':Option O} {a b:Nat} (ha:(lo=none/\a=0)\/lo=some (.int .i64 a)) (hb:(hi'=none/\b=n)\/hi'=some (.int .i64 b)) (hab:a<=b) (hbn:b<=n) :
  ∃ v',(∀ w',(Instr.sliceAt t v lo hi' none).run P w'=.ok v' w')/\∀ w2,aB w2 v 1 n cs->aB w2 v' 1 (b - a) ((cs.drop a).take (b - a)):=by
 have hcl:cs.length=n:=by have:=h.1;omega
 rcases h.2 with ⟨rfl,h0⟩|⟨g,off,cap,rfl,h1,h2,_⟩
 ·have ea:a=0:=by omega
  have eb:b=0:=by omega
  subst ea eb;refine ⟨.slice none 0 0,λw'=>?_,λw2 _=>?_⟩
  ·rcases ha with ⟨rfl,_⟩|rfl<;>rcases hb with ⟨rfl,_⟩|rfl<;>simp [Instr.sliceAt,Instr.slice,run_underlying ht,dU hi,Instr.sliceBounds,Instr.sliceBound,asIntOf]
  ·simp;exact aB.nil w2 1
 ·have hb1:(0:Int)<=b/\(b:Int)<=cap:=⟨by omega,by omega⟩;have ha1:(0:Int)<=a/\(a:Int)<=b:=⟨by omega,by omega⟩;have hbc:b<=cap:=by omega
  refine ⟨.slice (if cap=a then some ⟨g,off,none⟩ else (some (⟨g,off,none⟩:Addr)).map (·.add (a*1))) (b - a) (cap - a),λw'=>?_,λw2 hw2=>?_⟩
  ·rcases ha with ⟨rfl,rfl⟩|rfl<;>rcases hb with ⟨rfl,rfl⟩|rfl<;>simp [Instr.sliceAt,Instr.slice,run_underlying ht,dU hi,Instr.sliceBounds,Instr.sliceBound,asIntOf,hab,hbc]
  ·refine ⟨by simp;omega,.inr ?_⟩;by_cases hca:cap=a
   ·rw [if_pos hca]
    exact ⟨g,off,cap - a,rfl,by omega,by omega,λj u hj=>by
     have:=(List.getElem?_eq_some_iff.1 hj).1;simp at this;omega⟩
   ·rw [if_neg hca];rcases hw2.2 with ⟨he,_⟩|⟨g',off',cap',he,_,_,h3⟩
    ·cases he
    ·cases he;refine ⟨g,off+a,cap - a,by simp [gO],by omega,by omega,λj u hj=>?_⟩;rw [List.getElem?_take] at hj;split at hj
     ·rw [List.getElem?_drop] at hj;have:=h3 _ _ hj;rw [Nat.add_assoc];exact this
     ·cases hj
theorem sZ {s:TypeId} {x y:Operand} {a b:ByteArray} :
  (do eqGuard .eql s x y (.string a) (.string b);binOp .eql s (.string a) (.string b)).run P w=.ok (.bool (a.toList == b.toList)) w:=by
 simp [eqGuard,binOp,Op.stringOp]
theorem wP {src e dst:TypeId} (hs:P.underlying src=some (.slice e)) (he:P.underlying e=some (.int .u8)) (hd:P.underlying dst=some .string) {v:O} {l:List Int} (h:cU w v l):(convert src dst v).run P w=.ok (.string (strOfNums l)) w:=by
 rcases h.2 with ⟨rfl,h0⟩|⟨b,off,cap,rfl,h1,h2,h3⟩
 ·obtain rfl:l=[]:=List.eq_nil_of_length_eq_zero h0;rw [run_convert_bytes_string w src dst e _ 0 0 hs he hd];simp [Conv.bytesToString];rfl
 ·refine run_convert_bytes_arg (P:=P) w src e hs he b off l.length cap l rfl (λi hi=>?_) dst hd;refine h3 i _ ?_;simp [List.getD,hi]
end
end Go.Vc
namespace Go.Proofs.YtgkkecladbmjkaaGreatDoor
open Tryz
open Go.Vc
inductive qM where
 | const (dst n:Int)
 | move (dst src:Int)
 | bin (op dst a b:Int)
 | un (op dst a:Int)
 | choose (dst c a b:Int)
 | tick
 | goto (to:Int)
 | branch (cond to:Int)
 | getField (dst f:Int)
 | putField (f src:Int)
 | serve (op a b dst:Int) (args:List Int)
 | call (m dst:Int) (args:List Int)
 | callX (i dst:Int) (args:List Int)
 | ret (src:Int)
def qM.val (sv:O):qM->O
 | .const d n=>.iface 161 (.agg #[i64 d,i32 n])
 | .move d s=>.iface 222 (.agg #[i64 d,i64 s])
 | .bin op d a b=>.iface 242 (.agg #[i64 op,i64 d,i64 a,i64 b])
 | .un op d a=>.iface 224 (.agg #[i64 op,i64 d,i64 a])
 | .choose d c a b=>.iface 226 (.agg #[i64 d,i64 c,i64 a,i64 b])
 | .tick=>.iface 164 (.agg #[])
 | .goto t=>.iface 228 (.agg #[i64 t])
 | .branch c t=>.iface 230 (.agg #[i64 c,i64 t])
 | .getField d f=>.iface 232 (.agg #[i64 d,i64 f])
 | .putField f s=>.iface 91 (.agg #[i64 f,i64 s])
 | .serve op a b d _=>.iface 276 (.agg #[i64 op,i64 a,i64 b,i64 d,sv])
 | .call m d _=>.iface 235 (.agg #[i64 m,i64 d,sv])
 | .callX i d _=>.iface 237 (.agg #[i64 i,i64 d,sv])
 | .ret s=>.iface 239 (.agg #[i64 s])
def qM.args:qM->List Int
 | .serve _ _ _ _ l|.call _ _ l|.callX _ _ l=>l
 | _=>[]
def qM.df:qM->Int
 | .const d _|.move d _|.bin _ d _ _|.un _ d _|.choose d _ _ _|.getField d _|.serve _ _ _ d _|.call _ d _|.callX _ d _=>d
 | _=>-1
def qM.us:qM->List Int
 | .move _ s=>[s]
 | .bin _ _ a b=>[a,b]
 | .un _ _ a=>[a]
 | .choose _ c a b=>[c,a,b]
 | .branch c _=>[c]
 | .putField _ s=>[s]
 | .serve _ _ _ _ l|.call _ _ l|.callX _ _ l=>l
 | .ret s=>if s=-1 then [] else [s]
 | _=>[]
def qM.nx (n:qM) (k:Int):List Int:=
 match n with
 | .goto t=>[t]
 | .branch _ t=>if t=k+1 then [k+1] else [k+1,t]
 | .ret _=>[]
 | _=>[k+1]
def aU (w:Ω) (v:O) (l:List Int):Prop:=aB w v 1 l.length (l.map i64)
def AQ (w:Ω) (v:O) (l:List Bool):Prop:=aB w v 1 l.length (l.map .bool)
def aOy (w:Ω) (v:O) (n:qM):Prop:=∃ sv,v=n.val sv/\aU w sv n.args
structure aUb where
 params:Int
 regs:Int
 nodes:List qM
def aCa (w:Ω) (v:O) (l:List qM):Prop:=∃ vs,aB w v 1 l.length vs/\∀ (i:Nat) n,l[i]?=some n->∃ u,vs[i]?=some u/\aOy w u n
def aWa (w:Ω) (v:O) (p:aUb):Prop:=∃ ns,v=.agg #[i64 p.params,i64 p.regs,ns]/\aCa w ns p.nodes/\∀ n∈p.nodes,n.args.length<=4294967296
theorem aU.ext {w w':Ω} {v:O} {l:List Int} (h:aU w v l) (hx:aG w w'):aU w' v l:=aB.ext h hx
theorem fQ {l:List Int} {j:Nat} {u:Int} (h:l[j]?=some u):(l.map i64)[(j:Int).toNat]?=some (i64 u):=by simp [h]
theorem bH {α:Type} {l:List α} {j:Nat} (h:j < l.length):∃ u,l[j]?=some u:=⟨_,List.getElem?_eq_getElem h⟩
theorem dF (j:Nat):Value.int .i64 ((j:Int)+1)=i64 ((j+1:Nat):Int):=by simp
theorem mH {P:Program} {w:Ω} {K:O->Ω->Prop} {t:TypeId} {j:Nat} (h:-9223372036854775808<=(j:Int)+1/\(j:Int)+1<=9223372036854775807) (hk:K (i64 ((j+1:Nat):Int)) w):V P (binOp .add t (i64 j) (i64 1)) w K:=by
  refine bW.2 ?_;rw [aX h,dF];exact hk
theorem aT (n:Int):RowKit.intOf (i64 n)=n:=rfl
end Go.Proofs.YtgkkecladbmjkaaGreatDoor
namespace Go.Tc
variable {a k to:Int} {f:Nat->Nat} {stack:List Int} {pc:Nat}
structure gP where
 op:Int
 a:Int
 b:Int
structure gU where
 params:List Int
 result:Int
 locals:List Int
 code:List gP
structure zV where
 name:ByteArray
 exp:Int
 params:List Int
 result:Int
structure bF where
 name:ByteArray
 fields:List Int
 imports:List zV
 methods:List gU
 exports:List Int
def gU.none:gU:=⟨[],0,[],[]⟩
def zV.none:zV:=⟨ByteArray.empty,0,[],0⟩
def gP.none:gP:=⟨0,0,0⟩
def gU.locs (m:gU):List Int:=m.params++m.locals
def bF.meth (i:bF) (k:Int):gU:=i.methods.getD k.toNat gU.none
def bF.imp (i:bF) (k:Int):zV:=i.imports.getD k.toNat zV.none
def gU.ins (m:gU) (pc:Nat):gP:=m.code.getD pc gP.none
def dN (k:Int):Bool:=k == 1||k == 2
def fM (k:Int):Bool:=k == 3||k == 4
def sS (a b:Int):Int:=if a=2\/b=2 then 2 else 1
def ofK (a:Int):Int:=if a=3 then 1 else if a=4 then 2 else 0
def pH (a b:Int):Option Int:=if dN a&&dN b then some (sS a b) else if fM a&&a == b then some a else none
def jA:List Int->List Int->Option (List Int)
 | [],[]=>some []
 | a::l,b::m=>(pH a b).bind λk=>(jA l m).map (k::·)
 | _,_=>none
def Kd (k:Int):Prop:=1<=k/\k<=4
instance (k:Int):Decidable (Kd k):=by unfold Kd;exact inferInstance
def nI (l:List Int):Prop:=∀ k∈l,Kd k
def lim (op:Int):Int × Int:=
 if op=1 then (-2147483648,2147483647) else if op=2\/op=3 then (0,9) else if op=23\/op=24 then (0,119)
 else if op=25\/op=27 then (3,4) else if op=33\/op=34 then (0,7) else if op=35\/op=36 then (1,2)
 else if op=37 then (0,7) else if op=38 then (0,3) else (0,0)
def gP.right (x:gP):Prop:=(1<=x.op/\x.op<=39)/\(lim x.op).1<=x.a/\x.a<=(lim x.op).2/\(if x.op=27 then (0<=x.b/\x.b<=2)\/(4<=x.b/\x.b<=6) else x.b=0)
def pV (l:List Int) (most:Int):Prop:=nI l/\(l.length:Int)<=most
def zV.right (x:zV):Prop:=(0<=x.exp/\x.exp < 4)/\pV x.params 4/\(0<=x.result/\x.result<=4)
def gU.right (m:gU):Prop:=pV m.params 4/\(0<=m.result/\m.result<=4)/\pV m.locals (10 - m.params.length)/\(1<=m.code.length/\m.code.length<=120)/\∀ x∈m.code,x.right
def bF.right (i:bF):Prop:=pV i.fields 8/\(i.imports.length<=4/\∀ x∈i.imports,x.right)/\((1<=i.methods.length/\i.methods.length<=8)/\(∀ m∈i.methods,m.right)/\(i.meth 0).params=[]/\(i.meth 0).result=0) /\
 i.exports.length<=4/\∀ n∈i.exports,0<=n/\n < (i.methods.length:Int)
def fP (i:bF) (m:gU) (x:gP):Prop:=
 if x.op=2\/x.op=3 then x.a < (m.locs.length:Int) else if x.op=33\/x.op=34 then x.a < (i.fields.length:Int)
 else if x.op=37 then x.a < (i.methods.length:Int) else if x.op=38 then x.a < (i.imports.length:Int)
 else if x.op=23\/x.op=24 then x.a < (m.code.length:Int) else True
def jB (op:Int):Prop:=(6<=op/\op<=14)\/(19<=op/\op<=21)
instance (op:Int):Decidable (jB op):=by unfold jB;exact inferInstance
def jP (r:Int):List Int:=if r=0 then [] else [r]
def bC (i:bF) (m:gU) (x:gP):List Int:=
 if x.op=3 then [m.locs.getD x.a.toNat 0]
 else if x.op=34 then [i.fields.getD x.a.toNat 0]
 else if x.op=4\/x.op=5 then [-1]
 else if x.op=15\/x.op=16 then [-2]
 else if jB x.op then [-2,-2]
 else if x.op=17\/x.op=18 then [-3,-3]
 else if x.op=22 then [-2,-1,-1]
 else if x.op=24\/x.op=27 then [-3]
 else if x.op=26\/x.op=28 then [-4]
 else if x.op=29 then [-4,-3]
 else if x.op=30 then [-4,-3,-2]
 else if x.op=31\/x.op=32 then [-4,-3,-4,-3,-3]
 else if x.op=36 then [-4,-3,-3]
 else if x.op=37 then (i.meth x.a).params
 else if x.op=38 then (i.imp x.a).params
 else if x.op=39 then jP m.result
 else []
def zM (k a:Int):Bool:=if a=-1 then true else if a=-2\/a=-3 then dN k else if a=-4 then fM k else dN k&&dN a||k == a
def yD (k a:Int):Bool:=(a == -3||a == 1)&&k == 2
def iL:List Int->List Int->Bool
 | a::t,k::l=>zM k a&&iL t l
 | _,_=>true
def gY:List Int->List Int->Bool
 | a::t,k::l=>yD k a||gY t l
 | _,_=>false
def bI (l:List Int) (n:Nat):Int:=l.getD n 0
def pG (x:gP) (t l:List Int):Bool:=
 iL t l&&(if x.op=22 then dN (bI l 1)&&dN (bI l 2)||fM (bI l 1)&&bI l 1 == bI l 2 else true)
def qY (x:gP) (t l:List Int):Bool:=
 if x.op=22 then fM (bI l 1)&&bI l 0 == 2
 else if x.op=30 then gY t l||(bI l 0 == 3&&bI l 2 == 2)
 else if x.op=31 then gY t l||(bI l 0 == 3&&bI l 2 == 4)
 else if x.op=36 then gY t l||(x.a == 1&&bI l 0 == 4)
 else gY t l
def HB (l:List Int):Int:=if fM (bI l 1) then bI l 1 else sS (bI l 0) (sS (bI l 1) (bI l 2))
def jZ (i:bF) (m:gU) (x:gP) (l:List Int):List Int:=
 if x.op=1\/x.op=17\/x.op=18\/x.op=26\/x.op=28 then [1]
 else if x.op=2 then [m.locs.getD x.a.toNat 0]
 else if x.op=33 then [i.fields.getD x.a.toNat 0]
 else if x.op=5 then [bI l 0,bI l 0]
 else if jB x.op then [sS (bI l 0) (bI l 1)]
 else if x.op=15\/x.op=16 then [bI l 0]
 else if x.op=22 then [HB l]
 else if x.op=25\/x.op=27 then [x.a]
 else if x.op=29 then [ofK (bI l 0)]
 else if x.op=32 then (if bI l 0=4\/bI l 2=4 then [2] else [1])
 else if x.op=35 then [3+x.a - 1]
 else if x.op=37 then jP (i.meth x.a).result
 else if x.op=38 then jP (i.imp x.a).result
 else []
def hgt (i:bF) (m:gU) (x:gP):Nat:=(jZ i m x (List.replicate 8 0)).length
theorem NU (i:bF) (m:gU) (x:gP) (l:List Int):(jZ i m x l).length=hgt i m x:=by
 unfold hgt jZ;simp only [apply_ite List.length,List.length_cons,List.length_nil,ite_self]
def ID (i:bF) (m:gU) (x:gP) (s:List Int):Option (List Int):=
 let t:=bC i m x
 if s.length < t.length\/8 < s.length - t.length+hgt i m x then none
 else
  let l:=s.drop (s.length - t.length)
  if pG x t l=true/\qY x t l=false then some (s.take (s.length - t.length)++jZ i m x l) else none
def iU (x:gP) (pc:Nat):List Int:=
 if x.op=23 then [x.a] else if x.op=24 then [(pc:Int)+1,x.a] else if x.op=39 then [] else [(pc:Int)+1]
structure St where
 st:List (List Int)
 has:List Bool
 todo:List Bool
def St.ini (n:Nat):St:=⟨List.replicate n [],List.replicate n false,List.replicate n false⟩
def St.h (s:St) (k:Nat):Bool:=s.has.getD k false
def St.t (s:St) (k:Nat):Bool:=s.todo.getD k false
def St.s (s:St) (k:Nat):List Int:=s.st.getD k []
def pL (n:Nat) (s:St) (to:Int) (stack:List Int):Option St:=
 if (n:Int)<=to then none
 else if s.h to.toNat then
  (jA (s.s to.toNat) stack).bind λj=>if j=s.s to.toNat then some s else some { s with st:=s.st.set to.toNat j,todo:=s.todo.set to.toNat true }
 else some ⟨s.st.set to.toNat stack,s.has.set to.toNat true,s.todo.set to.toNat true⟩
def kS (n:Nat) (stack:List Int):List Int->St->Option St
 | [],s=>some s
 | to::l,s=>(pL n s to stack).bind (kS n stack l)
def tN (i:bF) (m:gU) (s:St) (pc:Nat):Option St:=
 (ID i m (m.ins pc) (s.s pc)).bind λstack=>kS m.code.length stack (iU (m.ins pc) pc) { s with todo:=s.todo.set pc false }
def lY:List Bool->Option Nat
 | []=>none
 | true::_=>some 0
 | false::l=>(lY l).map (·+1)
inductive qA (i:bF) (m:gU):St->Option St->Prop
 | done {s:St}:lY s.todo=none->qA i m s (some s)
 | fail {s:St} {pc:Nat}:lY s.todo=some pc->tN i m s pc=none->qA i m s none
 | go {s s':St} {pc:Nat} {r:Option St}:lY s.todo=some pc->tN i m s pc=some s'->qA i m s' r->qA i m s r
theorem qA.det {i:bF} {m:gU} {s:St} {r r':Option St} (h:qA i m s r) (h':qA i m s r'):r=r':=by
 induction h generalizing r' with
 | done h1=>cases h' with
  | done _=>rfl
  | fail h2 _=>rw [h1] at h2;cases h2
  | go h2 _ _=>rw [h1] at h2;cases h2
 | fail h1 h2=>cases h' with
  | done h3=>rw [h1] at h3;cases h3
  | fail _ _=>rfl
  | go h3 h4 _=>rw [h1] at h3;cases h3;rw [h2] at h4;cases h4
 | go h1 h2 _ ih=>cases h' with
  | done h3=>rw [h1] at h3;cases h3
  | fail h3 h4=>rw [h1] at h3;cases h3;rw [h2] at h4;cases h4
  | go h3 h4 h5=>rw [h1] at h3;cases h3;rw [h2] at h4;cases h4;exact ih h5
def St.first (n:Nat):St:=⟨(List.replicate n []).set 0 [],(List.replicate n false).set 0 true,(List.replicate n false).set 0 true⟩
def rN (i:bF) (m:gU) (r:Option St):Prop:=((∃ x∈m.code,¬ fP i m x)/\r=none)\/((∀ x∈m.code,fP i m x)/\qA i m (St.first m.code.length) r)
theorem rN.det {i:bF} {m:gU} {r r':Option St} (h:rN i m r) (h':rN i m r'):r=r':=by
 rcases h with ⟨⟨x,h1,h2⟩,rfl⟩|⟨h1,h2⟩
 ·rcases h' with ⟨_,rfl⟩|⟨h3,_⟩
  ·rfl
  ·exact absurd (h3 x h1) h2
 ·rcases h' with ⟨⟨x,h3,h4⟩,rfl⟩|⟨_,h4⟩
  ·exact absurd (h1 x h3) h4
  ·exact h2.det h4
def vN (i:bF):Prop:=i.right/\∀ m∈i.methods,∃ s,rN i m (some s)
theorem jL {α:Type} (l:List α) (k j:Nat) (v d:α):(l.set k v).getD j d=if j=k/\k < l.length then v else l.getD j d:=by
 simp only [List.getD_eq_getElem?_getD,List.getElem?_set];by_cases h:k=j
 ·subst h;by_cases hk:k < l.length
  iterate 2
   ·simp [hk]
 ·have:¬ j=k:=λe=>h e.symm;simp [h,this]
theorem RL {l:List Bool} {k:Nat} (h:l.getD k false=true):k < l.length:=by
 by_cases hk:k < l.length
 ·exact hk
 ·rw [List.getD_eq_getElem?_getD,List.getElem?_eq_none (by omega)] at h;cases h
theorem sO:∀ {l:List Bool} {k:Nat},lY l=some k->l.getD k false=true/\∀ j,j < k->l.getD j false=false
 | [],_,h=>by cases h
 | true::_,k,h=>by cases h;exact ⟨rfl,λj hj=>absurd hj (Nat.not_lt_zero _)⟩
 | false::l,k,h=>by
  simp only [lY,Option.map_eq_some_iff] at h;obtain ⟨q,hq,rfl⟩:=h;obtain ⟨h1,h2⟩:=sO hq;refine ⟨h1,λj hj=>?_⟩;cases j with
  | zero=>rfl
  | succ j=>exact h2 j (by omega)
theorem wU:∀ {l:List Bool},lY l=none->∀ j,l.getD j false=false
 | [],_,j=>rfl
 | true::_,h,_=>by cases h
 | false::l,h,j=>by
  simp only [lY,Option.map_eq_none_iff] at h;cases j with
  | zero=>rfl
  | succ j=>exact wU h j
theorem CX:∀ {l:List Bool} {k:Nat},l.getD k false=true->(∀ j,j < k->l.getD j false=false)->lY l=some k
 | [],k,h,_=>by cases h
 | true::l,k,h,h2=>by
  cases k with
  | zero=>rfl
  | succ k=>have:=h2 0 (by omega);cases this
 | false::l,k,h,h2=>by
  cases k with
  | zero=>cases h
  | succ k=>
   have:=CX (l:=l) (k:=k) h λj hj=>h2 (j+1) (by omega);simp [lY,this]
theorem zK:∀ {l:List Bool},(∀ j,j < l.length->l.getD j false=false)->lY l=none
 | [],_=>rfl
 | true::l,h=>by have:=h 0 (by simp);cases this
 | false::l,h=>by
  have:=zK (l:=l) λj hj=>h (j+1) (by simpa using hj);simp [lY,this]
theorem aAg {b:Int} (ha:Kd a) (hb:Kd b) (h:pH a b=some k):Kd k/\(k=a\/(a=1/\k=2)):=by
 obtain ⟨a1,a2⟩:=ha;obtain ⟨b1,b2⟩:=hb;have ea:a=1\/a=2\/a=3\/a=4:=by omega
 have eb:b=1\/b=2\/b=3\/b=4:=by omega
 unfold Kd;rcases ea with rfl|rfl|rfl|rfl<;>rcases eb with rfl|rfl|rfl|rfl<;>simp [pH,dN,fM,sS] at h<;>subst h<;>simp
def wY (l:List Int):Nat:=l.countP (· == 1)
theorem aDq (l:List Int):wY l<=l.length:=List.countP_le_length
theorem HN:∀ {a b j:List Int},nI a->nI b->jA a b=some j->nI j/\j.length=a.length/\(j=a\/wY j < wY a)/\wY j<=wY a
 | [],[],j,_,_,h=>by cases h;exact ⟨λ_ h=>(List.not_mem_nil h).elim,rfl,.inl rfl,Nat.le_refl _⟩
 | [],_::_,_,_,_,h=>by cases h
 | _::_,[],_,_,_,h=>by cases h
 | x::a,y::b,j,ha,hb,h=>by
  simp only [jA,Option.bind_eq_some_iff,Option.map_eq_some_iff] at h;obtain ⟨k,hk,l,hl,rfl⟩:=h;obtain ⟨h1,h2⟩:=aAg (ha x (by simp)) (hb y (by simp)) hk;obtain ⟨h3,h4,h5,h6⟩:=HN (λq hq=>ha q (by simp [hq])) (λq hq=>hb q (by simp [hq])) hl;refine ⟨λq hq=>?_,by simp [h4],?_,?_⟩
  ·rcases List.mem_cons.1 hq with rfl|hq
   ·exact h1
   ·exact h3 q hq
  ·rcases h2 with rfl|⟨rfl,rfl⟩
   ·rcases h5 with rfl|h5
    ·exact .inl rfl
    ·right;simp only [wY,List.countP_cons] at h5 ⊢;omega
   ·right;simp only [wY,List.countP_cons] at h6 ⊢;simp;omega
  ·rcases h2 with rfl|⟨rfl,rfl⟩
   ·simp only [wY,List.countP_cons] at h6 ⊢;omega
   ·simp only [wY,List.countP_cons] at h6 ⊢;simp;omega
theorem wA:∀ {a b j:List Int},jA a b=some j->j.length=a.length/\j.length=b.length
 | [],[],j,h=>by cases h;exact ⟨rfl,rfl⟩
 | [],_::_,_,h=>by cases h
 | _::_,[],_,h=>by cases h
 | x::a,y::b,j,h=>by
  simp only [jA,Option.bind_eq_some_iff,Option.map_eq_some_iff] at h;obtain ⟨k,hk,l,hl,rfl⟩:=h;obtain ⟨h1,h2⟩:=wA hl;simp only [List.length_cons];omega
theorem vI {l:List Int} (h:nI l) {k:Nat} (hk:k < l.length):Kd (l.getD k 0):=by
 rw [List.getD_eq_getElem?_getD,List.getElem?_eq_getElem hk];exact h _ (List.getElem_mem hk)
theorem RB {m:gU} (h:m.right):nI m.locs:=λk hk=>by
 rcases List.mem_append.1 hk with h1|h1
 ·exact h.1.1 k h1
 ·exact h.2.2.1.1 k h1
theorem bF.meth_mem {i:bF} (h0:0<=k) (hk:k < i.methods.length):i.meth k∈i.methods:=by
 unfold bF.meth;rw [List.getD_eq_getElem?_getD,List.getElem?_eq_getElem (by omega)];exact List.getElem_mem _
theorem bF.imp_mem {i:bF} (h0:0<=k) (hk:k < i.imports.length):i.imp k∈i.imports:=by
 unfold bF.imp;rw [List.getD_eq_getElem?_getD,List.getElem?_eq_getElem (by omega)];exact List.getElem_mem _
theorem GV {r:Int} (h:0<=r/\r<=4):nI (jP r):=λk hk=>by
 unfold jP at hk;split at hk
 ·exact (List.not_mem_nil hk).elim
 ·rw [List.mem_singleton] at hk;subst hk;unfold Kd;omega
theorem YP (r:Int):(jP r).length<=1:=by unfold jP;split<;>simp
structure BA (i:bF) (m:gU) (x:gP):Prop where
 ir:i.right
 mr:m.right
 xr:x.right
 nm:fP i m x
theorem RU {b:Int}:Kd (sS a b):=by unfold sS Kd;split<;>omega
theorem CN:∀ {t l:List Int} {n:Nat},n < t.length->n < l.length->iL t l=true->zM (bI l n) (bI t n)=true
 | [],_,_,h,_,_=>by simp at h
 | _::_,[],_,_,h,_=>by simp at h
 | a::t,k::l,0,_,_,h=>by simp only [iL,Bool.and_eq_true] at h;exact h.1
 | a::t,k::l,n+1,h1,h2,h=>by
  simp only [iL,Bool.and_eq_true] at h;exact CN (n:=n) (by simpa using h1) (by simpa using h2) h.2
theorem nB {l:List Int} (h:nI l) {n:Nat} (hn:n < l.length):Kd (bI l n):=vI h hn
theorem VX:fM k=true↔k=3\/k=4:=by simp [fM]
theorem WA {i:bF} {m:gU} {x:gP} {l:List Int} (h:BA i m x) (hl:nI l) (hn:l.length=(bC i m x).length) (hk:pG x (bC i m x) l=true):nI (jZ i m x l):=by
 obtain ⟨hi,hm,hx,hs⟩:=h;obtain ⟨op,a,b⟩:=x;obtain ⟨⟨o1,o2⟩,a1,a2,_⟩:=hx;dsimp only at o1 o2 a1 a2
 have hop:op=1\/op=2\/op=3\/op=4\/op=5\/jB op\/op=15\/op=16\/op=17\/op=18\/op=22\/op=23\/op=24\/op=25\/op=26\/op=27\/op=28\/op=29\/op=30\/op=31\/op=32\/op=33\/op=34\/op=35\/op=36\/op=37\/op=38\/op=39:=by
  unfold jB;omega
 have one:∀ {k:Int},Kd k->nI [k]:=λhk q hq=>by rw [List.mem_singleton] at hq;subst hq;exact hk
 have nil:nI []:=λ_ h=>(List.not_mem_nil h).elim;have mi:nI m.locs:=RB hm;rcases hop with rfl|rfl|rfl|rfl|rfl|hb|rfl|rfl|rfl|rfl|rfl|rfl|rfl|rfl|rfl|rfl|rfl|rfl|rfl|rfl|rfl|rfl|rfl|rfl|rfl|rfl|rfl|rfl
 case _=>exact one (by unfold Kd;omega)
 case _=>
  have hs:a < (m.locs.length:Int):=hs;have a1:0<=a:=a1;exact one (vI mi (by dsimp only;omega))
 case _=>exact nil
 case _=>exact nil
 case _=>
  have hn:l.length=1:=hn;have h0:Kd (bI l 0):=nB hl (by omega);intro q hq;simp [jZ] at hq;subst hq;exact h0
 case _=>
  have e:jZ i m ⟨op,a,b⟩ l=[sS (bI l 0) (bI l 1)]:=by
   unfold jB at hb;simp only [jZ];rw [if_neg (by omega),if_neg (by omega),if_neg (by omega),if_neg (by omega),if_pos (by unfold jB;omega)]
  rw [e];exact one RU
 case _=>have hn:l.length=1:=hn;exact one (nB hl (by omega))
 case _=>have hn:l.length=1:=hn;exact one (nB hl (by omega))
 case _=>exact one (by unfold Kd;omega)
 case _=>exact one (by unfold Kd;omega)
 case _=>
  have e:jZ i m ⟨22,a,b⟩ l=[HB l]:=rfl;have hn:l.length=3:=hn;rw [e];refine one ?_;unfold HB;split
  ·exact nB hl (by omega)
  ·exact RU
 case _=>exact nil
 case _=>exact nil
 case _=>have a1:3<=a:=a1;have a2:a<=4:=a2;exact one (by unfold Kd;dsimp only;omega)
 case _=>exact one (by unfold Kd;omega)
 case _=>have a1:3<=a:=a1;have a2:a<=4:=a2;exact one (by unfold Kd;dsimp only;omega)
 case _=>exact one (by unfold Kd;omega)
 case _=>
  have e:jZ i m ⟨29,a,b⟩ l=[ofK (bI l 0)]:=rfl;rw [e];simp only [pG,Bool.and_eq_true] at hk;have hn:l.length=2:=hn;have:=CN (t:=[-4,-3]) (l:=l) (n:=0) (show 0 < 2 by decide) (by omega) hk.1;have h2:fM (bI l 0)=true:=this;rw [VX] at h2;refine one ?_;rcases h2 with h2|h2<;>rw [h2]<;>(unfold Kd ofK;simp)
 case _=>exact nil
 case _=>exact nil
 case _=>
  have e:jZ i m ⟨32,a,b⟩ l=if bI l 0=4\/bI l 2=4 then [2] else [1]:=rfl
  rw [e];split<;>exact one (by unfold Kd;omega)
 case _=>
  have hs:a < (i.fields.length:Int):=hs;have a1:0<=a:=a1;exact one (vI hi.1.1 (by dsimp only;omega))
 case _=>exact nil
 case _=>have a1:1<=a:=a1;have a2:a<=2:=a2;exact one (by unfold Kd;dsimp only;omega)
 case _=>exact nil
 case _=>
  exact GV (hi.2.2.1.2.1 _ (bF.meth_mem a1 hs)).2.1
 case _=>
  exact GV (hi.2.1.2 _ (bF.imp_mem a1 hs)).2.2
 case _=>exact nil
theorem OG {i:bF} {m:gU} {x:gP} {s out:List Int} (h:BA i m x) (hs:nI s) (ho:ID i m x s=some out):nI out/\out.length<=8/\(bC i m x).length<=s.length/\out.length=s.length - (bC i m x).length+hgt i m x:=by
 simp only [ID] at ho;split at ho
 ·cases ho
 rename_i hn
 split at ho
 ·rename_i hk
  cases ho;have hsub:nI (s.drop (s.length - (bC i m x).length)):=λk hk=>hs k (List.mem_of_mem_drop hk);have hlen:(s.drop (s.length - (bC i m x).length)).length=(bC i m x).length:=by rw [List.length_drop];omega
  refine ⟨λk hk'=>?_,?_,by omega,?_⟩
  ·rcases List.mem_append.1 hk' with h1|h1
   ·exact hs k (List.mem_of_mem_take h1)
   ·exact WA h hsub hlen hk.1 k h1
  iterate 2
   ·rw [List.length_append,List.length_take,NU];omega
 ·cases ho
structure WF (m:gU) (s:St):Prop where
 l1:s.st.length=m.code.length
 l2:s.has.length=m.code.length
 l3:s.todo.length=m.code.length
 kd:∀ k,s.h k=true->nI (s.s k)/\(s.s k).length<=8
 no:∀ k,s.h k=false->s.s k=[]/\s.t k=false
def wt (s:St) (k:Nat):Nat:=(if s.t k then 1 else 0)+(if s.h k then 2*wY (s.s k) else 20)
def msr (n:Nat) (s:St):Nat:=((List.range n).map (wt s)).sum
theorem XX {l:List Nat} {g:Nat->Nat} (h:∀ k∈l,f k<=g k):(l.map f).sum<=(l.map g).sum:=by
 induction l with
 | nil=>exact Nat.le_refl _
 | cons a l ih=>
  simp only [List.map_cons,List.sum_cons];have:=ih λk hk=>h k (List.mem_cons_of_mem _ hk);have:=h a List.mem_cons_self;omega
theorem aLb {l:List Nat} {g:Nat->Nat} (h:∀ k∈l,f k<=g k) {a:Nat} (ha:a∈l) (hl:f a < g a):(l.map f).sum < (l.map g).sum:=by
 induction l with
 | nil=>exact (List.not_mem_nil ha).elim
 | cons b l ih=>
  simp only [List.map_cons,List.sum_cons];have h1:=h b List.mem_cons_self;have h2:=XX λk hk=>h k (List.mem_cons_of_mem _ hk);rcases List.mem_cons.1 ha with rfl|ha
  ·omega
  ·have:=ih (λk hk=>h k (List.mem_cons_of_mem _ hk)) ha;omega
structure XH (m:gU) (s s':St):Prop where
 has:∀ k,s.h k=true->s'.h k=true
 len:∀ k,s.h k=true->(s'.s k).length=(s.s k).length
 same:∀ k,s'.t k=false->s.h k=true->s'.s k=s.s k
 new:∀ k,s'.t k=false->s'.h k=true->s.h k=true
 wt:∀ k,k < m.code.length->wt s' k<=wt s k
 todo:∀ k,s.t k=true->s'.t k=true
theorem XH.refl (m:gU) (s:St):XH m s s:=⟨λ_ h=>h,λ_ _=>rfl,λ_ _ _=>rfl,λ_ _ h=>h,λ_ _=>Nat.le_refl _,λ_ h=>h⟩
theorem XH.trans {m:gU} {a b c:St} (h:XH m a b) (k:XH m b c):XH m a c where
 has q hq:=k.has q (h.has q hq)
 len q hq:=(k.len q (h.has q hq)).trans (h.len q hq)
 same q h1 h2:=by
  have hb:b.t q=false:=by cases hb:b.t q with
   | false=>rfl
   | true=>rw [k.todo q hb] at h1;cases h1
  exact (k.same q h1 (h.has q h2)).trans (h.same q hb h2)
 new q h1 h2:=by
  have hb:b.t q=false:=by cases hb:b.t q with
   | false=>rfl
   | true=>rw [k.todo q hb] at h1;cases h1
  exact h.new q hb (k.new q h1 h2)
 wt q hq:=Nat.le_trans (k.wt q hq) (h.wt q hq)
 todo q hq:=k.todo q (h.todo q hq)
theorem RJ {m:gU} {s s':St} (hw:WF m s) (h0:0<=to) (hs:nI stack) (hl:stack.length<=8) (h:pL m.code.length s to stack=some s') :
  WF m s'/\XH m s s'/\to < m.code.length/\s'.h to.toNat=true/\(s'.s to.toNat).length=stack.length:=by
 unfold pL at h;split at h
 ·cases h
 rename_i hto
 obtain ⟨k,rfl⟩:∃ k:Nat,to=k:=⟨to.toNat,by omega⟩;simp only [Int.toNat_natCast] at h ⊢;have hk:k < m.code.length:=by omega
 obtain ⟨w1,w2,w3,w4,w5⟩:=hw;split at h
 ·rename_i hh
  obtain ⟨j,hj,h⟩:=Option.bind_eq_some_iff.1 h;obtain ⟨c1,c2⟩:=w4 k hh;obtain ⟨j1,j2,j3,j4⟩:=HN c1 hs hj;have j5:=(wA hj).2;split at h
  ·rename_i he
   cases h;exact ⟨⟨w1,w2,w3,w4,w5⟩,XH.refl _ _,by omega,hh,by rw [<- he];exact j5⟩
  ·rename_i hne
   cases h;have j3:wY j < wY (s.s k):=j3.resolve_left hne
   have eS:∀ q,St.s { s with st:=s.st.set k j,todo:=s.todo.set k true } q=if q=k then j else s.s q:=λq=>by
    simp only [St.s,jL];by_cases hq:q=k
    ·rw [if_pos ⟨hq,by omega⟩,if_pos hq]
    ·rw [if_neg (λh=>hq h.1),if_neg hq]
   have eT:∀ q,St.t { s with st:=s.st.set k j,todo:=s.todo.set k true } q=if q=k then true else s.t q:=λq=>by
    simp only [St.t,jL];by_cases hq:q=k
    ·rw [if_pos ⟨hq,by omega⟩,if_pos hq]
    ·rw [if_neg (λh=>hq h.1),if_neg hq]
   have eH:∀ q,St.h { s with st:=s.st.set k j,todo:=s.todo.set k true } q=s.h q:=λq=>rfl;refine ⟨⟨by simpa using w1,w2,by simpa using w3,λq hq=>?_,λq hq=>?_⟩,⟨λq hq=>hq,λq hq=>?_,λq h1 h2=>?_,λq _ h2=>h2,λq hq=>?_,λq hq=>?_⟩,by omega,hh,?_⟩
   ·rw [eS];by_cases hqk:q=k
    ·rw [if_pos hqk];exact ⟨j1,by omega⟩
    ·rw [if_neg hqk];exact w4 q hq
   ·have hqk:q≠k:=λe=>by subst e;rw [eH] at hq;rw [hh] at hq;cases hq
    rw [eS,eT,if_neg hqk,if_neg hqk];exact w5 q hq
   ·rw [eS];by_cases hqk:q=k
    ·rw [if_pos hqk,hqk];exact j2
    ·rw [if_neg hqk]
   ·rw [eT] at h1;by_cases hqk:q=k
    ·rw [if_pos hqk] at h1;cases h1
    ·rw [eS,if_neg hqk]
   ·unfold wt;rw [eS,eT,eH];by_cases hqk:q=k
    ·subst hqk;rw [if_pos rfl,if_pos rfl];simp only [hh,if_true];split<;>omega
    ·rw [if_neg hqk,if_neg hqk];exact Nat.le_refl _
   ·rw [eT];by_cases hqk:q=k
    ·rw [if_pos hqk]
    ·rw [if_neg hqk];exact hq
   ·rw [eS,if_pos rfl];exact j5
 ·rename_i hh
  have hh:s.h k=false:=by simpa using hh
  cases h
  have eS:∀ q,St.s ⟨s.st.set k stack,s.has.set k true,s.todo.set k true⟩ q=if q=k then stack else s.s q:=λq=>by
   simp only [St.s,jL];by_cases hq:q=k
   ·rw [if_pos ⟨hq,by omega⟩,if_pos hq]
   ·rw [if_neg (λh=>hq h.1),if_neg hq]
  have eT:∀ q,St.t ⟨s.st.set k stack,s.has.set k true,s.todo.set k true⟩ q=if q=k then true else s.t q:=λq=>by
   simp only [St.t,jL];by_cases hq:q=k
   ·rw [if_pos ⟨hq,by omega⟩,if_pos hq]
   ·rw [if_neg (λh=>hq h.1),if_neg hq]
  have eH:∀ q,St.h ⟨s.st.set k stack,s.has.set k true,s.todo.set k true⟩ q=if q=k then true else s.h q:=λq=>by
   simp only [St.h,jL];by_cases hq:q=k
   ·rw [if_pos ⟨hq,by omega⟩,if_pos hq]
   ·rw [if_neg (λh=>hq h.1),if_neg hq]
  refine ⟨⟨by simpa using w1,by simpa using w2,by simpa using w3,λq hq=>?_,λq hq=>?_⟩,⟨λq hq=>?_,λq hq=>?_,λq h1 h2=>?_,λq h1 h2=>?_,λq hq=>?_,λq hq=>?_⟩,by omega,?_,?_⟩
  ·rw [eS];by_cases hqk:q=k
   ·rw [if_pos hqk];exact ⟨hs,hl⟩
   ·rw [if_neg hqk];rw [eH,if_neg hqk] at hq;exact w4 q hq
  ·rw [eH] at hq;by_cases hqk:q=k
   ·rw [if_pos hqk] at hq;cases hq
   ·rw [if_neg hqk] at hq;rw [eS,eT,if_neg hqk,if_neg hqk];exact w5 q hq
  ·rw [eH];split
   ·rfl
   ·exact hq
  ·have hqk:q≠k:=λe=>by subst e;rw [hh] at hq;cases hq
   rw [eS,if_neg hqk]
  ·have hqk:q≠k:=λe=>by subst e;rw [hh] at h2;cases h2
   rw [eS,if_neg hqk]
  ·have hqk:q≠k:=λe=>by rw [eT,if_pos e] at h1;cases h1
   rw [eH,if_neg hqk] at h2;exact h2
  ·unfold wt;rw [eS,eT,eH];by_cases hqk:q=k
   ·subst hqk;rw [if_pos rfl,if_pos rfl,if_pos rfl];have:=aDq stack;simp only [hh,if_true,Bool.false_eq_true,if_false];omega
   ·rw [if_neg hqk,if_neg hqk,if_neg hqk];exact Nat.le_refl _
  ·rw [eT];split
   ·rfl
   ·exact hq
  ·rw [eH,if_pos rfl]
  ·rw [eS,if_pos rfl]
theorem sL {m:gU} {stack:List Int} (hs:nI stack) (hl:stack.length<=8):∀ {l:List Int} {s s':St},WF m s->(∀ to∈l,0<=to)->kS m.code.length stack l s=some s' ->
  WF m s'/\XH m s s'/\∀ to∈l,to < m.code.length/\s'.h to.toNat=true/\(s'.s to.toNat).length=stack.length
 | [],s,s',hw,_,h=>by cases h;exact ⟨hw,XH.refl _ _,λ_ h=>(List.not_mem_nil h).elim⟩
 | to::l,s,s',hw,h0,h=>by
  simp only [kS,Option.bind_eq_some_iff] at h;obtain ⟨s1,h1,h2⟩:=h;obtain ⟨a1,a2,a3,a4,a5⟩:=RJ hw (h0 to (by simp)) hs hl h1;obtain ⟨b1,b2,b3⟩:=sL hs hl a1 (λq hq=>h0 q (by simp [hq])) h2;refine ⟨b1,a2.trans b2,λq hq=>?_⟩;rcases List.mem_cons.1 hq with rfl|hq
  ·exact ⟨a3,b2.has _ a4,(b2.len _ a4).trans a5⟩
  ·exact b3 q hq
def Led (i:bF) (m:gU) (s:St) (k:Nat):Prop:=∃ out,ID i m (m.ins k) (s.s k)=some out/\∀ to∈iU (m.ins k) k,0<=to/\to < m.code.length/\s.h to.toNat=true/\(s.s to.toNat).length=out.length
def Inv (i:bF) (m:gU) (s:St):Prop:=s.h 0=true/\s.s 0=[]/\∀ k,s.h k=true->s.t k=false->Led i m s k
theorem CL {i:bF} {m:gU} {x:gP} (h:BA i m x):∀ to∈iU x pc,0<=to:=by
 obtain ⟨_,_,hx,_⟩:=h;obtain ⟨op,a,b⟩:=x;intro to ht;unfold iU at ht;dsimp only at ht;have h1:(lim op).1<=a:=hx.2.1;split at ht
 ·rename_i e;subst e;rw [List.mem_singleton] at ht;subst ht;exact h1
 split at ht
 ·rename_i e;subst e
  rcases List.mem_cons.1 ht with rfl|ht
  ·omega
  ·rw [List.mem_singleton] at ht;subst ht;exact h1
 split at ht
 ·exact (List.not_mem_nil ht).elim
 ·rw [List.mem_singleton] at ht;subst ht;omega
theorem EH {m:gU} {k:Nat} (h:k < m.code.length):m.ins k∈m.code:=by
 unfold gU.ins;rw [List.getD_eq_getElem?_getD,List.getElem?_eq_getElem h];exact List.getElem_mem h
theorem xA {i:bF} {m:gU} {s s':St} (hx:∀ x∈m.code,BA i m x) (hw:WF m s) (hi:Inv i m s) (hf:lY s.todo=some pc) (h:tN i m s pc=some s') :
  WF m s'/\Inv i m s'/\msr m.code.length s' < msr m.code.length s:=by
 obtain ⟨f1,_⟩:=sO hf;have hpc:pc < m.code.length:=by have:=RL f1;have:=hw.l3;omega
 have hh:s.h pc=true:=by
  cases e:s.h pc with
  | true=>rfl
  | false=>have:=(hw.no pc e).2;rw [St.t,f1] at this;cases this
 simp only [tN,Option.bind_eq_some_iff] at h;obtain ⟨stack,hd,hg⟩:=h;have ox:=hx _ (EH hpc);obtain ⟨d1,d2,_,_⟩:=OG ox (hw.kd pc hh).1 hd
 have eT:∀ q,St.t { s with todo:=s.todo.set pc false } q=if q=pc then false else s.t q:=λq=>by
  simp only [St.t,jL];by_cases hq:q=pc
  ·rw [if_pos ⟨hq,by have:=hw.l3;omega⟩,if_pos hq]
  ·rw [if_neg (λh=>hq h.1),if_neg hq]
 have hw1:WF m { s with todo:=s.todo.set pc false }:=⟨hw.l1,hw.l2,by simpa using hw.l3,hw.kd,λq hq=>⟨(hw.no q hq).1,by rw [eT];split;rfl;exact (hw.no q hq).2⟩⟩;obtain ⟨g1,g2,g3⟩:=sL d1 d2 hw1 (CL ox) hg;refine ⟨g1,⟨g2.has 0 hi.1,?_,λk h1 h2=>?_⟩,?_⟩
 ·have:=g2.len 0 hi.1;have e0:St.s { s with todo:=s.todo.set pc false } 0=[]:=hi.2.1;rw [e0] at this;exact List.eq_nil_of_length_eq_zero this
 ·have h3:s.h k=true:=g2.new k h2 h1;have h4:s'.s k=s.s k:=g2.same k h2 h3;by_cases hk:k=pc
  ·subst hk;exact ⟨stack,by rw [h4];exact hd,λto ht=>⟨CL ox to ht,g3 to ht⟩⟩
  ·have h5:s.t k=false:=by
    cases e:s.t k with
    | false=>rfl
    | true=>have:=g2.todo k (by rw [eT,if_neg hk];exact e);rw [this] at h2;cases h2
   obtain ⟨out,o1,o2⟩:=hi.2.2 k h3 h5;refine ⟨out,by rw [h4];exact o1,λto ht=>?_⟩;obtain ⟨p1,p2,p3,p4⟩:=o2 to ht;exact ⟨p1,p2,g2.has _ p3,(g2.len _ p3).trans p4⟩
 ·refine Nat.lt_of_le_of_lt (XX (g:=wt { s with todo:=s.todo.set pc false }) λk hk=>g2.wt k (List.mem_range.1 hk)) ?_;refine aLb (λk _=>?_) (List.mem_range.2 hpc) ?_
  ·unfold wt;rw [eT];by_cases hk:k=pc
   ·rw [if_pos hk];exact Nat.add_le_add (by simp) (Nat.le_refl _)
   ·rw [if_neg hk];exact Nat.le_refl _
  ·unfold wt;rw [eT,if_pos rfl];have e:s.t pc=true:=f1;rw [e];exact Nat.add_lt_add_of_lt_of_le (by simp) (Nat.le_refl _)
theorem zJ {i:bF} {m:gU} (h:1<=m.code.length):WF m (St.first m.code.length)/\Inv i m (St.first m.code.length):=by
 have eH:∀ q,(St.first m.code.length).h q=decide (q=0):=λq=>by
  simp only [St.first,St.h,jL];by_cases hq:q=0
  ·rw [if_pos ⟨hq,by simp;omega⟩];simp [hq]
  ·rw [if_neg (λh=>hq h.1)];simp only [hq,decide_false,List.getD_eq_getElem?_getD,List.getElem?_replicate];split<;>rfl
 have eT:∀ q,(St.first m.code.length).t q=decide (q=0):=eH
 have eS:∀ q,(St.first m.code.length).s q=[]:=λq=>by
  simp only [St.first,St.s,jL];split
  ·rfl
  ·simp only [List.getD_eq_getElem?_getD,List.getElem?_replicate];split<;>rfl
 refine ⟨⟨by simp [St.first],by simp [St.first],by simp [St.first],λk _=>?_,λk hk=>?_⟩,by rw [eH];rfl,eS 0,λk h1 h2=>?_⟩
 ·rw [eS];exact ⟨λ_ h=>(List.not_mem_nil h).elim,by simp⟩
 ·refine ⟨eS k,?_⟩;rw [eT,<- eH k];exact hk
 ·rw [eT] at h2;rw [eH] at h1;rw [h1] at h2;cases h2
theorem qA.ok {i:bF} {m:gU} (hx:∀ x∈m.code,BA i m x) {s:St} {r:Option St} (h:qA i m s r):∀ s',r=some s'->WF m s->Inv i m s->WF m s'/\Inv i m s'/\∀ k,s'.t k=false:=by
 induction h with
 | done h1=>intro s' he hw hi;cases he;exact ⟨hw,hi,wU h1⟩
 | fail _ _=>intro s' he;cases he
 | go h1 h2 _ ih=>
  intro s' he hw hi;obtain ⟨a,b,_⟩:=xA hx hw hi h1 h2;exact ih s' he a b
theorem rN.led {i:bF} {m:gU} {s:St} (hi:i.right) (hm:m.right) (h:rN i m (some s)):(∀ x∈m.code,BA i m x)/\WF m s/\s.h 0=true/\s.s 0=[]/\∀ k,s.h k=true->Led i m s k:=by
 rcases h with ⟨_,h⟩|⟨h1,h2⟩
 ·cases h
 have hx:∀ x∈m.code,BA i m x:=λx hx=>⟨hi,hm,hm.2.2.2.2 x hx,h1 x hx⟩;obtain ⟨a,b⟩:=zJ (i:=i) hm.2.2.2.1.1;obtain ⟨c,d,e⟩:=h2.ok hx s rfl a b;exact ⟨hx,c,d.1,d.2.1,λk hk=>d.2.2 k hk (e k)⟩
def nJ (a b:List Int):Prop:=jA a b=some a
theorem NL (h:Kd a):pH a a=some a:=by
 obtain ⟨h1,h2⟩:=h;have e:a=1\/a=2\/a=3\/a=4:=by omega
 rcases e with rfl|rfl|rfl|rfl<;>decide
theorem aAf {b:Int} (ha:Kd a) (hb:Kd b) (h:pH a b=some k):pH k a=some k/\pH k b=some k:=by
 obtain ⟨a1,a2⟩:=ha;obtain ⟨b1,b2⟩:=hb;have ea:a=1\/a=2\/a=3\/a=4:=by omega
 have eb:b=1\/b=2\/b=3\/b=4:=by omega
 rcases ea with rfl|rfl|rfl|rfl<;>rcases eb with rfl|rfl|rfl|rfl<;>simp [pH,dN,fM,sS] at h<;>subst h<;>decide
theorem HQ {b c:Int} (ha:Kd a) (hb:Kd b) (hc:Kd c) (h:pH a b=some a) (k:pH b c=some b):pH a c=some a:=by
 obtain ⟨a1,a2⟩:=ha;obtain ⟨b1,b2⟩:=hb;obtain ⟨c1,c2⟩:=hc;have ea:a=1\/a=2\/a=3\/a=4:=by omega
 have eb:b=1\/b=2\/b=3\/b=4:=by omega
 have ec:c=1\/c=2\/c=3\/c=4:=by omega
 rcases ea with rfl|rfl|rfl|rfl<;>rcases eb with rfl|rfl|rfl|rfl<;>rcases ec with rfl|rfl|rfl|rfl<;>first|rfl|(revert h k;decide)
theorem nI.hd {l:List Int} (h:nI (a::l)):Kd a/\nI l:=⟨h a (by simp),λk hk=>h k (by simp [hk])⟩
theorem nJ.refl:∀ {a:List Int},nI a->nJ a a
 | [],_=>rfl
 | a::l,h=>by
  have:=nJ.refl h.hd.2;unfold nJ at *;simp [jA,NL h.hd.1,this]
theorem HM:∀ {a b j:List Int},nI a->nI b->jA a b=some j->nJ j a/\nJ j b
 | [],[],j,_,_,h=>by cases h;exact ⟨rfl,rfl⟩
 | [],_::_,_,_,_,h=>by cases h
 | _::_,[],_,_,_,h=>by cases h
 | x::a,y::b,j,ha,hb,h=>by
  simp only [jA,Option.bind_eq_some_iff,Option.map_eq_some_iff] at h;obtain ⟨k,hk,l,hl,rfl⟩:=h;obtain ⟨h1,h2⟩:=aAf ha.hd.1 hb.hd.1 hk;obtain ⟨h3,h4⟩:=HM ha.hd.2 hb.hd.2 hl;unfold nJ at *;simp [jA,h1,h2,h3,h4]
theorem nJ.trans:∀ {a b c:List Int},nI a->nI b->nI c->nJ a b->nJ b c->nJ a c
 | [],[],[],_,_,_,_,_=>rfl
 | [],[],_::_,_,_,_,_,k=>by cases k
 | [],_::_,_,_,_,_,h,_=>by cases h
 | _::_,[],_,_,_,_,h,_=>by cases h
 | _::_,_::_,[],_,_,_,_,k=>by cases k
 | x::a,y::b,z::c,ha,hb,hc,h,k=>by
  unfold nJ at h k;simp only [jA,Option.bind_eq_some_iff,Option.map_eq_some_iff,List.cons.injEq] at h k;obtain ⟨k1,h1,l1,h2,rfl,rfl⟩:=h;obtain ⟨k2,h3,l2,h4,rfl,rfl⟩:=k;have t1:=HQ ha.hd.1 hb.hd.1 hc.hd.1 h1 h3;have t2:=nJ.trans ha.hd.2 hb.hd.2 hc.hd.2 h2 h4;unfold nJ at t2 ⊢;simp [jA,t1,t2]
theorem nJ.len {a b:List Int} (h:nJ a b):b.length=a.length:=((wA h).2).symm
def Up (s s':St):Prop:=∀ k,s.h k=true->nJ (s'.s k) (s.s k)
theorem aEn {m:gU} {s s':St} (hw:WF m s) (h0:0<=to) (hs:nI stack) (h:pL m.code.length s to stack=some s'):Up s s'/\nJ (s'.s to.toNat) stack:=by
 unfold pL at h;split at h
 ·cases h
 rename_i hto
 obtain ⟨k,rfl⟩:∃ k:Nat,to=k:=⟨to.toNat,by omega⟩;simp only [Int.toNat_natCast] at h ⊢;have hk:k < m.code.length:=by omega
 obtain ⟨w1,w2,w3,w4,w5⟩:=hw;split at h
 ·rename_i hh
  obtain ⟨j,hj,h⟩:=Option.bind_eq_some_iff.1 h;obtain ⟨c1,c2⟩:=w4 k hh;obtain ⟨u1,u2⟩:=HM c1 hs hj;split at h
  ·rename_i he
   cases h;exact ⟨λq hq=>nJ.refl (w4 q hq).1,he▸u2⟩
  ·cases h
   have eS:∀ q,St.s { s with st:=s.st.set k j,todo:=s.todo.set k true } q=if q=k then j else s.s q:=λq=>by
    simp only [St.s,jL];by_cases hq:q=k
    ·rw [if_pos ⟨hq,by omega⟩,if_pos hq]
    ·rw [if_neg (λh=>hq h.1),if_neg hq]
   refine ⟨λq hq=>?_,by rw [eS,if_pos rfl];exact u2⟩;rw [eS];by_cases hqk:q=k
   ·rw [if_pos hqk,hqk];exact u1
   ·rw [if_neg hqk];exact nJ.refl (w4 q hq).1
 ·rename_i hh
  cases h
  have eS:∀ q,St.s ⟨s.st.set k stack,s.has.set k true,s.todo.set k true⟩ q=if q=k then stack else s.s q:=λq=>by
   simp only [St.s,jL];by_cases hq:q=k
   ·rw [if_pos ⟨hq,by omega⟩,if_pos hq]
   ·rw [if_neg (λh=>hq h.1),if_neg hq]
  refine ⟨λq hq=>?_,by rw [eS,if_pos rfl];exact nJ.refl hs⟩;have hqk:q≠k:=λe=>hh (e▸hq);rw [eS,if_neg hqk];exact nJ.refl (w4 q hq).1
theorem Up.trans {m:gU} {a b c:St} (h:Up a b) (k:Up b c) (hw:WF m a) (hb:WF m b) (hc:WF m c) (f:XH m a b) (g:XH m b c):Up a c:=λq hq=>
 (k q (f.has q hq)).trans (hc.kd q (g.has q (f.has q hq))).1 (hb.kd q (f.has q hq)).1 (hw.kd q hq).1 (h q hq)
theorem HZ {m:gU} {stack:List Int} (hs:nI stack) (hl:stack.length<=8):∀ {l:List Int} {s s':St},WF m s->(∀ to∈l,0<=to)->kS m.code.length stack l s=some s' ->
  Up s s'/\∀ to∈l,nJ (s'.s to.toNat) stack
 | [],s,s',hw,_,h=>by cases h;exact ⟨λq hq=>nJ.refl (hw.kd q hq).1,λ_ h=>(List.not_mem_nil h).elim⟩
 | to::l,s,s',hw,h0,h=>by
  simp only [kS,Option.bind_eq_some_iff] at h;obtain ⟨s1,h1,h2⟩:=h;obtain ⟨a1,a2,a3,a4,a5⟩:=RJ hw (h0 to (by simp)) hs hl h1;obtain ⟨b1,b2,b3⟩:=sL hs hl a1 (λq hq=>h0 q (by simp [hq])) h2;obtain ⟨u1,u2⟩:=aEn hw (h0 to (by simp)) hs h1;obtain ⟨v1,v2⟩:=HZ hs hl a1 (λq hq=>h0 q (by simp [hq])) h2;refine ⟨u1.trans v1 hw a1 b1 a2 b2,λq hq=>?_⟩;rcases List.mem_cons.1 hq with rfl|hq
  ·exact (v1 _ a4).trans (b1.kd _ (b2.has _ a4)).1 (a1.kd _ a4).1 hs u2
  ·exact v2 q hq
def aUa (i:bF) (m:gU) (s:St) (k:Nat):Prop:=∃ out,ID i m (m.ins k) (s.s k)=some out/\nI out/\∀ to∈iU (m.ins k) k,0<=to/\to < m.code.length/\s.h to.toNat=true/\nJ (s.s to.toNat) out
def aCb (i:bF) (m:gU) (s:St):Prop:=∀ k,s.h k=true->s.t k=false->aUa i m s k
theorem aDg {i:bF} {m:gU} {s s':St} (hx:∀ x∈m.code,BA i m x) (hw:WF m s) (hi:Inv i m s) (hk:aCb i m s) (hf:lY s.todo=some pc) (h:tN i m s pc=some s'):aCb i m s':=by
 have hstep:=xA hx hw hi hf h;obtain ⟨f1,_⟩:=sO hf;have hpc:pc < m.code.length:=by have:=RL f1;have:=hw.l3;omega
 have hh:s.h pc=true:=by
  cases e:s.h pc with
  | true=>rfl
  | false=>have:=(hw.no pc e).2;rw [St.t,f1] at this;cases this
 simp only [tN,Option.bind_eq_some_iff] at h;obtain ⟨stack,hd,hg⟩:=h;have ox:=hx _ (EH hpc);obtain ⟨d1,d2,_,_⟩:=OG ox (hw.kd pc hh).1 hd
 have eT:∀ q,St.t { s with todo:=s.todo.set pc false } q=if q=pc then false else s.t q:=λq=>by
  simp only [St.t,jL];by_cases hq:q=pc
  ·rw [if_pos ⟨hq,by have:=hw.l3;omega⟩,if_pos hq]
  ·rw [if_neg (λh=>hq h.1),if_neg hq]
 have hw1:WF m { s with todo:=s.todo.set pc false }:=⟨hw.l1,hw.l2,by simpa using hw.l3,hw.kd,λq hq=>⟨(hw.no q hq).1,by rw [eT];split;rfl;exact (hw.no q hq).2⟩⟩;obtain ⟨g1,g2,g3⟩:=sL d1 d2 hw1 (CL ox) hg;obtain ⟨u1,u2⟩:=HZ d1 d2 hw1 (CL ox) hg;intro k h1 h2;have h3:s.h k=true:=g2.new k h2 h1;have h4:s'.s k=s.s k:=g2.same k h2 h3;by_cases hkp:k=pc
 ·subst hkp;exact ⟨stack,by rw [h4];exact hd,d1,λto ht=>⟨CL ox to ht,(g3 to ht).1,(g3 to ht).2.1,u2 to ht⟩⟩
 ·have h5:s.t k=false:=by
   cases e:s.t k with
   | false=>rfl
   | true=>have:=g2.todo k (by rw [eT,if_neg hkp];exact e);rw [this] at h2;cases h2
  obtain ⟨out,o1,ok,o2⟩:=hk k h3 h5;refine ⟨out,by rw [h4];exact o1,ok,λto ht=>?_⟩;obtain ⟨p1,p2,p3,p4⟩:=o2 to ht;exact ⟨p1,p2,g2.has _ p3,(u1 _ p3).trans (g1.kd _ (g2.has _ p3)).1 (hw.kd _ p3).1 ok p4⟩
theorem qA.up {i:bF} {m:gU} (hx:∀ x∈m.code,BA i m x) {s:St} {r:Option St} (h:qA i m s r):∀ s',r=some s'->WF m s->Inv i m s->aCb i m s->aCb i m s':=by
 induction h with
 | done h1=>intro s' he hw hi hk;cases he;exact hk
 | fail _ _=>intro s' he;cases he
 | go h1 h2 _ ih=>
  intro s' he hw hi hk;obtain ⟨a,b,_⟩:=xA hx hw hi h1 h2;exact ih s' he a b (aDg hx hw hi hk h1 h2)
theorem rN.flow {i:bF} {m:gU} {s:St} (hi:i.right) (hm:m.right) (h:rN i m (some s)):∀ k,s.h k=true->aUa i m s k:=by
 have hled:=h.led hi hm;rcases h with ⟨_,h⟩|⟨h1,h2⟩
 ·cases h
 obtain ⟨hx,_⟩:=hled;obtain ⟨a,b⟩:=zJ (i:=i) hm.2.2.2.1.1;obtain ⟨c,d,e⟩:=h2.ok hx s rfl a b
 have h0:aCb i m (St.first m.code.length):=λk h1 h2=>by
  have:(St.first m.code.length).h k=(St.first m.code.length).t k:=rfl;rw [this,h2] at h1;cases h1
 exact λk hk=>h2.up hx s rfl a b h0 k hk (e k)
end Go.Tc
namespace Go.Vc
theorem aVu {w:Ω} {C:Ω->Prop}:(∃ J:NP 0,J w/\∀ w':Ω,J w'->∀ _f:bQ,C w')↔C w:=
 ⟨λ⟨_,h,k⟩=>k w h λ_=>undef,λh=>⟨λw'=>w'=w,rfl,λ_ e _=>e▸h⟩⟩
theorem aVt {a:O} {w:Ω} {C:O->Ω->Prop}:(∃ J:NP 1,J a w/\∀ (t:O) (w':Ω),J t w'->∀ _f:bQ,C t w')↔C a w:=
 ⟨λ⟨_,h,k⟩=>k a w h λ_=>undef,λh=>⟨λt w'=>t=a/\w'=w,⟨rfl,rfl⟩,λ_ _ e _=>e.1▸e.2▸h⟩⟩
theorem aVs {a b:O} {w:Ω} {C:O->O->Ω->Prop}:(∃ J:NP 2,J a b w/\∀ (t u:O) (w':Ω),J t u w'->∀ _f:bQ,C t u w')↔C a b w:=
 ⟨λ⟨_,h,k⟩=>k a b w h λ_=>undef,λh=>⟨λt u w'=>t=a/\u=b/\w'=w,⟨rfl,rfl,rfl⟩,λ_ _ _ e _=>e.1▸e.2.1▸e.2.2▸h⟩⟩
theorem aMm {P:Program} {w:Ω} {K:O->Ω->Prop} {t s f o ft sz:Nat} {v:O} {n:Nat} {cs:List O} {k:IntKind} {i:Int} {u:O} (h:XA P t sz) (hf:FA P s f o) (hl:L1 P ft) (hs:aB w v sz n cs) (h0:0<=i) (h1:i < n)
  (hu:cs[i.toNat*sz+o]?=some u) (hk:K u w) :
  V P (Instr.indexAt t v (.int k i)) w λp w1=>V P (Instr.fieldAt s p f) w1 λq w2=>V P (Instr.loadAt ft q) w2 K:=by
 obtain ⟨e,z,b',hte,hi⟩:=h;obtain ⟨d,hd,ha⟩:=hl;obtain ⟨b,off,cap,rfl,hcell⟩:=hs.there (by omega);refine V.ok (gE hte hi h0 h1) (V.ok (hf.ex w b _) (V.ok (jX hd ha ?_) hk));have:=hcell _ _ hu;rw [<- Nat.add_assoc] at this;exact this
theorem aY:((¬True)=False)/\((¬False)=True)/\(∀ {α:Type} {a b:α},(a≠b)=¬(a=b))/\((false=true)=False)/\((!true)=false)/\((!false)=true)/\(∀ {h:Decidable True},@decide True h=true)/\(∀ {h:Decidable False},@decide False h=false)/\(∀ {α:Type} {h:Decidable True} {a b:α},(@ite α True h a b)=a)/\(∀ {α:Type} {h:Decidable False} {a b:α},(@ite α False h a b)=b)/\(∀ {P:Program} {w:Ω} {K:O->Ω->Prop} {k:IntKind} {t:TypeId} {a b:Int},V P (binOp BinOp.lss t (Value.int k a) (Value.int k b)) w K↔K (Value.bool (decide (a < b))) w)/\(∀ {P:Program} {w:Ω} {K:O->Ω->Prop} {k:IntKind} {t:TypeId} {a b:Int},V P (binOp BinOp.leq t (Value.int k a) (Value.int k b)) w K↔K (Value.bool (decide (a<=b))) w)/\(∀ {P:Program} {w:Ω} {K:O->Ω->Prop} {k:IntKind} {t:TypeId} {a b:Int},V P (binOp BinOp.gtr t (Value.int k a) (Value.int k b)) w K↔K (Value.bool (decide (a > b))) w)/\(∀ {P:Program} {w:Ω} {K:O->Ω->Prop} {k:IntKind} {t:TypeId} {a b:Int},V P (binOp BinOp.geq t (Value.int k a) (Value.int k b)) w K↔K (Value.bool (decide (a>=b))) w)/\(∀ {P:Program} {w:Ω} {K:O->Ω->Prop} {k:IntKind} {t:TypeId} {x y:Operand} {a b:Int},V P (do eqGuard BinOp.eql t x y (Value.int k a) (Value.int k b);binOp BinOp.eql t (Value.int k a) (Value.int k b)) w K↔K (Value.bool (decide (a=b))) w)/\(∀ {P:Program} {w:Ω} {K:O->Ω->Prop} {k:IntKind} {t:TypeId} {x y:Operand} {a b:Int},V P (do eqGuard BinOp.neq t x y (Value.int k a) (Value.int k b);binOp BinOp.neq t (Value.int k a) (Value.int k b)) w K↔K (Value.bool (decide (a≠b))) w)/\(∀ {P:Program} {w:Ω} {K:O->Ω->Prop} {b:Bool},V P (Op.unary UnOp.not (Value.bool b)) w K↔K (Value.bool !b) w)/\(∀ {w:Ω} {K:O->Ω->Prop} {step:(O->Ω->Prop)->Prop},gd (Value.bool true) true step w K↔step K)/\(∀ {w:Ω} {K:O->Ω->Prop} {step:(O->Ω->Prop)->Prop},gd (Value.bool false) false step w K↔step K)/\(∀ {w:Ω} {K:O->Ω->Prop} {step:(O->Ω->Prop)->Prop},gd (Value.bool true) false step w K↔K undef w)/\(∀ {w:Ω} {K:O->Ω->Prop} {step:(O->Ω->Prop)->Prop},gd (Value.bool false) true step w K↔K undef w)/\(∀ {w:Ω} {K:O->Ω->Prop} {want:Bool} {step:(O->Ω->Prop)->Prop},gd undef want step w K↔K undef w)/\(∀ {step:(O->Prop)->Prop} {L:O->Prop},pN (Value.bool true) true step L↔step L)/\(∀ {step:(O->Prop)->Prop} {L:O->Prop},pN (Value.bool false) false step L↔step L)/\(∀ {step:(O->Prop)->Prop} {L:O->Prop},pN (Value.bool true) false step L↔L undef)/\(∀ {step:(O->Prop)->Prop} {L:O->Prop},pN (Value.bool false) true step L↔L undef)/\(∀ {want:Bool} {step:(O->Prop)->Prop} {L:O->Prop},pN undef want step L↔L undef)/\(∀ {b:Bool} {x y:O} {L:O->Prop},aN (Value.bool b) x y L↔L (if b=true then x else y))/\(∀ {x y:Prop},aO (Value.bool true) x y↔x)/\(∀ {x y:Prop},aO (Value.bool false) x y↔y)/\(∀ {w:Ω} {C:Ω->Prop},(∃ J:NP 0,J w/\∀ (w':Ω),J w'->∀ (_f:bQ),C w')↔C w)/\(∀ {a:O} {w:Ω} {C:O->Ω->Prop},(∃ J:NP 1,J a w/\∀ (t:O) (w':Ω),J t w'->∀ (_f:bQ),C t w')↔C a w)/\∀ {a b:O} {w:Ω} {C:O->O->Ω->Prop},(∃ J:NP 2,J a b w/\∀ (t u:O) (w':Ω),J t u w'->∀ (_f:bQ),C t u w')↔C a b w:=
  And.intro (not_true_eq_false) <| And.intro (not_false_eq_true) <| And.intro (λ{_ a b}=>ne_eq a b) <| And.intro (Bool.false_eq_true) <| And.intro (Bool.not_true) <| And.intro (Bool.not_false) <| And.intro (λ{_}=>decide_true _) <| And.intro (λ{_}=>decide_false _) <| And.intro (λ{_ _ _ _}=>if_pos trivial) <| And.intro (λ{_ _ _ _}=>if_neg id) <| And.intro @aV <| And.intro @SD <| And.intro @dR <| And.intro @kU <| And.intro @aF <| And.intro @aS <| And.intro @fN <| And.intro @EL <| And.intro @dJ <| And.intro @kB <| And.intro @CV <| And.intro @aAq <| And.intro @aKg <| And.intro @kC <| And.intro @zI <| And.intro @aAr <| And.intro @WB <| And.intro @aJ <| And.intro @aE <| And.intro @aA <| And.intro @aVu <| And.intro @aVt @aVs
end Go.Vc
namespace Go.Proofs.YtgkkecladbmjkaaGreatDoor
open Tryz
open Go.Vc Go.Tc
variable {w:Ω} {K:O->Ω->Prop}
variable {a k op:Int} {α:Type} {i sz:Nat} {x:gP} {φ:Prop} {w':Ω}
theorem rA (h:K (.bool (fM k)) w):aC prog 147 #[i64 k] w K:=by
 apply aIb;unfold KT;by_cases h1:k=3
 ·subst h1;simp only [aY];exact h
 ·by_cases h2:k=4
  ·subst h2;simp only [aY,Int.reduceEq];exact h
  ·simp only [h1,h2,aY];rwa [show fM k=false by simp [fM,h1,h2]] at h
theorem qZ (h:K (.bool (dN k)) w):aC prog 148 #[i64 k] w K:=by
 apply aIa;unfold KS;by_cases h1:k=1
 ·subst h1;simp only [aY];exact h
 ·by_cases h2:k=2
  ·subst h2;simp only [aY,Int.reduceEq];exact h
  ·simp only [h1,h2,aY];rwa [show dN k=false by simp [dN,h1,h2]] at h
def zA (k:Int):Bool:=k == 2||k == 4
theorem xG (h:K (.bool (zA k)) w):aC prog 149 #[i64 k] w K:=by
 apply aHz;unfold KR;by_cases h1:k=2
 ·subst h1;simp only [aY];exact h
 ·by_cases h2:k=4
  ·subst h2;simp only [aY,Int.reduceEq];exact h
  ·simp only [h1,h2,aY];rwa [show zA k=false by simp [zA,h1,h2]] at h
theorem kd4 (h:Kd k):k=1\/k=2\/k=3\/k=4:=by obtain ⟨h1,h2⟩:=h;omega
theorem xK {b:Int} (h:K (i64 (sS a b)) w):aC prog 198 #[i64 a,i64 b] w K:=by
 apply aGp;unfold JI;by_cases h1:a=2
 ·subst h1;simp only [aY];simpa [sS] using h
 ·by_cases h2:b=2
  ·subst h2;simp only [h1,aY];simpa [sS] using h
  ·simp only [h1,h2,aY];simpa [sS,h1,h2] using h
theorem aSv (h:K (i64 (ofK a)) w):aC prog 199 #[i64 a] w K:=by
 apply aGo;unfold JH;by_cases h1:a=3
 ·subst h1;simp only [aY,Int.reduceEq];exact h
 ·by_cases h2:a=4
  ·subst h2;simp only [aY,Int.reduceEq];exact h
  ·simp only [h1,h2,aY];simpa [ofK,h1,h2] using h
def aNg (f t:Int):Bool:=f == t||(f == 1&&t == 2)
theorem aEp {b:Int} (ha:Kd a) (hb:Kd b) (h:K (.bool (aNg a b)) w):aC prog 197 #[i64 a,i64 b] w K:=by
 apply aGq;unfold JJ
 rcases kd4 ha with rfl|rfl|rfl|rfl<;>rcases kd4 hb with rfl|rfl|rfl|rfl <;>
  (repeat (first|simp only [aY,Int.reduceEq]|(refine qZ ?_;simp only [dN,Int.reduceBEq,Bool.or_false,Bool.or_true])|(refine rA ?_;simp only [fM,Int.reduceBEq,Bool.or_false,Bool.or_true])|exact h))
def aKb (a b:Int):O:=match pH a b with
 | some k=>.tuple #[i64 k,.bool true]
 | none=>.tuple #[i64 0,.bool false]
theorem aEh {b:Int} (ha:Kd a) (hb:Kd b) (h:K (aKb a b) w):aC prog 153 #[i64 a,i64 b] w K:=by
 apply aHv;unfold KN
 rcases kd4 ha with rfl|rfl|rfl|rfl<;>rcases kd4 hb with rfl|rfl|rfl|rfl <;>
  (repeat (first|simp only [aY,Int.reduceEq]|(refine qZ ?_;simp only [dN,Int.reduceBEq,Bool.or_false,Bool.or_true])|(refine rA ?_;simp only [fM,Int.reduceBEq,Bool.or_false,Bool.or_true])|exact h))
def aTe (a b:Int):Int:=if dN a≠dN b\/(fM a=true/\a≠b) then 11 else if aNg a b then 0 else 12
theorem zB {b:Int} (ha:Kd a) (hb:Kd b) (h:K (i64 (aTe a b)) w):aC prog 151 #[i64 a,i64 b] w K:=by
 apply aHx;unfold KP
 rcases kd4 ha with rfl|rfl|rfl|rfl<;>rcases kd4 hb with rfl|rfl|rfl|rfl <;>
  (repeat (first|simp only [aBw,aY,Int.reduceEq,bne_self_eq_false,Bool.bne_false,Bool.bne_true]|(refine qZ ?_;simp only [dN,Int.reduceBEq,Bool.or_false,Bool.or_true])|(refine rA ?_;simp only [fM,Int.reduceBEq,Bool.or_false,Bool.or_true])|(refine aEp ha hb ?_;simp only [aNg,Int.reduceBEq,Bool.or_false,Bool.or_true,Bool.and_true,Bool.and_false])|exact h))
def Ask (a:Int):Prop:=a=-1\/a=-2\/a=-3\/a=-4\/Kd a
theorem uT {n lo hi:Int} (h:K (.bool (decide (lo<=n/\n<=hi))) w):aC prog 145 #[i64 n,i64 lo,i64 hi] w K:=by
 apply aId;unfold KV;simp only [kU,ge_iff_le];by_cases h1:lo<=n
 ·simp only [h1,true_and,aY] at h ⊢;exact h
 ·simp only [h1,false_and,aY] at h ⊢;exact h
def HE (op:Int):Int:=if op=27 then 2 else if op=1\/op=2\/op=3\/op=23\/op=24\/op=25\/op=33\/op=34\/op=35\/op=36\/op=37\/op=38 then 1 else 0
theorem VN (h:1<=op/\op<=39):op=1\/op=2\/op=3\/op=4\/op=5\/op=6\/op=7\/op=8\/op=9\/op=10\/op=11\/op=12\/op=13\/op=14\/op=15\/op=16\/op=17\/op=18\/op=19\/op=20\/op=21\/op=22\/op=23\/op=24\/op=25\/op=26\/op=27\/op=28\/op=29\/op=30\/op=31\/op=32\/op=33\/op=34\/op=35\/op=36\/op=37\/op=38\/op=39:=by omega
theorem QV (ho:1<=op/\op<=39) (h:K (i64 (HE op)) w):aC prog 144 #[i64 op] w K:=by
 apply aIe;unfold KW;rcases VN ho with rfl|rfl|rfl|rfl|rfl|rfl|rfl|rfl|rfl|rfl|rfl|rfl|rfl|rfl|rfl|rfl|rfl|rfl|rfl|rfl|rfl|rfl|rfl|rfl|rfl|rfl|rfl|rfl|rfl|rfl|rfl|rfl|rfl|rfl|rfl|rfl|rfl|rfl|rfl<;>(simp only [aY,Int.reduceEq];exact h)
def jK (l:List gP):List O:=l.flatMap λx=>[i64 x.op,i64 x.a,i64 x.b]
def pM (w:Ω) (v:O) (l:List gP):Prop:=aB w v 3 l.length (jK l)
theorem pI:∀ {l:List gP} {k:Nat} {x:gP},l[k]?=some x->((jK l).drop (k*3)).take 3=[i64 x.op,i64 x.a,i64 x.b]
 | [],_,_,h=>by simp at h
 | y::l,0,x,h=>by simp at h;subst h;simp [jK]
 | y::l,k+1,x,h=>by
  have:=pI (l:=l) (k:=k) (by simpa using h);simp only [jK,List.flatMap_cons] at this ⊢;rw [show (k+1)*3=k*3+3 by omega,<- List.drop_drop];simpa [List.drop_append] using this
theorem pM.ext {w':Ω} {v:O} {l:List gP} (h:pM w v l) (hx:aG w w'):pM w' v l:=aB.ext h hx
def dS {α:Type} (T:Ω->List O->α->Prop) (sz:Nat) (w:Ω) (v:O) (l:List α):Prop:=
 ∃ cs,aB w v sz l.length cs/\∀ (k:Nat) x,l[k]?=some x->∃ row,(cs.drop (k*sz)).take sz=row/\T w row x
theorem dS.ext {α:Type} {T:Ω->List O->α->Prop} (hT:∀ {w w' row x},T w row x->aG w w'->T w' row x) {sz:Nat} {w':Ω} {v:O} {l:List α} (h:dS T sz w v l) (hx:aG w w'):dS T sz w' v l:=by
 obtain ⟨cs,h1,h2⟩:=h;refine ⟨cs,h1.ext hx,λk x hk=>?_⟩;obtain ⟨row,h3,h4⟩:=h2 k x hk;exact ⟨row,h3,hT h4 hx⟩
def jO (w:Ω) (row:List O) (m:gU):Prop:=∃ pv lv cv,row=[pv,i64 m.result,lv,cv]/\aU w pv m.params/\aU w lv m.locals/\pM w cv m.code
theorem jO.ext {w w':Ω} {row:List O} {m:gU} (h:jO w row m) (hx:aG w w'):jO w' row m:=by
 obtain ⟨pv,lv,cv,h1,h2,h3,h4⟩:=h;exact ⟨pv,lv,cv,h1,h2.ext hx,h3.ext hx,h4.ext hx⟩
def rH (w:Ω) (row:List O) (x:zV):Prop:=∃ pv,row=[.string x.name,i64 x.exp,pv,i64 x.result]/\aU w pv x.params
theorem rH.ext {w w':Ω} {row:List O} {x:zV} (h:rH w row x) (hx:aG w w'):rH w' row x:=by
 obtain ⟨pv,h1,h2⟩:=h;exact ⟨pv,h1,h2.ext hx⟩
def oV (w:Ω) (v:O) (l:List gU):Prop:=dS jO 4 w v l
def oW (w:Ω) (v:O) (l:List zV):Prop:=dS rH 4 w v l
theorem oV.ext {w':Ω} {v:O} {l:List gU} (h:oV w v l) (hx:aG w w'):oV w' v l:=dS.ext (λh k=>h.ext k) h hx
theorem oW.ext {w':Ω} {v:O} {l:List zV} (h:oW w v l) (hx:aG w w'):oW w' v l:=dS.ext (λh k=>h.ext k) h hx
structure bP where
 fv:O
 iv:O
 mv:O
 xv:O
structure iG (w:Ω) (p:bP) (i:bF):Prop where
 fl:aU w p.fv i.fields
 im:oW w p.iv i.imports
 mt:oV w p.mv i.methods
 ex:aU w p.xv i.exports
def bP.val (p:bP) (i:bF):O:=.agg #[.string i.name,p.fv,p.iv,p.mv,p.xv]
theorem iG.ext {w':Ω} {p:bP} {i:bF} (h:iG w p i) (hx:aG w w'):iG w' p i:=⟨h.fl.ext hx,h.im.ext hx,h.mt.ext hx,h.ex.ext hx⟩
theorem dS.sl {T:Ω->List O->α->Prop} {v:O} {l:List α} (h:dS T sz w v l):∃ cs,aB w v sz l.length cs:=⟨_,h.choose_spec.1⟩
theorem XB {T:Ω->List O->α->Prop} {t x:TypeId} {v:O} {l:List α} {e:α} (h:XA prog t sz) (ht:∃ d z by_,Program.underlying prog x=some d/\oC d=true/\cV prog x z sz by_) (hs:dS T sz w v l) (hi:l[i]?=some e) (hT:∀ w row e,T w row e->row.length=sz)
  (hk:∀ row,T w row e->K (.agg row.toArray) w):V prog (Instr.indexAt t v (i64 i)) w λp w1=>V prog (Instr.loadAt x p) w1 K:=by
 obtain ⟨cs,h1,h2⟩:=hs;obtain ⟨row,h3,h4⟩:=h2 i e hi;have hlt:i < l.length:=(List.getElem?_eq_some_iff.1 hi).1;exact aMn h ht h1 (by omega) (by omega) (by simpa using h3) (hT _ _ _ h4) (hk row h4)
theorem tD (w:Ω) (row:List O) (m:gU) (h:jO w row m):row.length=4:=by obtain ⟨_,_,_,rfl,_⟩:=h;rfl
theorem EJ (w:Ω) (row:List O) (m:zV) (h:rH w row m):row.length=4:=by obtain ⟨_,rfl,_⟩:=h;rfl
theorem oG {T:Ω->List O->α->Prop} {t s f o ft:Nat} {v:O} {l:List α} {e:α} (h:XA prog t sz) (hf:FA prog s f o) (hl:L1 prog ft) (hs:dS T sz w v l) (hi:l[i]?=some e)
  (hk:∀ row,T w row e->∃ u,row[o]?=some u/\o < sz/\K u w):V prog (Instr.indexAt t v (i64 i)) w λp w1=>V prog (Instr.fieldAt s p f) w1 λq w2=>V prog (Instr.loadAt ft q) w2 K:=by
 obtain ⟨cs,h1,h2⟩:=hs;obtain ⟨row,h3,h4⟩:=h2 i e hi;have hlt:i < l.length:=(List.getElem?_eq_some_iff.1 hi).1;obtain ⟨u,hu,ho,hK⟩:=hk row h4;refine aMm h hf hl h1 (by omega) (by omega) ?_ hK;rw [<- h3,List.getElem?_take,if_pos ho,List.getElem?_drop] at hu;simpa using hu
theorem wQ {T:Ω->List O->α->Prop} {t ty:Nat} {v:O} {l:List α} (h:XA prog t sz) (hs:dS T sz w v l) (hk:K (i64 l.length) w):V prog (Builtin.len_ #[t] ty #[v]) w K:=by
 obtain ⟨cs,h1,_⟩:=hs;exact gG h h1 hk
theorem ldI {v:O} {l:List gP} (hs:pM w v l) (hi:l[i]?=some x) (hk:K (.agg #[i64 x.op,i64 x.a,i64 x.b]) w):V prog (Instr.indexAt 71 v (i64 i)) w λp w1=>V prog (Instr.loadAt 70 p) w1 K:=by
 have hlt:i < l.length:=(List.getElem?_eq_some_iff.1 hi).1;exact aMn lL pR hs (by omega) (by omega) (l:=[i64 x.op,i64 x.a,i64 x.b]) (by simpa using pI hi) rfl hk
def nmL:List O:=[.string { data:=#[] },.string { data:=#[112,117,115,104] },.string { data:=#[108,111,97,100] },.string { data:=#[115,116,111,114,101] },.string { data:=#[112,111,112] },.string { data:=#[100,117,112] },.string { data:=#[97,100,100] },.string { data:=#[115,117,98] },.string { data:=#[109,117,108] },.string { data:=#[97,110,100] },.string { data:=#[111,114] },.string { data:=#[120,111,114] },.string { data:=#[115,104,108] },.string { data:=#[115,104,114] },.string { data:=#[115,97,114] },.string { data:=#[110,101,103] },.string { data:=#[110,111,116] },.string { data:=#[100,105,118] },.string { data:=#[114,101,109] },.string { data:=#[101,113] },.string { data:=#[108,116] },.string { data:=#[98,101,108,111,119] },.string { data:=#[112,105,99,107] },.string { data:=#[106,117,109,112] },.string { data:=#[106,117,109,112,105,102] },.string { data:=#[110,117,108,108] },.string { data:=#[105,115,110,117,108,108] },.string { data:=#[110,101,119] },.string { data:=#[108,101,110] },.string { data:=#[103,101,116] },.string { data:=#[112,117,116] },.string { data:=#[99,111,112,121] },.string { data:=#[115,97,109,101] },.string { data:=#[103,101,116,102] },.string { data:=#[112,117,116,102] },.string { data:=#[98,117,102] },.string { data:=#[115,101,110,100] },.string { data:=#[99,97,108,108] },.string { data:=#[99,97,108,108,120] },.string { data:=#[114,101,116] }]
theorem ZU (h:∀ v w',aB w' v 1 40 nmL->aG w w'->K v w'):aC prog 196 #[] w K:=by
 apply aGr;unfold JK;exact mF aKq nmL (by kernel_rfl) (by kernel_rfl) (by decide) (by kernel_rfl) λv w' ho hx=>h v w' (aB.of_own ho) hx
theorem aSx {op:Nat} (h1:1<=op) (h2:op<=39):∃ s:ByteArray,nmL[op]?=some (.string s)/\(s.toList == ({ data:=#[] }:ByteArray).toList)=false:=by
 have:∀ k:Fin 40,k.val=0\/(match nmL[k.val]? with|some (.string s)=>s.toList == ({ data:=#[] }:ByteArray).toList|_=>true)=false:=by decide +kernel
 rcases this ⟨op,by omega⟩ with h|h
 ·simp only at h;omega
 ·simp only at h;split at h
  ·rename_i s hs;exact ⟨s,hs,h⟩
  ·cases h
theorem aMl (h:∀ (s:ByteArray) w',((s.toList == ({ data:=#[] }:ByteArray).toList)=decide (¬ (1<=op/\op<=39)))->aG w w'->K (.string s) w'):aC prog 143 #[i64 op] w K:=by
 apply aIf;unfold KX;refine ZU λv w1 hs x1=>?_;refine aV.2 ?_;by_cases h1:op < 1
 ·simp only [h1,aY];exact h _ _ (by simp;omega) x1
 ·simp only [h1,aY];refine gG XN hs ?_;refine kU.2 ?_;by_cases h2:op>=((40:Nat):Int)
  ·simp only [h2,aY];exact h _ _ (by simp;omega) x1
  ·simp only [h2,aY];obtain ⟨k,rfl⟩:∃ k:Nat,op=k:=⟨op.toNat,by omega⟩;obtain ⟨s,hs1,hs2⟩:=aSx (op:=k) (by omega) (by omega);refine nO XN NK hs (by omega) (by omega) (by simpa using hs1) (h _ _ ?_ x1);rw [hs2];simp;omega
theorem aEg {lv:O} {l:List Int} {most:Int} (hs:aU w lv l) (h:∀ b,(b=true↔pV l most)->K (.bool b) w):aC prog 110 #[lv,i64 most] w K:=by
 apply aJb;unfold LS;refine ⟨λv w'=>∃ j:Nat,v=i64 j/\j<=l.length/\w'=w/\nI (l.take j),λv _=>l.length - (RowKit.intOf v).toNat,⟨0,rfl,Nat.zero_le _,rfl,λ_ h=>by simp at h⟩,?_⟩;rintro _ _ ⟨j,rfl,hj,rfl,hk⟩ _;have hno:∀ {k:Int},l[j]?=some k->¬ Kd k->K (.bool false) _:=λhk hn=>h false ⟨λh=>(by cases h),λhr=>absurd (hr.1 _ (List.mem_of_getElem? hk)) hn⟩
 have hcap:l.length<=maxLen:=by
  rcases hs.2 with ⟨_,h0⟩|⟨_,_,_,_,h1,h2,_⟩
  ·rw [h0];exact Nat.zero_le _
  ·omega
 refine gG aM hs (aV.2 (aK (λhlt=>?_) λhge=>?_))
 ·have hj':j < l.length:=by omega
  obtain ⟨k,hk1⟩:=bH hj';refine nO aM aL hs (by omega) (by omega) (fQ hk1) (aV.2 ?_);by_cases h1:k < 1
  ·simp only [h1,aY];exact hno hk1 λh=>by unfold Kd at h;omega
  ·simp only [h1,aY];refine nO aM aL hs (by omega) (by omega) (fQ hk1) (dR.2 ?_);by_cases h2:k > 4
   ·simp only [h2,aY];exact hno hk1 λh=>by unfold Kd at h;omega
   ·simp only [h2,aY];refine bW.2 ?_;rw [jD (by omega) (by unfold maxLen at hcap;omega),dF];refine ⟨⟨j+1,rfl,by omega,rfl,λq hq=>?_⟩,by simp only [aT];omega⟩;rw [List.take_add_one,hk1] at hq;rcases List.mem_append.1 hq with hq|hq
    ·exact hk q hq
    ·simp at hq;subst hq;exact ⟨by omega,by omega⟩
 ·have hjl:j=l.length:=by omega
  subst hjl;rw [List.take_length] at hk;refine gG aM hs (SD.2 ?_);exact h _ (by simp [pV,hk])
theorem aDh (h:∀ b w',(b=true↔x.right)->aG w w'->K (.bool b) w'):aC prog 111 #[.agg #[i64 x.op,i64 x.a,i64 x.b]] w K:=by
 obtain ⟨op,a,b⟩:=x;apply aJa;unfold LR;refine bx λb1 w1 hb x1=>?_;refine bA hb bK aL rfl ?_;refine aMl λs w2 hs x2=>?_;have hb:=hb.ext x2;have xx:=x1.trans x2;refine V.ok sZ ?_;rw [hs];have no:∀ {w'},aG w w'->¬ gP.right ⟨op,a,b⟩->K (.bool false) w':=λhx hn=>h false _ ⟨λh=>(by cases h),λhr=>absurd hr hn⟩ hx;by_cases ho:1<=op/\op<=39
 ·simp only [ho,and_self,aY,Int.reduceNeg];refine bA hb bK aL rfl (aS.2 ?_);by_cases h27:op=27
  ·subst h27;simp only [aY,Int.reduceNeg];refine bA hb bK aL rfl ?_;refine QV ho ?_;simp only [HE,aY,Int.reduceEq,Int.reduceNeg];refine bA hb bK aL rfl ?_;simp only [aY,Int.reduceEq,Int.reduceNeg];refine bA hb aW aL rfl ?_;refine uT ?_;by_cases ha:(3:Int)<=a/\a<=4
   ·simp only [ha,and_self,aY];refine bA hb oR aL rfl ?_;refine uT ?_;by_cases hb1:(0:Int)<=b/\b<=2
    ·simp only [hb1,and_self,aY];exact h true _ ⟨λ_=>⟨ho,ha.1,ha.2,.inl hb1⟩,λ_=>rfl⟩ xx
    ·simp only [hb1,aY];refine bA hb oR aL rfl ?_;refine uT ?_;refine h _ _ ⟨λhd=>⟨ho,ha.1,ha.2,.inr (of_decide_eq_true hd)⟩,λhr=>decide_eq_true (hr.2.2.2.resolve_left hb1)⟩ xx
   ·simp only [ha,aY];exact no xx λhr=>ha ⟨hr.2.1,hr.2.2.1⟩
  ·simp only [h27,aY,Int.reduceNeg];refine bA hb oR aL rfl (aS.2 ?_)
   have hbr:gP.right ⟨op,a,b⟩->b=0:=λhr=>by
    have:=hr.2.2.2;dsimp only at this
    rwa [if_neg h27] at this
   by_cases hb0:b=0
   ·subst hb0;simp only [aY,Int.reduceNeg];refine bA hb bK aL rfl ?_;refine QV ho (aF.2 ?_)
    have fin:∀ {lo hi:Int} {w'},lim op=(lo,hi)->aG w w'->K (.bool (decide (lo<=a/\a<=hi))) w':=λ{lo hi w'} hl hx=>by
     refine h _ _ ⟨λhd=>?_,λhr=>?_⟩ hx
     ·have:=of_decide_eq_true hd;refine ⟨ho,?_,?_,?_⟩
      ·rw [hl];exact this.1
      ·rw [hl];exact this.2
      ·dsimp only;rw [if_neg h27]
     ·have h1:=hr.2.1;have h2:=hr.2.2.1;rw [hl] at h1 h2;exact decide_eq_true ⟨h1,h2⟩
    by_cases hop:op=1\/op=2\/op=3\/op=23\/op=24\/op=25\/op=33\/op=34\/op=35\/op=36\/op=37\/op=38
    ·rcases hop with rfl|rfl|rfl|rfl|rfl|rfl|rfl|rfl|rfl|rfl|rfl|rfl <;>
      (simp only [HE,Int.reduceEq,or_self,or_true,or_false,aY,Int.reduceEq,Int.reduceNeg]
       refine bA hb (by first|exact cZ|exact eB|exact cA|exact eA|exact eQ|exact cS|exact fH|exact cI|exact gA|exact eP|exact cY|exact dZ|exact dI|exact fG|exact fD|exact dY|exact bL|exact bY|exact cH|exact cQ|exact fZ|exact fY|exact bJ|exact cP|exact cO|exact fX|exact fW|exact cG|exact dX|exact cF|exact eO|exact cD|exact fV|exact bV|exact eM|exact cN|exact cM|exact cX|exact fU|exact dH|exact bS|exact eJ|exact gN|exact eG|exact gM|exact iX|exact dG|exact gL|exact iW|exact dP|exact dO|exact dW|exact kD|exact jN|exact iV|exact jM|exact bR|exact lC|exact lB|exact lK|exact jH|exact dC|exact bN|exact iI|exact jG|exact eU|exact jF|exact lJ|exact kT|exact lI|exact bK) (by first|exact fA|exact gJ|exact kI|exact eE|exact jJ|exact dE|exact dA|exact cE|exact fS|exact iK|exact gI|exact kR|exact aL) rfl ?_;simp only [aY,Int.reduceEq,Int.reduceNeg];refine bA hb (by first|exact cZ|exact eB|exact cA|exact eA|exact eQ|exact cS|exact fH|exact cI|exact gA|exact eP|exact cY|exact dZ|exact dI|exact fG|exact fD|exact dY|exact bL|exact bY|exact cH|exact cQ|exact fZ|exact fY|exact bJ|exact cP|exact cO|exact fX|exact fW|exact cG|exact dX|exact cF|exact eO|exact cD|exact fV|exact bV|exact eM|exact cN|exact cM|exact cX|exact fU|exact dH|exact bS|exact eJ|exact gN|exact eG|exact gM|exact iX|exact dG|exact gL|exact iW|exact dP|exact dO|exact dW|exact kD|exact jN|exact iV|exact jM|exact bR|exact lC|exact lB|exact lK|exact jH|exact dC|exact bN|exact iI|exact jG|exact eU|exact jF|exact lJ|exact kT|exact lI|exact bK|exact aW) (by first|exact fA|exact gJ|exact kI|exact eE|exact jJ|exact dE|exact dA|exact cE|exact fS|exact iK|exact gI|exact kR|exact aL) rfl ?_
       exact uT (fin rfl xx))
    ·simp only [not_or] at hop;obtain ⟨n1,n2,n3,n4,n5,n6,n7,n8,n9,n10,n11,n12⟩:=hop;have e0:HE op=0:=by unfold HE;simp [*]
     have el:lim op=(0,0):=by unfold lim;simp [*]
     simp only [e0,aY,Int.reduceNeg];refine bA hb aW aL rfl (aS.2 ?_);by_cases ha:a=0
     ·subst ha;simp only [aY,Int.reduceNeg];refine bA hb bK aL rfl ?_;simp only [n1,n2,n3,n4,n5,n6,n7,n8,n9,n10,n11,n12,h27,aY,Int.reduceNeg];have:=fin el xx;simpa using this
     ·simp only [ha,aY,Int.reduceNeg];refine no xx λhr=>ha ?_;have h1:=hr.2.1;have h2:=hr.2.2.1;rw [el] at h1 h2;dsimp only at h1 h2;omega
   ·simp only [hb0,aY,Int.reduceNeg];exact no xx λhr=>hb0 (hbr hr)
 ·simp only [ho,aY,Int.reduceNeg];exact no xx λhr=>ho hr.1
def mU (φ:Prop) (w:Ω) (v:O) (w':Ω):Prop:=∃ b,v=.bool b/\(b=true↔φ)/\aG w w'
theorem mU.yes (h:φ) (hx:aG w w'):mU φ w (.bool true) w':=⟨true,rfl,⟨λ_=>h,λ_=>rfl⟩,hx⟩
theorem mU.no (h:¬ φ) (hx:aG w w'):mU φ w (.bool false) w':=⟨false,rfl,⟨λe=>(by cases e),λe=>absurd e h⟩,hx⟩
def aYb (_:Ω) (row:List O) (x:gP):Prop:=row=[i64 x.op,i64 x.a,i64 x.b]
theorem HR {v:O} {l:List Int} (hs:aU w v l):l.length<=maxLen:=by
 rcases hs.2 with ⟨_,h0⟩|⟨_,_,_,_,h1,h2,_⟩
 ·rw [h0];exact Nat.zero_le _
 ·omega
end Go.Proofs.YtgkkecladbmjkaaGreatDoor
namespace Go.Tc
def gP.rg (x:gP):Prop:=-9223372036854775808<=x.b/\x.b<=9223372036854775807
def bF.rg (i:bF):Prop:=∀ m∈i.methods,∀ x∈m.code,x.rg
end Go.Tc
namespace Go.Proofs.YtgkkecladbmjkaaGreatDoor
open Tryz
open Go.Vc Go.Tc
variable {w:Ω} {K:O->Ω->Prop}
variable {P:Program} {a op:Int} {w':Ω} {i:bF} {p:bP} {m:gU} {row:List O} {x:gP}
theorem ZC {t:TypeId} {k:IntKind} {b:Int}:(binOp .andNot t (.int k a) (.int k b)).run P w=.ok (.int k (k.wrap (BitVec.ofInt k.bits a &&& ~~~ BitVec.ofInt k.bits b).toNat)) w:=by simp [binOp,Op.intBits]
def uO (w0:Ω) (nm:ByteArray):Prop:=∀ w,aG w0 w->aC prog 109 #[.string nm] w (mU True w)/\aC prog 224 #[.string nm] w (mU True w)/\nm.size<=16
def mO (w0:Ω) (i:bF):Prop:=uO w0 i.name/\∀ x∈i.imports,uO w0 x.name
theorem uO.ext {nm:ByteArray} (h:uO w nm) (hx:aG w w'):uO w' nm:=λw2 hx2=>h w2 (hx.trans hx2)
theorem mO.ext {w w':Ω} {i:bF} (h:mO w i) (hx:aG w w'):mO w' i:=⟨h.1.ext hx,λx hm=>(h.2 x hm).ext hx⟩
theorem mU.T {v:O} (h:mU True w v w'):v=.bool true/\aG w w':=by
 obtain ⟨b,hv,hb,x⟩:=h;rw [hb.2 trivial] at hv;exact ⟨hv,x⟩
theorem aSl (h:1<=i.methods.length):i.methods[0]?=some (i.meth 0):=by
 unfold bF.meth;rw [Int.toNat_zero,List.getD_eq_getElem?_getD,List.getElem?_eq_getElem (by omega)];rfl
theorem K53 {lv:O} {l:List Int} {most:Int} (hs:aU w lv l) (hk:∀ b,(b=true↔pV l most)->K (.bool b) w):aC prog 110 #[lv,i64 most] w K:=aEg hs hk
theorem aDi (h:iG w p i) (hn:mO w i):aC prog 71 #[p.val i] w (mU i.right w):=by
 apply aPr;suffices key:∀ R:O->Ω->Prop,(∀ v w',mU i.right w v w'->R v w')->FC (p.val i) w R from key _ λ_ _ h=>h;intro R hR;unfold FC bP.val;refine bx λb1 w1 hb x1=>?_;refine bA hb lK NK rfl ?_;refine (hn.1 w1 x1).1.mono λv w2 hv=>?_;obtain ⟨rfl,x2⟩:=hv.T;have hb:=hb.ext x2;have xx:=x1.trans x2;simp only [aY];have no:∀ {w'},aG w2 w'->¬ i.right->R (.bool false) w':=λhx hn=>hR _ _ (mU.no hn (xx.trans hx));refine bA hb jH aZ rfl (K53 (h.ext xx).fl λb hk1=>?_);cases b with
 | false=>simp only [aY];exact no (aG.refl _) λh=>by have:=hk1.2 h.1;cases this
 | true=>
 simp only [aY];refine bA hb dC lA rfl (wQ mG (h.ext xx).im (dR.2 ?_));by_cases h2:(i.imports.length:Int) > 4
 ·simp only [h2,aY];exact no (aG.refl _) λh=>by have:=h.2.1.1;omega
 simp only [h2,aY];refine bA hb bN gR rfl (wQ iJ (h.ext xx).mt (aV.2 ?_));by_cases h4:(i.methods.length:Int) < 1
 ·simp only [h4,aY];exact no (aG.refl _) λh=>by have:=h.2.2.1.1.1;omega
 simp only [h4,aY];refine bA hb bN gR rfl (wQ iJ (h.ext xx).mt (dR.2 ?_));by_cases h5:(i.methods.length:Int) > 8
 ·simp only [h5,aY];exact no (aG.refl _) λh=>by have:=h.2.2.1.1.2;omega
 simp only [h5,aY];refine bA hb iI aZ rfl (gG aM (h.ext xx).ex (dR.2 ?_));by_cases h9:(i.exports.length:Int) > 4
 ·simp only [h9,aY];exact no (aG.refl _) λh=>by have:=h.2.2.2.1;omega
 simp only [h9,aY];have hw2:=h.ext xx;refine ⟨λv w'=>∃ j:Nat,v=i64 j/\j<=i.imports.length/\aG w2 w'/\∀ x∈i.imports.take j,x.right,λv _=>i.imports.length - (RowKit.intOf v).toNat,⟨0,rfl,Nat.zero_le _,aG.refl _,λ_ h=>by simp at h⟩,?_⟩;rintro _ w3 ⟨j,rfl,hj,x3,hall⟩ _;refine bA (hb.ext x3) dC lA rfl (wQ mG (hw2.ext x3).im (aV.2 (aK (λhlt=>?_) λhge=>?_)))
 ·obtain ⟨x,hx⟩:=bH (l:=i.imports) (j:=j) (by omega);have hxm:x∈i.imports:=List.mem_of_getElem? hx;refine bA (hb.ext x3) dC lA rfl ?_;refine XB mG EF (hw2.ext x3).im hx EJ λrow hrow=>?_;obtain ⟨pv,rfl,hp⟩:=hrow;obtain ⟨pa,pc,rfl⟩:=hp.shape;refine asB MV rfl rfl λb2 w4 hb2 x4=>?_;refine bA hb2 eM NK rfl ?_;refine (hn.2 x hxm w4 ((xx.trans x3).trans x4)).1.mono λv w5 hv=>?_;obtain ⟨rfl,x5⟩:=hv.T;have hb2:=hb2.ext x5;have x35:=(x3.trans x4).trans x5;simp only [aY];have noI:¬ x.right->R (.bool false) w5:=λhn=>no x35 λh=>hn (h.2.1.2 x hxm);refine bA hb2 cN aL rfl (aV.2 ?_);by_cases g1:x.exp < 0
  ·simp only [g1,aY];exact noI λh=>by have:=h.1.1;omega
  simp only [g1,aY];refine bA hb2 cN aL rfl (kU.2 ?_);by_cases g2:x.exp>=4
  ·simp only [g2,aY];exact noI λh=>by have:=h.1.2;omega
  simp only [g2,aY];refine bA hb2 cM aZ rfl (K53 (hp.ext (x4.trans x5)) λb hk3=>?_);cases b with
  | false=>simp only [aY];exact noI λh=>by have:=hk3.2 h.2.1;cases this
  | true=>
  simp only [aY];refine bA hb2 cX aL rfl (aV.2 ?_);by_cases g3:x.result < 0
  ·simp only [g3,aY];exact noI λh=>by have:=h.2.2.1;omega
  simp only [g3,aY];refine bA hb2 cX aL rfl (dR.2 ?_);by_cases g4:x.result > 4
  ·simp only [g4,aY];exact noI λh=>by have:=h.2.2.2;omega
  simp only [g4,aY];refine mH (by omega) ?_;refine ⟨⟨j+1,rfl,by omega,x35,λy hy=>?_⟩,by simp only [aT];omega⟩;rw [List.take_add_one,hx] at hy;rcases List.mem_append.1 hy with hy|hy
  ·exact hall y hy
  ·simp at hy;subst hy;exact ⟨⟨by omega,by omega⟩,hk3.1 rfl,by omega,by omega⟩
 have hjl:j=i.imports.length:=by omega
 subst hjl;rw [List.take_length] at hall;refine ⟨λv w'=>∃ j:Nat,v=i64 j/\j<=i.methods.length/\aG w2 w'/\∀ x∈i.methods.take j,x.right,λv _=>i.methods.length - (RowKit.intOf v).toNat,⟨0,rfl,Nat.zero_le _,x3,λ_ h=>by simp at h⟩,?_⟩;rintro _ w4 ⟨j,rfl,hj,x4,hallm⟩ _;refine bA (hb.ext x4) bN gR rfl (wQ iJ (hw2.ext x4).mt (aV.2 (aK (λhlt=>?_) λhge=>?_)))
 ·obtain ⟨m,hm⟩:=bH (l:=i.methods) (j:=j) (by omega);have hmm:m∈i.methods:=List.mem_of_getElem? hm;refine bA (hb.ext x4) bN gR rfl ?_;refine XB iJ oK (hw2.ext x4).mt hm tD λrow hrow=>?_;obtain ⟨pv,lv,cv,rfl,hp,hl,hc⟩:=hrow;obtain ⟨pa,pc,rfl⟩:=hp.shape;obtain ⟨la,lc,rfl⟩:=hl.shape;obtain ⟨ca,cc,rfl⟩:=aB.shape hc;refine asB BK rfl rfl λb2 w5 hb2 x5=>?_;have x45:=x4.trans x5;have noM:∀ {w'},aG w5 w'->¬ m.right->R (.bool false) w':=λhx hn=>no (x45.trans hx) λh=>hn (h.2.2.1.2.1 m hmm);refine bA hb2 fB aZ rfl (K53 (hp.ext x5) λb hk3=>?_);cases b with
  | false=>simp only [aY];exact noM (aG.refl _) λh=>by have:=hk3.2 h.1;cases this
  | true=>
  simp only [aY];refine bA hb2 jE aL rfl (aV.2 ?_);by_cases g3:m.result < 0
  ·simp only [g3,aY];exact noM (aG.refl _) λh=>by have:=h.2.1.1;omega
  simp only [g3,aY];refine bA hb2 jE aL rfl (dR.2 ?_);by_cases g4:m.result > 4
  ·simp only [g4,aY];exact noM (aG.refl _) λh=>by have:=h.2.1.2;omega
  simp only [g4,aY];have cp:=HR hp;refine bA hb2 oQ aZ rfl ?_;refine bA hb2 fB aZ rfl (gG aM (hp.ext x5) (jV.2 ?_));rw [jD (by unfold maxLen at cp;omega) (by omega)];refine K53 (hl.ext x5) λb hk5=>?_;cases b with
  | false=>simp only [aY];exact noM (aG.refl _) λh=>by have:=hk5.2 h.2.2.1;cases this
  | true=>
  simp only [aY];refine bA hb2 iH iF rfl (gG lL (hc.ext x5) (aV.2 ?_));by_cases g6:(m.code.length:Int) < 1
  ·simp only [g6,aY];exact noM (aG.refl _) λh=>by have:=h.2.2.2.1.1;omega
  simp only [g6,aY];refine bA hb2 iH iF rfl (gG lL (hc.ext x5) (dR.2 ?_));by_cases g7:(m.code.length:Int) > 120
  ·simp only [g7,aY];exact noM (aG.refl _) λh=>by have:=h.2.2.2.1.2;omega
  simp only [g7,aY];refine ⟨λv w'=>∃ q:Nat,v=i64 q/\q<=m.code.length/\aG w5 w'/\∀ x∈m.code.take q,x.right,λv _=>m.code.length - (RowKit.intOf v).toNat,⟨0,rfl,Nat.zero_le _,aG.refl _,λ_ h=>by simp at h⟩,?_⟩;rintro _ w6 ⟨q,rfl,hq,x6,hallc⟩ _;have hc6:=(hc.ext x5).ext x6;refine bA (hb2.ext x6) iH iF rfl (gG lL hc6 (aV.2 (aK (λhlt2=>?_) λhge2=>?_)))
  ·obtain ⟨x,hx⟩:=bH (l:=m.code) (j:=q) (by omega);have hxm:x∈m.code:=List.mem_of_getElem? hx;refine bA (hb2.ext x6) iH iF rfl (ldI hc6 hx ?_);refine aDh λb w7 hbr x7=>?_;cases b with
   | false=>simp only [aY];exact noM (x6.trans x7) λh=>by have:=hbr.2 (h.2.2.2.2 x hxm);cases this
   | true=>
   simp only [aY];refine mH (by omega) ?_;refine ⟨⟨q+1,rfl,by omega,x6.trans x7,λy hy=>?_⟩,by simp only [aT];omega⟩;rw [List.take_add_one,hx] at hy;rcases List.mem_append.1 hy with hy|hy
   ·exact hallc y hy
   ·simp at hy;subst hy;exact hbr.1 rfl
  ·have hql:q=m.code.length:=by omega
   subst hql;rw [List.take_length] at hallc;refine mH (by omega) ?_;refine ⟨⟨j+1,rfl,by omega,x45.trans x6,λy hy=>?_⟩,by simp only [aT];omega⟩;rw [List.take_add_one,hm] at hy;rcases List.mem_append.1 hy with hy|hy
   ·exact hallm y hy
   ·simp at hy;subst hy;exact ⟨hk3.1 rfl,⟨by omega,by omega⟩,hk5.1 rfl,⟨by omega,by omega⟩,hallc⟩
 have hjl:j=i.methods.length:=by omega
 subst hjl;rw [List.take_length] at hallm;refine ⟨λv w'=>∃ j:Nat,v=i64 j/\j<=i.exports.length/\aG w2 w'/\∀ x∈i.exports.take j,0<=x/\x < (i.methods.length:Int),λv _=>i.exports.length - (RowKit.intOf v).toNat,⟨0,rfl,Nat.zero_le _,x4,λ_ h=>by simp at h⟩,?_⟩;rintro _ w5 ⟨j,rfl,hj,x5,halle⟩ _;have h5':=hw2.ext x5;refine bA (hb.ext x5) iI aZ rfl (gG aM h5'.ex (aV.2 (aK (λhlt=>?_) λhge=>?_)))
 ·obtain ⟨x,hx⟩:=bH (l:=i.exports) (j:=j) (by omega);have hxm:x∈i.exports:=List.mem_of_getElem? hx;have D1:aG w5 w5.drew:=(aG.refl _).drew;have hbS:∀ w',aG w5 w'->gD w' b1 _:=λw' hx=>(hb.ext x5).ext hx;obtain ⟨mcs,hms⟩:=h5'.mt.sl;refine aH.mk' (λw'=>aG w5 w') D1 ?_;refine dT hbS iI aZ rfl ?_;refine gF aM aL h5'.ex (λ_ h=>h) (by omega) (by omega) (fQ hx) (aUm ?_);by_cases g1:x < 0
  ·simp only [g1,aY];exact no (x5.trans D1) λh=>by have:=(h.2.2.2.2 x hxm).1;omega
  simp only [g1,aY];refine dT hbS iI aZ rfl ?_;refine gF aM aL h5'.ex (λ_ h=>h) (by omega) (by omega) (fQ hx) ?_;refine dT hbS bN gR rfl (tW iJ hms (aUn ?_));by_cases g2:x>=((i.methods.length:Nat):Int)
  ·simp only [g2,aY];exact no (x5.trans D1) λh=>by have:=(h.2.2.2.2 x hxm).2;omega
  simp only [g2,aY];refine mH (by omega) ?_;refine ⟨⟨j+1,rfl,by omega,x5.trans D1,λy hy=>?_⟩,by simp only [aT];omega⟩;rw [List.take_add_one,hx] at hy;rcases List.mem_append.1 hy with hy|hy
  ·exact halle y hy
  ·simp at hy;subst hy;exact ⟨by omega,by omega⟩
 have hjl:j=i.exports.length:=by omega
 subst hjl;rw [List.take_length] at halle;have h0:=aSl (i:=i) (by omega);have fin:∀ b,(b=true↔(i.meth 0).params=[]/\(i.meth 0).result=0)->R (.bool b) w5:=λb hbb=>hR _ _ ⟨b,rfl,hbb.trans ⟨λhh=>⟨hk1.1 rfl,⟨by omega,hall⟩,⟨⟨by omega,by omega⟩,hallm,hh.1,hh.2⟩,by omega,halle⟩,λhh=>hh.2.2.1.2.2⟩,xx.trans x5⟩;refine bA (hb.ext x5) bN gR rfl ?_;refine oG (i:=0) iJ fB aZ h5'.mt h0 λrow hrow=>?_;obtain ⟨pv,lv,cv,rfl,hp,_,_⟩:=hrow;refine ⟨pv,rfl,by decide,gG aM hp (aF.2 ?_)⟩;by_cases h7:(((i.meth 0).params.length:Nat):Int)=0
 case neg=>
  simp only [h7,aY];exact fin _ ⟨λh=>(by cases h),λh=>by rw [h.1] at h7;simp at h7⟩
 simp only [h7,aY];refine bA (hb.ext x5) bN gR rfl ?_;refine oG (i:=0) iJ jE aL h5'.mt h0 λrow hrow=>?_;obtain ⟨pv,lv,cv,rfl,_,_,_⟩:=hrow;refine ⟨i64 (i.meth 0).result,rfl,by decide,aF.2 ?_⟩;exact fin _ (decide_eq_true_iff.trans ⟨λh=>⟨List.eq_nil_of_length_eq_zero (by omega),h⟩,λh=>h.2⟩)
theorem eF {l:List Int} {a:Nat} (h:a < l.length):l[a]?=some (l.getD a 0):=by
 rw [List.getD_eq_getElem?_getD,List.getElem?_eq_getElem h];rfl
theorem ZZ {a:Nat}:m.locs.getD a 0=if a < m.params.length then m.params.getD a 0 else m.locals.getD (a - m.params.length) 0:=by
 unfold gU.locs;simp only [List.getD_eq_getElem?_getD,List.getElem?_append];split<;>rfl
theorem EE (hm:jO w row m) (hr:m.right) (h0:0<=a) (hk:∀ w',aG w w'->K (.tuple #[i64 (m.locs.getD a.toNat 0),.bool (decide (a < (m.locs.length:Int)))]) w') :
  aC prog 146 #[.agg row.toArray,i64 a] w K:=by
 obtain ⟨pv,lv,cv,rfl,hp,hl,hc⟩:=hm;obtain ⟨k,rfl⟩:∃ k:Nat,a=k:=⟨a.toNat,by omega⟩;have c1:=hr.1.2;have c2:=hr.2.2.1.2;have hlen:m.locs.length=m.params.length+m.locals.length:=by simp [gU.locs]
 apply aIc;unfold KU;refine bx λb1 w1 hb x1=>?_;have hk:=hk _ x1;rw [ZZ] at hk;simp only [Int.toNat_natCast,hlen] at hk;refine bA hb fB aZ rfl (gG aM (hp.ext x1) (aV.2 (aK (λhlt=>?_) λhge=>?_)))
 ·refine bA hb fB aZ rfl ?_;refine nO aM aL (hp.ext x1) (by omega) (by omega) (fQ (eF (by omega))) ?_;rw [if_pos (by omega),decide_eq_true (by omega)] at hk;exact hk
 ·rw [if_neg (by omega)] at hk;refine bA hb fB aZ rfl (gG aM (hp.ext x1) ?_);refine bA hb oQ aZ rfl (gG aM (hl.ext x1) (bW.2 ?_));rw [aX (by omega)];refine aV.2 (aK (λhlt2=>?_) λhge2=>?_)
  ·refine bA hb oQ aZ rfl ?_;refine bA hb fB aZ rfl (gG aM (hp.ext x1) (jV.2 ?_));rw [aX (by omega),show (k:Int) - (m.params.length:Int)=((k - m.params.length:Nat):Int) by omega];refine nO aM aL (hl.ext x1) (by omega) (by omega) (fQ (eF (by omega))) ?_;rw [decide_eq_true (by omega)] at hk;exact hk
  ·rw [decide_eq_false (by omega)] at hk;have:m.locals.getD (k - m.params.length) 0=0:=by rw [List.getD_eq_getElem?_getD,List.getElem?_eq_none (by omega)];rfl
   rw [this] at hk;exact hk
theorem pF (h0:0<=a) (h:a < i.methods.length):i.methods[a.toNat]?=some (i.meth a):=by
 unfold bF.meth;rw [List.getD_eq_getElem?_getD,List.getElem?_eq_getElem (by omega)];rfl
theorem xI (h0:0<=a) (h:a < i.imports.length):i.imports[a.toNat]?=some (i.imp a):=by
 unfold bF.imp;rw [List.getD_eq_getElem?_getD,List.getElem?_eq_getElem (by omega)];rfl
theorem aEa (h:iG w p i) (hm:jO w row m) (hr:m.right) (hx:x.right) :
  aC prog 112 #[p.val i,.agg row.toArray,.agg #[i64 x.op,i64 x.a,i64 x.b]] w (mU (fP i m x) w):=by
 obtain ⟨op,a,b⟩:=x;obtain ⟨ho,a1,a2,_⟩:=hx;have hm0:=hm;obtain ⟨pv,lv,cv,rfl,hp,hl,hc⟩:=hm;apply aIz;suffices key:∀ R:O->Ω->Prop,(∀ v w',mU (fP i m ⟨op,a,b⟩) w v w'->R v w')->AL (p.val i) (.agg [pv,i64 m.result,lv,cv].toArray) (.agg #[i64 op,i64 a,i64 b]) w R from key _ λ_ _ h=>h;intro R hR;unfold AL bP.val;refine bx λb1 w1 hb1 x1=>?_;refine bx λb2 w2 hb2 x2=>?_;refine bx λb3 w3 hb3 x3=>?_;have hb1:=(hb1.ext x2).ext x3;have hb2:gD w3 b2 [pv,i64 m.result,lv,cv]:=hb2.ext x3;have xx:=(x1.trans x2).trans x3;have h':=h.ext xx;refine bA hb3 bK aL rfl ?_;by_cases c1:op=2\/op=3
 ·have hs:fP i m ⟨op,a,b⟩↔a < (m.locs.length:Int):=by unfold fP;dsimp only;rw [if_pos c1]
  have ha:0<=a:=by rcases c1 with rfl|rfl<;>exact a1
  rcases c1 with rfl|rfl
  all_goals
   simp only [aY,Int.reduceEq];refine qO hb2 oK rfl ?_;refine bA hb3 (by first|exact cZ|exact eB|exact cA|exact eA|exact eQ|exact cS|exact fH|exact cI|exact gA|exact eP|exact cY|exact dZ|exact dI|exact fG|exact fD|exact dY|exact bL|exact bY|exact cH|exact cQ|exact fZ|exact fY|exact bJ|exact cP|exact cO|exact fX|exact fW|exact cG|exact dX|exact cF|exact eO|exact cD|exact fV|exact bV|exact eM|exact cN|exact cM|exact cX|exact fU|exact dH|exact bS|exact eJ|exact gN|exact eG|exact gM|exact iX|exact dG|exact gL|exact iW|exact dP|exact dO|exact dW|exact kD|exact jN|exact iV|exact jM|exact bR|exact lC|exact lB|exact lK|exact jH|exact dC|exact bN|exact iI|exact jG|exact eU|exact jF|exact lJ|exact kT|exact lI|exact bK|exact aW) (by first|exact fA|exact gJ|exact kI|exact eE|exact jJ|exact dE|exact dA|exact cE|exact fS|exact iK|exact gI|exact kR|exact aL) rfl ?_
   refine EE (hm0.ext xx) hr ha λw4 x4=>?_;refine cL.2 (cK.2 ?_);exact hR _ _ ⟨_,rfl,decide_eq_true_iff.trans hs.symm,xx.trans x4⟩
 by_cases c2:op=33\/op=34
 ·have hs:fP i m ⟨op,a,b⟩↔a < (i.fields.length:Int):=by unfold fP;dsimp only;rw [if_neg c1,if_pos c2]
  rcases c2 with rfl|rfl
  all_goals
   simp only [aY,Int.reduceEq];refine bA hb3 (by first|exact cZ|exact eB|exact cA|exact eA|exact eQ|exact cS|exact fH|exact cI|exact gA|exact eP|exact cY|exact dZ|exact dI|exact fG|exact fD|exact dY|exact bL|exact bY|exact cH|exact cQ|exact fZ|exact fY|exact bJ|exact cP|exact cO|exact fX|exact fW|exact cG|exact dX|exact cF|exact eO|exact cD|exact fV|exact bV|exact eM|exact cN|exact cM|exact cX|exact fU|exact dH|exact bS|exact eJ|exact gN|exact eG|exact gM|exact iX|exact dG|exact gL|exact iW|exact dP|exact dO|exact dW|exact kD|exact jN|exact iV|exact jM|exact bR|exact lC|exact lB|exact lK|exact jH|exact dC|exact bN|exact iI|exact jG|exact eU|exact jF|exact lJ|exact kT|exact lI|exact bK|exact aW) (by first|exact fA|exact gJ|exact kI|exact eE|exact jJ|exact dE|exact dA|exact cE|exact fS|exact iK|exact gI|exact kR|exact aL) rfl ?_;refine bA hb1 (by first|exact cZ|exact eB|exact cA|exact eA|exact eQ|exact cS|exact fH|exact cI|exact gA|exact eP|exact cY|exact dZ|exact dI|exact fG|exact fD|exact dY|exact bL|exact bY|exact cH|exact cQ|exact fZ|exact fY|exact bJ|exact cP|exact cO|exact fX|exact fW|exact cG|exact dX|exact cF|exact eO|exact cD|exact fV|exact bV|exact eM|exact cN|exact cM|exact cX|exact fU|exact dH|exact bS|exact eJ|exact gN|exact eG|exact gM|exact iX|exact dG|exact gL|exact iW|exact dP|exact dO|exact dW|exact kD|exact jN|exact iV|exact jM|exact bR|exact lC|exact lB|exact lK|exact jH) (by first|exact fA|exact gJ|exact kI|exact eE|exact jJ|exact dE|exact dA|exact cE|exact fS|exact iK|exact gI|exact kR|exact aL|exact gX|exact oH|exact aZ) rfl (gG aM h'.fl (aV.2 ?_))
   exact hR _ _ ⟨_,rfl,decide_eq_true_iff.trans hs.symm,xx⟩
 by_cases c3:op=37
 ·have hs:fP i m ⟨op,a,b⟩↔a < (i.methods.length:Int):=by unfold fP;dsimp only;rw [if_neg c1,if_neg c2,if_pos c3]
  subst c3;simp only [aY,Int.reduceEq];refine bA hb3 aW aL rfl ?_;refine bA hb1 bN gR rfl (wQ iJ h'.mt (aV.2 ?_));exact hR _ _ ⟨_,rfl,decide_eq_true_iff.trans hs.symm,xx⟩
 by_cases c4:op=38
 ·have hs:fP i m ⟨op,a,b⟩↔a < (i.imports.length:Int):=by unfold fP;dsimp only;rw [if_neg c1,if_neg c2,if_neg c3,if_pos c4]
  subst c4;simp only [aY,Int.reduceEq];refine bA hb3 aW aL rfl ?_;refine bA hb1 dC lA rfl (wQ mG h'.im (aV.2 ?_));exact hR _ _ ⟨_,rfl,decide_eq_true_iff.trans hs.symm,xx⟩
 by_cases c5:op=23\/op=24
 ·have hs:fP i m ⟨op,a,b⟩↔a < (m.code.length:Int):=by unfold fP;dsimp only;rw [if_neg c1,if_neg c2,if_neg c3,if_neg c4,if_pos c5]
  rcases c5 with rfl|rfl
  all_goals
   simp only [aY,Int.reduceEq];refine bA hb3 (by first|exact cZ|exact eB|exact cA|exact eA|exact eQ|exact cS|exact fH|exact cI|exact gA|exact eP|exact cY|exact dZ|exact dI|exact fG|exact fD|exact dY|exact bL|exact bY|exact cH|exact cQ|exact fZ|exact fY|exact bJ|exact cP|exact cO|exact fX|exact fW|exact cG|exact dX|exact cF|exact eO|exact cD|exact fV|exact bV|exact eM|exact cN|exact cM|exact cX|exact fU|exact dH|exact bS|exact eJ|exact gN|exact eG|exact gM|exact iX|exact dG|exact gL|exact iW|exact dP|exact dO|exact dW|exact kD|exact jN|exact iV|exact jM|exact bR|exact lC|exact lB|exact lK|exact jH|exact dC|exact bN|exact iI|exact jG|exact eU|exact jF|exact lJ|exact kT|exact lI|exact bK|exact aW) (by first|exact fA|exact gJ|exact kI|exact eE|exact jJ|exact dE|exact dA|exact cE|exact fS|exact iK|exact gI|exact kR|exact aL) rfl ?_;refine bA hb2 (by first|exact cZ|exact eB|exact cA|exact eA|exact eQ|exact cS|exact fH|exact cI|exact gA|exact eP|exact cY|exact dZ|exact dI|exact fG|exact fD|exact dY|exact bL|exact bY|exact cH|exact cQ|exact fZ|exact fY|exact bJ|exact cP|exact cO|exact fX|exact fW|exact cG|exact dX|exact cF|exact eO|exact cD|exact fV|exact bV|exact eM|exact cN|exact cM|exact cX|exact fU|exact dH|exact bS|exact eJ|exact gN|exact eG|exact gM|exact iX|exact dG|exact gL|exact iW|exact dP|exact dO|exact dW|exact kD|exact jN|exact iV|exact jM|exact bR|exact lC|exact lB|exact lK|exact jH|exact dC|exact bN|exact iI|exact jG|exact eU|exact jF|exact lJ|exact kT|exact lI|exact bK|exact aW|exact oR|exact fB|exact jE|exact oQ|exact iH) (by first|exact fA|exact gJ|exact kI|exact eE|exact jJ|exact dE|exact dA|exact cE|exact fS|exact iK|exact gI|exact kR|exact aL|exact gX|exact oH|exact aZ|exact lA|exact gR|exact sH|exact vZ|exact qF|exact mS|exact tQ|exact iF) rfl (gG lL (hc.ext xx) (aV.2 ?_))
   exact hR _ _ ⟨_,rfl,decide_eq_true_iff.trans hs.symm,xx⟩
 ·have hs:fP i m ⟨op,a,b⟩:=by unfold fP;dsimp only;rw [if_neg c1,if_neg c2,if_neg c3,if_neg c4,if_neg c5];trivial
  simp only [not_or] at c1 c2 c5;simp only [c1.1,c1.2,c2.1,c2.2,c3,c4,c5.1,c5.2,aY];exact hR _ _ (mU.yes hs xx)
theorem UM {pc:Nat} (hp:pc<=1000) (hk:∀ v w',w'.ownsRow w.heap.size 3 1 v (iU x pc).length ((iU x pc).map i64)->aG w w'->K v w'):aC prog 114 #[.agg #[i64 x.op,i64 x.a,i64 x.b],i64 pc] w K:=by
 obtain ⟨op,a,b⟩:=x;apply aIx;unfold LP;refine bx λb1 w1 hb x1=>?_;refine bA hb bK aL rfl (aF.2 (aK (λc1=>?_) λc1=>aF.2 (aK (λc2=>?_) λc2=>aF.2 (aK (λc3=>?_) λc3=>?_))))
 ·refine bA hb aW aL rfl ?_;refine mF bU [i64 a] rfl rfl (by simp) rfl λv w2 ho x2=>hk _ _ ?_ (x1.trans x2);have e:iU ⟨op,a,b⟩ pc=[a]:=by unfold iU;dsimp only;rw [if_pos c1]
  rw [e];exact aR ho x1.size
 ·refine bW.2 ?_;rw [aX (by omega)];refine bA hb aW aL rfl ?_;refine mF bU [i64 ((pc:Int)+1),i64 a] rfl rfl (by simp) rfl λv w2 ho x2=>hk _ _ ?_ (x1.trans x2);have e:iU ⟨op,a,b⟩ pc=[(pc:Int)+1,a]:=by unfold iU;dsimp only;rw [if_neg c1,if_pos c2]
  rw [e];exact aR ho x1.size
 ·have e:iU ⟨op,a,b⟩ pc=[]:=by unfold iU;dsimp only;rw [if_neg c1,if_neg c2,if_pos c3]
  refine hk _ _ ?_ x1;rw [e];exact World.ownsRow_nil _ _ _ _
 ·refine bW.2 ?_;rw [aX (by omega)];refine mF bU [i64 ((pc:Int)+1)] rfl rfl (by simp) rfl λv w2 ho x2=>hk _ _ ?_ (x1.trans x2);have e:iU ⟨op,a,b⟩ pc=[(pc:Int)+1]:=by unfold iU;dsimp only;rw [if_neg c1,if_neg c2,if_neg c3]
  rw [e];exact aR ho x1.size
def fO (op:Int):List UInt8:=
 if jB op then [105,105] else if op=15\/op=16 then [105] else if op=17\/op=18 then [112,112] else if op=24\/op=27 then [112] else if op=26\/op=28 then [97]
 else if op=29 then [97,112] else if op=30 then [97,112,105] else if op=31\/op=32 then [97,112,97,112,112] else if op=36 then [97,112,112] else []
theorem CE (ho:1<=op/\op<=39) (hk:K (.string ⟨(fO op).toArray⟩) w):aC prog 139 #[i64 op] w K:=by
 apply aIj;unfold LB;rcases VN ho with rfl|rfl|rfl|rfl|rfl|rfl|rfl|rfl|rfl|rfl|rfl|rfl|rfl|rfl|rfl|rfl|rfl|rfl|rfl|rfl|rfl|rfl|rfl|rfl|rfl|rfl|rfl|rfl|rfl|rfl|rfl|rfl|rfl|rfl|rfl|rfl|rfl|rfl|rfl<;>(simp only [aY,Int.reduceEq];exact hk)
theorem WP {b:Int} (ho:1<=op/\op<=39) (h:op≠3/\op≠4/\op≠5/\op≠34/\op≠22/\op≠37/\op≠38/\op≠39):(bC i m ⟨op,a,b⟩).length=(fO op).length:=by
 obtain ⟨h1,h2,h3,h4,h5,h6,h7,h8⟩:=h;rcases VN ho with rfl|rfl|rfl|rfl|rfl|rfl|rfl|rfl|rfl|rfl|rfl|rfl|rfl|rfl|rfl|rfl|rfl|rfl|rfl|rfl|rfl|rfl|rfl|rfl|rfl|rfl|rfl|rfl|rfl|rfl|rfl|rfl|rfl|rfl|rfl|rfl|rfl|rfl|rfl<;>first|rfl|contradiction
theorem sG {t ty:TypeId} (ht:P.underlying t=some .string) {s:ByteArray}:(Builtin.len_ #[t] ty #[.string s]).run P w=.ok (i64 s.size) w:=by
 simp [Builtin.len_,run_underlying ht,goInt]
theorem PH (h:iG w p i) (hm:jO w row m) (hx:BA i m x) (hk:∀ w',aG w w'->K (i64 (bC i m x).length) w') :
  aC prog 98 #[p.val i,.agg row.toArray,.agg #[i64 x.op,i64 x.a,i64 x.b]] w K:=by
 obtain ⟨op,a,b⟩:=x;obtain ⟨_,_,⟨ho,a1,a2,_⟩,hn⟩:=hx;obtain ⟨pv,lv,cv,rfl,hp,hl,hc⟩:=hm;apply aPa;unfold SJ bP.val;refine bx λb1 w1 hb1 x1=>?_;refine bx λb2 w2 hb2 x2=>?_;refine bx λb3 w3 hb3 x3=>?_;have hb1:=(hb1.ext x2).ext x3;have hb2:gD w3 b2 [pv,i64 m.result,lv,cv]:=hb2.ext x3;have xx:=(x1.trans x2).trans x3;have h':=h.ext xx;refine bA hb3 bK aL rfl ?_;by_cases c1:op=3\/op=4\/op=5\/op=34
 ·rcases c1 with rfl|rfl|rfl|rfl<;>(simp only [aY,Int.reduceEq];exact hk _ xx)
 by_cases c2:op=22
 ·subst c2;simp only [aY,Int.reduceEq];exact hk _ xx
 by_cases c3:op=37
 ·subst c3;simp only [aY,Int.reduceEq];have ha:a < (i.methods.length:Int):=hn;have a1:0<=a:=a1;refine bA hb1 bN gR rfl ?_;refine bA hb3 aW aL rfl ?_;obtain ⟨k,rfl⟩:∃ k:Nat,a=k:=⟨a.toNat,by omega⟩;refine oG iJ fB aZ h'.mt (pF a1 ha) λrow hrow=>?_;obtain ⟨pv,lv,cv,rfl,hp,_,_⟩:=hrow;exact ⟨pv,rfl,by decide,gG aM hp (hk _ xx)⟩
 by_cases c4:op=38
 ·subst c4;simp only [aY,Int.reduceEq];have ha:a < (i.imports.length:Int):=hn;have a1:0<=a:=a1;refine bA hb1 dC lA rfl ?_;refine bA hb3 aW aL rfl ?_;obtain ⟨k,rfl⟩:∃ k:Nat,a=k:=⟨a.toNat,by omega⟩;refine oG mG cM aZ h'.im (xI a1 ha) λrow hrow=>?_;obtain ⟨pv,rfl,hp⟩:=hrow;exact ⟨pv,rfl,by decide,gG aM hp (hk _ xx)⟩
 by_cases c5:op=39
 ·subst c5;simp only [aY,Int.reduceEq];refine bA hb2 jE aL rfl (aS.2 ?_);have e:bC i m ⟨39,a,b⟩=jP m.result:=rfl;rw [e] at hk;by_cases hr:m.result=0
  ·simp only [hr,aY];simp only [jP,hr,reduceIte] at hk;exact hk _ xx
  ·simp only [hr,aY];simp only [jP,hr,reduceIte] at hk;exact hk _ xx
 ·simp only [not_or] at c1;obtain ⟨c11,c12,c13,c14⟩:=c1;simp only [c11,c12,c13,c14,c2,c3,c4,c5,aY];refine bA hb3 bK aL rfl (CE ho ?_);have e:=WP (i:=i) (m:=m) (a:=a) (b:=b) ho ⟨c11,c12,c13,c14,c2,c3,c4,c5⟩;rw [e] at hk;exact V.ok (sG underlying9) (hk _ xx)
theorem GU {r:Int} (h:0<=r/\r<=4):∀ c,(c=1\/c=r)->c<=1->c<=r->c=((jP r).length:Int):=by
 intro c h1 h2 h3;unfold jP;split<;>simp<;>omega
theorem RS (h:iG w p i) (hx:BA i m x) (hk:∀ w',aG w w'->K (i64 (hgt i m x)) w') :
  aC prog 108 #[p.val i,.agg #[i64 x.op,i64 x.a,i64 x.b]] w K:=by
 obtain ⟨op,a,b⟩:=x;obtain ⟨ir,_,⟨ho,a1,a2,_⟩,hn⟩:=hx;apply aJd;unfold LU bP.val;refine bx λb1 w1 hb1 x1=>?_;refine bx λb3 w3 hb3 x3=>?_;have hb1:=hb1.ext x3;have xx:=x1.trans x3;have h':=h.ext xx;refine bA hb3 bK aL rfl ?_;by_cases c3:op=37
 ·subst c3;simp only [aY,Int.reduceEq];have ha:a < (i.methods.length:Int):=hn;have a1:0<=a:=a1;refine bA hb1 bN gR rfl ?_;refine bA hb3 aW aL rfl ?_;have hr:=(ir.2.2.1.2.1 _ (bF.meth_mem a1 ha)).2.1;have e:hgt i m ⟨37,a,b⟩=(jP (i.meth a).result).length:=rfl;rw [e] at hk;obtain ⟨k,rfl⟩:∃ k:Nat,a=k:=⟨a.toNat,by omega⟩;refine oG iJ jE aL h'.mt (pF a1 ha) λrow hrow=>?_;obtain ⟨pv,lv,cv,rfl,hp,_,_⟩:=hrow;refine ⟨i64 (i.meth (k:Int)).result,rfl,by decide,mn2 λc h1 h2 h3=>?_⟩;rw [GU hr c h1 h2 h3];exact hk _ xx
 by_cases c4:op=38
 ·subst c4;simp only [aY,Int.reduceEq];have ha:a < (i.imports.length:Int):=hn;have a1:0<=a:=a1;refine bA hb1 dC lA rfl ?_;refine bA hb3 aW aL rfl ?_;have hr:=(ir.2.1.2 _ (bF.imp_mem a1 ha)).2.2;have e:hgt i m ⟨38,a,b⟩=(jP (i.imp a).result).length:=rfl;rw [e] at hk;obtain ⟨k,rfl⟩:∃ k:Nat,a=k:=⟨a.toNat,by omega⟩;refine oG mG cX aL h'.im (xI a1 ha) λrow hrow=>?_;obtain ⟨pv,rfl,hp⟩:=hrow;refine ⟨i64 (i.imp (k:Int)).result,rfl,by decide,mn2 λc h1 h2 h3=>?_⟩;rw [GU hr c h1 h2 h3];exact hk _ xx
 ·rcases VN ho with rfl|rfl|rfl|rfl|rfl|rfl|rfl|rfl|rfl|rfl|rfl|rfl|rfl|rfl|rfl|rfl|rfl|rfl|rfl|rfl|rfl|rfl|rfl|rfl|rfl|rfl|rfl|rfl|rfl|rfl|rfl|rfl|rfl|rfl|rfl|rfl|rfl|rfl|rfl<;>first|contradiction|(simp only [aY,Int.reduceEq];exact hk _ xx)
theorem aAo {tv:O} {l:List Int} (h:iG w p i) (hm:jO w row m) (hx:BA i m x) (ht:aU w tv l) (hln:l.length=(bC i m x).length) (hk:∀ v w',aU w' v (jZ i m x l)->aG w w'->K v w') :
  aC prog 152 #[p.val i,.agg row.toArray,.agg #[i64 x.op,i64 x.a,i64 x.b],tv] w K:=by
 obtain ⟨op,a,b⟩:=x;obtain ⟨ir,mr,⟨ho,a1,a2,_⟩,hn⟩:=hx;have hm0:=hm;obtain ⟨pv,lv,cv,rfl,hp,hl,hc⟩:=hm;apply aHw;unfold KO bP.val;refine bx λb1 w1 hb1 x1=>?_;refine bx λb2 w2 hb2 x2=>?_;refine bx λb3 w3 hb3 x3=>?_;have hb1:=(hb1.ext x2).ext x3;have hb2:gD w3 b2 [pv,i64 m.result,lv,cv]:=hb2.ext x3;have xx:=(x1.trans x2).trans x3;have h':=h.ext xx;refine bA hb3 bK aL rfl ?_;rcases VN ho with rfl|rfl|rfl|rfl|rfl|rfl|rfl|rfl|rfl|rfl|rfl|rfl|rfl|rfl|rfl|rfl|rfl|rfl|rfl|rfl|rfl|rfl|rfl|rfl|rfl|rfl|rfl|rfl|rfl|rfl|rfl|rfl|rfl|rfl|rfl|rfl|rfl|rfl|rfl<;>simp only [aY,Int.reduceEq]
 ·refine mF bU [i64 (1)] rfl rfl (by simp) rfl λv w4 ho x4=>hk _ _ (aB.of_own ho) (xx.trans x4)
 ·have ha:a < (m.locs.length:Int):=hn;have a1:0<=a:=a1;refine qO hb2 oK rfl ?_;refine bA hb3 aW aL rfl ?_;refine EE (hm0.ext xx) mr a1 λw4 x4=>cL.2 (cK.2 ?_);refine mF bU [i64 (m.locs.getD a.toNat 0)] rfl rfl (by simp) rfl λv w5 ho x5=>hk _ _ (aB.of_own ho) ((xx.trans x4).trans x5)
 iterate 2
  ·exact hk _ _ (aB.nil _ _) xx
 ·have hl1:l.length=1:=hln;have D1:aG w3 w3.drew:=(aG.refl _).drew;refine aH.mk' (λw'=>aG w3 w') D1 ?_;refine gF aM aL (ht.ext xx) (λ_ h=>h) (by omega) (by omega) (fQ (j:=0) (eF (by omega))) ?_;refine gF aM aL (ht.ext xx) (λ_ h=>h) (by omega) (by omega) (fQ (j:=0) (eF (by omega))) ?_;refine mF bU [i64 (bI l 0),i64 (bI l 0)] rfl rfl (by simp) rfl λv w4 ho x4=>⟨D1.trans x4,hk _ _ (aB.of_own ho) ((xx.trans D1).trans x4)⟩
 iterate 9
  ·have hl1:l.length=2:=hln;have D1:aG w3 w3.drew:=(aG.refl _).drew;refine aH.mk' (λw'=>aG w3 w') D1 ?_;refine gF aM aL (ht.ext xx) (λ_ h=>h) (by omega) (by omega) (fQ (j:=0) (eF (by omega))) ?_;refine gF aM aL (ht.ext xx) (λ_ h=>h) (by omega) (by omega) (fQ (j:=1) (eF (by omega))) ?_;refine xK ⟨D1,?_⟩;refine mF bU [i64 (sS (bI l 0) (bI l 1))] rfl rfl (by simp) rfl λv w4 ho x4=>⟨D1.trans x4,hk _ _ (aB.of_own ho) ((xx.trans D1).trans x4)⟩
 iterate 2
  ·have hl1:l.length=1:=hln;refine nO aM aL (ht.ext xx) (by omega) (by omega) (fQ (j:=0) (eF (by omega))) ?_;refine mF bU [i64 (bI l 0)] rfl rfl (by simp) rfl λv w4 ho x4=>hk _ _ (aB.of_own ho) (xx.trans x4)
 iterate 2
  ·refine mF bU [i64 (1)] rfl rfl (by simp) rfl λv w4 ho x4=>hk _ _ (aB.of_own ho) (xx.trans x4)
 iterate 3
  ·have hl1:l.length=2:=hln;have D1:aG w3 w3.drew:=(aG.refl _).drew;refine aH.mk' (λw'=>aG w3 w') D1 ?_;refine gF aM aL (ht.ext xx) (λ_ h=>h) (by omega) (by omega) (fQ (j:=0) (eF (by omega))) ?_;refine gF aM aL (ht.ext xx) (λ_ h=>h) (by omega) (by omega) (fQ (j:=1) (eF (by omega))) ?_;refine xK ⟨D1,?_⟩;refine mF bU [i64 (sS (bI l 0) (bI l 1))] rfl rfl (by simp) rfl λv w4 ho x4=>⟨D1.trans x4,hk _ _ (aB.of_own ho) ((xx.trans D1).trans x4)⟩
 ·have hl1:l.length=3:=hln;have e:∀ v w',aU w' v [HB l]->aG w w'->K v w':=hk;unfold HB at e;refine nO aM aL (ht.ext xx) (by omega) (by omega) (fQ (j:=1) (eF (by omega))) ?_;refine rA ?_;change aO (.bool (fM (bI l 1))) _ _;cases hz:fM (bI l 1)
  ·rw [hz] at e;refine aA.2 ?_;have D1:aG w3 w3.drew:=(aG.refl _).drew;refine aH.mk' (λw'=>aG w3 w') D1 ?_;refine gF aM aL (ht.ext xx) (λ_ h=>h) (by omega) (by omega) (fQ (j:=0) (eF (by omega))) ?_;refine gF aM aL (ht.ext xx) (λ_ h=>h) (by omega) (by omega) (fQ (j:=1) (eF (by omega))) ?_;refine gF aM aL (ht.ext xx) (λ_ h=>h) (by omega) (by omega) (fQ (j:=2) (eF (by omega))) ?_;refine xK ⟨D1,xK ⟨D1,?_⟩⟩;refine mF bU [i64 (sS (bI l 0) (sS (bI l 1) (bI l 2)))] rfl rfl (by simp) rfl λv w4 ho x4=>⟨D1.trans x4,e _ _ (aB.of_own ho) ((xx.trans D1).trans x4)⟩
  ·rw [hz] at e;refine aE.2 ?_;refine nO aM aL (ht.ext xx) (by omega) (by omega) (fQ (j:=1) (eF (by omega))) ?_;refine mF bU [i64 (bI l 1)] rfl rfl (by simp) rfl λv w4 ho x4=>e _ _ (aB.of_own ho) (xx.trans x4)
 iterate 2
  ·exact hk _ _ (aB.nil _ _) xx
 ·refine bA hb3 aW aL rfl ?_;refine mF bU [i64 (a)] rfl rfl (by simp) rfl λv w4 ho x4=>hk _ _ (aB.of_own ho) (xx.trans x4)
 ·refine mF bU [i64 (1)] rfl rfl (by simp) rfl λv w4 ho x4=>hk _ _ (aB.of_own ho) (xx.trans x4)
 ·refine bA hb3 aW aL rfl ?_;refine mF bU [i64 (a)] rfl rfl (by simp) rfl λv w4 ho x4=>hk _ _ (aB.of_own ho) (xx.trans x4)
 ·refine mF bU [i64 (1)] rfl rfl (by simp) rfl λv w4 ho x4=>hk _ _ (aB.of_own ho) (xx.trans x4)
 ·have hl1:l.length=2:=hln;refine nO aM aL (ht.ext xx) (by omega) (by omega) (fQ (j:=0) (eF (by omega))) ?_;refine aSv ?_;refine mF bU [i64 (ofK (bI l 0))] rfl rfl (by simp) rfl λv w4 ho x4=>hk _ _ (aB.of_own ho) (xx.trans x4)
 iterate 2
  ·exact hk _ _ (aB.nil _ _) xx
 ·have hl1:l.length=5:=hln;have e:∀ v w',aU w' v (if bI l 0=4\/bI l 2=4 then [2] else [1])->aG w w'->K v w':=hk;refine nO aM aL (ht.ext xx) (by omega) (by omega) (fQ (j:=0) (eF (by omega))) ?_;change V _ (do eqGuard .eql _ _ _ (i64 (bI l 0)) _;binOp .eql _ (i64 (bI l 0)) _) _ _;refine aF.2 ?_;by_cases z0:bI l 0=4
  ·simp only [z0,true_or,aY] at e ⊢;refine mF bU [i64 (2)] rfl rfl (by simp) rfl λv w4 ho x4=>e _ _ (aB.of_own ho) (xx.trans x4)
  ·simp only [z0,aY];refine nO aM aL (ht.ext xx) (by omega) (by omega) (fQ (j:=2) (eF (by omega))) ?_;change V _ (do eqGuard .eql _ _ _ (i64 (bI l 2)) _;binOp .eql _ (i64 (bI l 2)) _) _ _;refine aF.2 ?_;by_cases z2:bI l 2=4
   ·simp only [z2,or_true,aY] at e ⊢;refine mF bU [i64 (2)] rfl rfl (by simp) rfl λv w4 ho x4=>e _ _ (aB.of_own ho) (xx.trans x4)
   ·simp only [z0,z2,or_self,aY] at e ⊢;refine mF bU [i64 (1)] rfl rfl (by simp) rfl λv w4 ho x4=>e _ _ (aB.of_own ho) (xx.trans x4)
 ·have ha:a < (i.fields.length:Int):=hn;have a1:0<=a:=a1;refine bA hb1 jH aZ rfl ?_;refine bA hb3 aW aL rfl ?_;obtain ⟨k,rfl⟩:∃ k:Nat,a=k:=⟨a.toNat,by omega⟩;refine nO aM aL h'.fl (by omega) (by omega) (fQ (eF (by omega))) ?_;refine mF bU [i64 (i.fields.getD k 0)] rfl rfl (by simp) rfl λv w4 ho x4=>hk _ _ (aB.of_own ho) (xx.trans x4)
 ·exact hk _ _ (aB.nil _ _) xx
 ·have a1:1<=a:=a1;have a2:a<=2:=a2;refine bA hb3 aW aL rfl (bW.2 ?_);rw [jD (by dsimp only;omega) (by dsimp only;omega)];refine jV.2 ?_;rw [jD (by dsimp only;omega) (by dsimp only;omega)];refine mF bU [i64 (3+a - 1)] rfl rfl (by simp) rfl λv w4 ho x4=>hk _ _ (aB.of_own ho) (xx.trans x4)
 ·exact hk _ _ (aB.nil _ _) xx
 ·have ha:a < (i.methods.length:Int):=hn;have a1:0<=a:=a1;refine bA hb1 bN gR rfl ?_;refine bA hb3 aW aL rfl ?_;have e:∀ v w',aU w' v (jP (i.meth a).result)->aG w w'->K v w':=hk;obtain ⟨k,rfl⟩:∃ k:Nat,a=k:=⟨a.toNat,by omega⟩;refine oG iJ jE aL h'.mt (pF a1 ha) λrow hrow=>?_;obtain ⟨pv2,lv2,cv2,rfl,_,_,_⟩:=hrow;refine ⟨i64 (i.meth (k:Int)).result,rfl,by decide,aS.2 ?_⟩;by_cases hr:(i.meth (k:Int)).result=0
  ·simp only [hr,aY];refine e _ _ ?_ xx;rw [jP,if_pos hr];exact aB.nil _ _
  ·simp only [hr,aY];refine mF bU [i64 (i.meth (k:Int)).result] rfl rfl (by simp) rfl λv w4 ho x4=>e _ _ ?_ (xx.trans x4);rw [jP,if_neg hr];exact aB.of_own ho
 ·have ha:a < (i.imports.length:Int):=hn;have a1:0<=a:=a1;refine bA hb1 dC lA rfl ?_;refine bA hb3 aW aL rfl ?_;have e:∀ v w',aU w' v (jP (i.imp a).result)->aG w w'->K v w':=hk;obtain ⟨k,rfl⟩:∃ k:Nat,a=k:=⟨a.toNat,by omega⟩;refine oG mG cX aL h'.im (xI a1 ha) λrow hrow=>?_;obtain ⟨pv2,rfl,_⟩:=hrow;refine ⟨i64 (i.imp (k:Int)).result,rfl,by decide,aS.2 ?_⟩;by_cases hr:(i.imp (k:Int)).result=0
  ·simp only [hr,aY];refine e _ _ ?_ xx;rw [jP,if_pos hr];exact aB.nil _ _
  ·simp only [hr,aY];refine mF bU [i64 (i.imp (k:Int)).result] rfl rfl (by simp) rfl λv w4 ho x4=>e _ _ ?_ (xx.trans x4);rw [jP,if_neg hr];exact aB.of_own ho
 ·exact hk _ _ (aB.nil _ _) xx
end Go.Proofs.YtgkkecladbmjkaaGreatDoor
namespace Go.Tc
def mZ:List UInt8->List Int->Bool
 | c::p,k::l=>(if c=97 then !fM k else !dN k)||mZ p l
 | _,_=>false
def oO:List UInt8->List Int->Bool
 | c::p,k::l=>(c == 112&&(k == 2||k == 4))||oO p l
 | _,_=>false
def BC (c:UInt8):Int:=if c=97 then -4 else if c=112 then -3 else -2
theorem aSs:∀ {p:List UInt8} {l:List Int},(∀ c∈p,c=97\/c=112\/c=105)->nI l->((mZ p l||oO p l)=false↔iL (p.map BC) l=true/\gY (p.map BC) l=false)
 | [],_,_,_=>by simp [mZ,oO,iL,gY]
 | _::_,[],_,_=>by simp [mZ,oO,iL,gY]
 | c::p,k::l,hp,hl=>by
  have ih:=aSs (p:=p) (l:=l) (λc hc=>hp c (by simp [hc])) λk hk=>hl k (by simp [hk]);have hk:Kd k:=hl k (by simp);have ek:k=1\/k=2\/k=3\/k=4:=by obtain ⟨h1,h2⟩:=hk;omega
  simp only [mZ,oO,iL,gY,List.map_cons];generalize mZ p l=A at ih ⊢;generalize oO p l=B at ih ⊢;generalize iL (p.map BC) l=C at ih ⊢;generalize gY (p.map BC) l=D at ih ⊢
  rcases hp c (by simp) with rfl|rfl|rfl<;>rcases ek with rfl|rfl|rfl|rfl <;>
   (simp [BC,zM,yD,dN,fM];try (revert ih;cases A<;>cases B<;>cases C<;>cases D<;>simp))
def wR (a b:Int):Int:=if dN a≠dN b\/(fM a=true/\a≠b) then 11 else if (a == b||(a == 1&&b == 2)) then 0 else 12
def NT:List Int->List Int->Bool
 | a::t,k::l=>(wR k a == 11)||NT t l
 | _,_=>false
def NS:List Int->List Int->Bool
 | a::t,k::l=>(wR k a == 12)||NS t l
 | _,_=>false
theorem aAj {k a:Int} (hk:Kd k) (ha:Kd a):((wR k a == 11)||(wR k a == 12))=false↔zM k a=true/\yD k a=false:=by
 have ek:k=1\/k=2\/k=3\/k=4:=by obtain ⟨h1,h2⟩:=hk;omega
 have ea:a=1\/a=2\/a=3\/a=4:=by obtain ⟨h1,h2⟩:=ha;omega
 rcases ek with rfl|rfl|rfl|rfl<;>rcases ea with rfl|rfl|rfl|rfl<;>decide
theorem inA:∀ {t l:List Int},nI t->nI l->((NT t l||NS t l)=false↔iL t l=true/\gY t l=false)
 | [],_,_,_=>by simp [NT,NS,iL,gY]
 | _::_,[],_,_=>by simp [NT,NS,iL,gY]
 | a::t,k::l,ht,hl=>by
  have ih:=inA (t:=t) (l:=l) (λc hc=>ht c (by simp [hc])) λk hk=>hl k (by simp [hk]);have h1:=aAj (hl k (by simp)) (ht a (by simp));simp only [NT,NS,iL,gY];generalize NT t l=A at ih ⊢;generalize NS t l=B at ih ⊢;generalize iL t l=C at ih ⊢;generalize gY t l=D at ih ⊢;generalize (wR k a == 11)=E at h1 ⊢;generalize (wR k a == 12)=F at h1 ⊢;generalize zM k a=G at h1 ⊢;generalize yD k a=H at h1 ⊢;revert ih h1;cases A<;>cases B<;>cases C<;>cases D<;>cases E<;>cases F<;>cases G<;>cases H<;>simp
theorem zE:∀ {t l:List Int} {j:Nat} {a k:Int},t[j]?=some a->l[j]?=some k->NT (t.take (j+1)) (l.take (j+1))=(NT (t.take j) (l.take j)||wR k a == 11)
 | [],_,_,_,_,h,_=>by simp at h
 | _::_,[],_,_,_,_,h=>by simp at h
 | a::t,k::l,0,_,_,h1,h2=>by simp at h1 h2;subst h1 h2;simp [NT]
 | a::t,k::l,j+1,_,_,h1,h2=>by
  have:=zE (t:=t) (l:=l) (j:=j) (by simpa using h1) (by simpa using h2);simp only [List.take_succ_cons,NT] at this ⊢;rw [this,Bool.or_assoc]
theorem zD:∀ {t l:List Int} {j:Nat} {a k:Int},t[j]?=some a->l[j]?=some k->NS (t.take (j+1)) (l.take (j+1))=(NS (t.take j) (l.take j)||wR k a == 12)
 | [],_,_,_,_,h,_=>by simp at h
 | _::_,[],_,_,_,_,h=>by simp at h
 | a::t,k::l,0,_,_,h1,h2=>by simp at h1 h2;subst h1 h2;simp [NS]
 | a::t,k::l,j+1,_,_,h1,h2=>by
  have:=zD (t:=t) (l:=l) (j:=j) (by simpa using h1) (by simpa using h2);simp only [List.take_succ_cons,NS] at this ⊢;rw [this,Bool.or_assoc]
theorem CG:∀ {p:List UInt8} {l:List Int} {j:Nat} {c:UInt8} {k:Int},p[j]?=some c->l[j]?=some k->mZ (p.take (j+1)) (l.take (j+1))=(mZ (p.take j) (l.take j)||(if c=97 then !fM k else !dN k))
 | [],_,_,_,_,h,_=>by simp at h
 | _::_,[],_,_,_,_,h=>by simp at h
 | a::t,k::l,0,_,_,h1,h2=>by simp at h1 h2;subst h1 h2;simp [mZ]
 | a::t,k::l,j+1,_,_,h1,h2=>by
  have:=CG (p:=t) (l:=l) (j:=j) (by simpa using h1) (by simpa using h2);simp only [List.take_succ_cons,mZ] at this ⊢;rw [this,Bool.or_assoc]
theorem CF:∀ {p:List UInt8} {l:List Int} {j:Nat} {c:UInt8} {k:Int},p[j]?=some c->l[j]?=some k->oO (p.take (j+1)) (l.take (j+1))=(oO (p.take j) (l.take j)||(c == 112&&(k == 2||k == 4)))
 | [],_,_,_,_,h,_=>by simp at h
 | _::_,[],_,_,_,_,h=>by simp at h
 | a::t,k::l,0,_,_,h1,h2=>by simp at h1 h2;subst h1 h2;simp [oO]
 | a::t,k::l,j+1,_,_,h1,h2=>by
  have:=CF (p:=t) (l:=l) (j:=j) (by simpa using h1) (by simpa using h2);simp only [List.take_succ_cons,oO] at this ⊢;rw [this,Bool.or_assoc]
end Go.Tc
namespace Go.Proofs.YtgkkecladbmjkaaGreatDoor
open Tryz
open Go.Vc Go.Tc
variable {w:Ω} {K:O->Ω->Prop}
abbrev Wr (w:Ω) (g:Nat) (kf lf:Bool):Prop:=bD w g [.bool kf,.bool lf] 266
theorem vL {g:Nat} {kf lf:Bool} {e:Int} (hb:Wr w g kf lf) (hk:∀ w',Wr w' g (kf||e == 11) (lf||e == 12)->(∀ a,aG a w->a.heap.size<=g->aG a w')->K (.tuple #[]) w') :
  aC prog 150 #[.pointer (some ⟨g,0,none⟩),i64 e] w K:=by
 apply aHy;unfold KQ;refine ⟨.inl ⟨_,rfl⟩,?_⟩;refine bA hb.boxed dP oH rfl ?_
 cases kf<;>cases lf <;>
  (simp only [aY]
   refine ⟨.inl ⟨_,rfl⟩,?_⟩;refine BG (by first|exact cZ|exact eB|exact cA|exact eA|exact eQ|exact cS|exact fH|exact cI|exact gA|exact eP|exact cY|exact dZ|exact dI|exact fG|exact fD|exact dY|exact bL|exact bY|exact cH|exact cQ|exact fZ|exact fY|exact bJ|exact cP|exact cO|exact fX|exact fW|exact cG|exact dX|exact cF|exact eO|exact cD|exact fV|exact bV|exact eM|exact cN|exact cM|exact cX|exact fU|exact dH|exact bS|exact eJ|exact gN|exact eG|exact gM|exact iX|exact dG|exact gL|exact iW|exact dP) pX hb (n:=2) rfl (by decide) rfl ⟨.inl ⟨_,rfl⟩,?_⟩;have hb1:=hb.set 0;refine bA (hb1 _).boxed (by first|exact cZ|exact eB|exact cA|exact eA|exact eQ|exact cS|exact fH|exact cI|exact gA|exact eP|exact cY|exact dZ|exact dI|exact fG|exact fD|exact dY|exact bL|exact bY|exact cH|exact cQ|exact fZ|exact fY|exact bJ|exact cP|exact cO|exact fX|exact fW|exact cG|exact dX|exact cF|exact eO|exact cD|exact fV|exact bV|exact eM|exact cN|exact cM|exact cX|exact fU|exact dH|exact bS|exact eJ|exact gN|exact eG|exact gM|exact iX|exact dG|exact gL|exact iW|exact dP|exact dO) (by first|exact fA|exact gJ|exact kI|exact eE|exact jJ|exact dE|exact dA|exact cE|exact fS|exact iK|exact gI|exact kR|exact aL|exact gX|exact oH) rfl ?_
   simp only [aY];refine ⟨.inl ⟨_,rfl⟩,?_⟩;refine BG (by first|exact cZ|exact eB|exact cA|exact eA|exact eQ|exact cS|exact fH|exact cI|exact gA|exact eP|exact cY|exact dZ|exact dI|exact fG|exact fD|exact dY|exact bL|exact bY|exact cH|exact cQ|exact fZ|exact fY|exact bJ|exact cP|exact cO|exact fX|exact fW|exact cG|exact dX|exact cF|exact eO|exact cD|exact fV|exact bV|exact eM|exact cN|exact cM|exact cX|exact fU|exact dH|exact bS|exact eJ|exact gN|exact eG|exact gM|exact iX|exact dG|exact gL|exact iW|exact dP|exact dO) pX (hb1 _) (n:=2) rfl (by decide) rfl ?_;exact hk _ ((hb1 _).set 1 _) λa ha hg=>(ha.setCell hg _).setCell hg _)
end Go.Proofs.YtgkkecladbmjkaaGreatDoor
namespace Go.Tc
theorem yZ:∀ {a b acc:List Int} {j:Nat} {x y k:Int},a[j]?=some x->b[j]?=some y->jA (a.take j) (b.take j)=some acc->pH x y=some k->jA (a.take (j+1)) (b.take (j+1))=some (acc++[k])
 | [],_,_,_,_,_,_,h,_,_,_=>by simp at h
 | _::_,[],_,_,_,_,_,_,h,_,_=>by simp at h
 | a::l,b::m,acc,0,x,y,k,h1,h2,h3,h4=>by
  simp at h1 h2;subst h1 h2;simp [jA] at h3;subst h3;simp [jA,h4]
 | a::l,b::m,acc,j+1,x,y,k,h1,h2,h3,h4=>by
  simp only [List.take_succ_cons,jA,Option.bind_eq_some_iff,Option.map_eq_some_iff] at h3;obtain ⟨q,hq,r,hr,rfl⟩:=h3;have:=yZ (a:=l) (b:=m) (by simpa using h1) (by simpa using h2) hr h4;simp only [List.take_succ_cons,jA] at this ⊢;rw [hq,this];rfl
theorem HO:∀ {a b:List Int} {j:Nat} {x y:Int},a[j]?=some x->b[j]?=some y->pH x y=none->jA a b=none
 | [],_,_,_,_,h,_,_=>by simp at h
 | _::_,[],_,_,_,_,h,_=>by simp at h
 | a::l,b::m,0,x,y,h1,h2,h4=>by
  simp at h1 h2;subst h1 h2;simp [jA,h4]
 | a::l,b::m,j+1,x,y,h1,h2,h4=>by
  have:=HO (a:=l) (b:=m) (by simpa using h1) (by simpa using h2) h4;simp [jA,this]
theorem HP:∀ {a b:List Int},a.length≠b.length->jA a b=none
 | [],[],h=>absurd rfl h
 | [],_::_,_=>rfl
 | _::_,[],_=>rfl
 | a::l,b::m,h=>by
  have:=HP (a:=l) (b:=m) (by simpa using h);simp [jA,this]
end Go.Tc
namespace Go.Proofs.YtgkkecladbmjkaaGreatDoor
open Tryz
open Go.Vc Go.Tc
variable {w:Ω} {K:O->Ω->Prop}
theorem MS {av bv:O} {a b:List Int} (ha:aU w av a) (hb:aU w bv b) (hk:∀ w',aG w w'->K (.bool (decide (a=b))) w'):aC prog 116 #[av,bv] w K:=by
 have ca:=HR ha;apply aIv;unfold LM;refine gG aM ha (gG aM hb (aS.2 (aK (λhne=>?_) λheq=>?_)))
 ·have:¬ a=b:=λe=>hne (by rw [e]);rw [decide_eq_false this] at hk;exact hk _ (aG.refl _)
 have hl:a.length=b.length:=by omega
 refine ⟨λv w'=>∃ j:Nat,v=i64 j/\j<=a.length/\aG w w'/\a.take j=b.take j,λv _=>a.length - (RowKit.intOf v).toNat,⟨0,rfl,Nat.zero_le _,aG.refl _,rfl⟩,?_⟩;rintro _ w1 ⟨j,rfl,hj,x1,hjs⟩ _;refine gG aM (ha.ext x1) (aV.2 (aK (λhlt=>?_) λhge=>?_))
 ·obtain ⟨x,hx⟩:=bH (l:=a) (j:=j) (by omega);obtain ⟨y,hy⟩:=bH (l:=b) (j:=j) (by omega);have D1:aG w1 w1.drew:=(aG.refl _).drew;refine aH.mk' (λw'=>aG w1 w') D1 ?_;refine gF aM aL (ha.ext x1) (λ_ h=>h) (by omega) (by omega) (fQ hx) ?_;refine gF aM aL (hb.ext x1) (λ_ h=>h) (by omega) (by omega) (fQ hy) ?_;refine aD.ok (λw' _=>lR) (aK (λhne=>?_) λheq=>?_)
  ·have:¬ a=b:=λe=>hne (by subst e;rw [hx] at hy;cases hy;rfl);rw [decide_eq_false this] at hk;exact hk _ (x1.trans D1)
  ·have:x=y:=by simpa using heq
   subst this;refine bW.2 ?_;rw [jD (by omega) (by unfold maxLen at ca;omega),dF];exact ⟨⟨j+1,rfl,by omega,x1.trans D1,by rw [List.take_add_one,List.take_add_one,hx,hy,hjs]⟩,by simp only [aT];omega⟩
 ·have hjl:j=a.length:=by omega
  subst hjl
  have:a=b:=by
   rw [List.take_length,hl,List.take_length] at hjs;exact hjs
  rw [decide_eq_true this] at hk;exact hk _ x1
theorem WY {av bv:O} {a b:List Int} (ha:aU w av a) (hb:aU w bv b) (ka:nI a) (kb:nI b) (hl8:a.length<=1000)
  (yes:∀ j v w',jA a b=some j->w'.ownsRow w.heap.size 3 1 v j.length (j.map i64)->aG w w'->K (.tuple #[v,.bool true]) w') (no:∀ w',jA a b=none->aG w w'->K (.tuple #[bT,.bool false]) w') :
  aC prog 115 #[av,bv] w K:=by
 apply aIw;unfold LN;refine gG aM ha (gG aM hb (aS.2 (aK (λhne=>?_) λheq=>?_)))
 ·exact no _ (HP λe=>hne (by rw [e])) (aG.refl _)
 have hl:a.length=b.length:=by omega
 refine ⟨λov v w'=>∃ (j:Nat) (acc:List Int),v=i64 j/\j<=a.length/\aG w w'/\jA (a.take j) (b.take j)=some acc/\acc.length=j/\w'.ownsRow w.heap.size 3 1 ov j (acc.map i64),λ_ v _=>a.length - (RowKit.intOf v).toNat,
  ⟨0,[],rfl,Nat.zero_le _,aG.refl _,rfl,rfl,World.ownsRow_nil _ _ _ _⟩,?_⟩
 rintro ov _ w1 ⟨j,acc,rfl,hj,x1,hacc,hal,ho⟩ _;refine gG aM (ha.ext x1) (aV.2 (aK (λhlt=>?_) λhge=>?_))
 ·obtain ⟨x,hx⟩:=bH (l:=a) (j:=j) (by omega);obtain ⟨y,hy⟩:=bH (l:=b) (j:=j) (by omega);have D1:aG w1 w1.drew:=(aG.refl _).drew;have xd:=x1.trans D1;refine aH.mk' (λw'=>aG w1 w') D1 ?_;refine gF aM aL (ha.ext x1) (λ_ h=>h) (by omega) (by omega) (fQ hx) ?_;refine gF aM aL (hb.ext x1) (λ_ h=>h) (by omega) (by omega) (fQ hy) ?_;refine aEh (ka x (List.mem_of_getElem? hx)) (kb y (List.mem_of_getElem? hy)) ⟨D1,?_⟩;unfold aKb;cases hk:pH x y with
  | none=>
   refine aD.ok (λw' _=>iQ) (aD.ok (λw' _=>iP) (fN.2 (aE.2 ?_)));exact no _ (HO hx hy hk) xd
  | some k=>
   refine aD.ok (λw' _=>iQ) (aD.ok (λw' _=>iP) (fN.2 (aA.2 ?_)));refine mF bU [i64 k] rfl rfl (by simp) rfl λv2 w2 ho2 x2=>?_;have x12:=D1.trans x2;refine WT bU (x12.own ho) (aB.of_own ho2) rfl (by omega) (by unfold maxLen;omega) (xd.trans x2).size λv3 w3 ho3 hg3=>?_;refine mH (by omega) ?_;refine ⟨⟨j+1,acc++[k],rfl,by omega,(xd.trans x2).grown hg3 λq hq=>((x12.own ho).lt q hq).1,yZ hx hy hacc hk,by simp [hal],by simpa using ho3⟩,by simp only [aT];omega⟩
 ·have hjl:j=a.length:=by omega
  subst hjl;rw [List.take_length,hl,List.take_length] at hacc;refine yes acc ov _ hacc ?_ x1;have:=ho;rw [<- hal] at this;exact this
end Go.Proofs.YtgkkecladbmjkaaGreatDoor
namespace Go.Vc
section
variable {P:Program} {w:Ω} {S:Ω->Prop} {L:O->Prop}
theorem uC {t:TypeId} (ht:P.underlying t=some .string) {s:ByteArray} {j:Nat} {c:UInt8} (h:s[j]?=some c):(Instr.index t (.string s) (i64 j)).run P w=.ok (.int .u8 c.toNat) w:=by
 simp [Instr.index,asIntOf,run_underlying ht,h]
end
end Go.Vc
namespace Go.Tc
theorem aDr {i:bF} {m:gU} {op a b:Int} (ho:1<=op/\op<=39):(∀ c∈Go.Proofs.YtgkkecladbmjkaaGreatDoor.fO op,c=97\/c=112\/c=105)/\(Go.Proofs.YtgkkecladbmjkaaGreatDoor.fO op).length<=(bC i m ⟨op,a,b⟩).length/\(¬ (op=3\/op=34\/op=22\/op=37\/op=38\/op=39\/op=4\/op=5)->bC i m ⟨op,a,b⟩=(Go.Proofs.YtgkkecladbmjkaaGreatDoor.fO op).map BC):=by
 have:op=1\/op=2\/op=3\/op=4\/op=5\/op=6\/op=7\/op=8\/op=9\/op=10\/op=11\/op=12\/op=13\/op=14\/op=15\/op=16\/op=17\/op=18\/op=19\/op=20\/op=21\/op=22\/op=23\/op=24\/op=25\/op=26\/op=27\/op=28\/op=29\/op=30\/op=31\/op=32\/op=33\/op=34\/op=35\/op=36\/op=37\/op=38\/op=39:=by omega
 rcases this with rfl|rfl|rfl|rfl|rfl|rfl|rfl|rfl|rfl|rfl|rfl|rfl|rfl|rfl|rfl|rfl|rfl|rfl|rfl|rfl|rfl|rfl|rfl|rfl|rfl|rfl|rfl|rfl|rfl|rfl|rfl|rfl|rfl|rfl|rfl|rfl|rfl|rfl|rfl<;>refine ⟨by decide,?_,?_⟩<;>first|exact Nat.zero_le _|exact Nat.le_refl _|exact λ_=>rfl|exact λh=>absurd (by omega) h
end Go.Tc
namespace Go.Proofs.YtgkkecladbmjkaaGreatDoor
open Tryz
open Go.Vc Go.Tc
variable {w:Ω} {K:O->Ω->Prop}
variable {A B S:Bool} {i:bF} {m:gU} {a k0 k1 k2:Int}
theorem ySF {S:Ω->Prop} {L:O->Prop} {α:Type} {T:Ω->List O->α->Prop} {sz:Nat} {t s f o ft:Nat} {v:O} {l:List α} {i:Nat} {e:α} (h:XA prog t sz) (hf:FA prog s f o) (hl:L1 prog ft) (hs:dS T sz w v l) (hx:∀ w',S w'->aG w w') (hi:l[i]?=some e)
  (hk:∀ row,T w row e->∃ u,row[o]?=some u/\o < sz/\L u):aD prog S (Instr.indexAt t v (i64 i)) λp=>aD prog S (Instr.fieldAt s p f) λq=>aD prog S (Instr.loadAt ft q) L:=by
 obtain ⟨cs,h1,h2⟩:=hs;obtain ⟨row,h3,h4⟩:=h2 i e hi;have hlt:i < l.length:=(List.getElem?_eq_some_iff.1 hi).1;obtain ⟨u,hu,ho,hK⟩:=hk row h4;obtain ⟨e',z,b',hte,hinf⟩:=h;obtain ⟨d,hd,ha⟩:=hl;obtain ⟨b,off,cap,rfl,hcell⟩:=h1.there (by omega)
 have hu':cs[i*sz+o]?=some u:=by
  rw [<- h3,List.getElem?_take,if_pos ho,List.getElem?_drop] at hu;exact hu
 have hc:=hcell _ _ hu';rw [<- Nat.add_assoc] at hc;refine aD.ok (λw' _=>gE hte hinf (by omega) (by omega)) (aD.ok (λw' _=>hf.ex w' b _) (aD.ok (λw' hw=>jX hd ha ?_) hK));have:=(hx w' hw).cell hc;simpa using this
theorem WW (l:List Int):(l.map i64).all cB=true:=List.all_eq_true.2 λv hv=>by obtain ⟨x,_,rfl⟩:=List.mem_map.1 hv;rfl
theorem aDw {l:List Int} (h:l.length=1):l=[bI l 0]:=by
 match l,h with
 | [a],_=>rfl
theorem aMj {l:List Int} (h:l.length=3):l=[bI l 0,bI l 1,bI l 2]:=by
 match l,h with
 | [a,b,c],_=>rfl
theorem rM {l:List Int} {j:Nat} (h:j < l.length):l[j]?=some (bI l j):=eF h
def sV (i:bF) (m:gU) (x:gP) (l:List Int):Prop:=pG x (bC i m x) l=true/\qY x (bC i m x) l=false
theorem zG {op b:Int} {l:List Int} (h:op≠22/\op≠30/\op≠31/\op≠36):sV i m ⟨op,a,b⟩ l↔iL (bC i m ⟨op,a,b⟩) l=true/\gY (bC i m ⟨op,a,b⟩) l=false:=by
 unfold sV pG qY;dsimp only;rw [if_neg h.1,if_neg h.1,if_neg h.2.1,if_neg h.2.2.1,if_neg h.2.2.2];simp
theorem NY {D z:Bool} (h:(A||B)=false↔D=true/\S=false):(A||(B||z))=false↔D=true/\(S||z)=false:=by
 revert h;cases A<;>cases B<;>cases D<;>cases S<;>cases z<;>simp
theorem aNd (h0:Kd k0) (h1:Kd k1) (h2:Kd k2):((!dN k0||(dN k1 != dN k2)||(fM k1&&(k1 != k2)))||(fM k1&&zA k0))=false ↔
  (iL [-2,-1,-1] [k0,k1,k2]&&(dN k1&&dN k2||fM k1&&k1 == k2))=true/\(fM k1&&k0 == 2)=false:=by
 rcases kd4 h0 with rfl|rfl|rfl|rfl<;>rcases kd4 h1 with rfl|rfl|rfl|rfl<;>rcases kd4 h2 with rfl|rfl|rfl|rfl<;>decide
theorem aNc (h0:Kd k0) (_:Kd k1) (h2:Kd k2) (h:(A||B)=false↔iL [-4,-3,-2] [k0,k1,k2]=true/\S=false) :
  (A||(B||(decide (k0=3)&&zA k2)))=false↔iL [-4,-3,-2] [k0,k1,k2]=true/\(S||(k0 == 3&&k2 == 2))=false:=by
 rw [NY h];rcases kd4 h0 with rfl|rfl|rfl|rfl<;>rcases kd4 h2 with rfl|rfl|rfl|rfl<;>cases S<;>simp [iL,zM,fM,dN,zA]
theorem ZX (h:i.right) (h0:0<=a) (ha:a < i.methods.length):nI (i.meth a).params:=(h.2.2.1.2.1 _ (bF.meth_mem h0 ha)).1.1
theorem aEk (h:i.right) (h0:0<=a) (ha:a < i.imports.length):nI (i.imp a).params:=(h.2.1.2 _ (bF.imp_mem h0 ha)).2.1.1
theorem aNq {p:bP} {row:List O} {x:gP} {sv:O} {s:List Int} (h:iG w p i) (hm:jO w row m) (hx:BA i m x) (hs:aU w sv s) (ks:nI s) (h8:s.length<=8)
  (yes:∀ out v w',ID i m x s=some out->w'.ownsRow w.heap.size 3 1 v out.length (out.map i64)->aG w w'->K (.tuple #[v,i64 0]) w') (no:∀ e w',ID i m x s=none->e≠0->aG w w'->K (.tuple #[bT,i64 e]) w') :
  aC prog 113 #[p.val i,.agg row.toArray,.agg #[i64 x.op,i64 x.a,i64 x.b],sv] w K:=by
 obtain ⟨op,a,b⟩:=x;have hx0:=hx;obtain ⟨ir,mr,⟨ho,a1,a2,_⟩,hn⟩:=hx;dsimp only at ho a1 a2;have hm0:=hm;obtain ⟨pv,lv,cv,rfl,hp,hl,hc⟩:=hm;apply aIy;unfold LQ bP.val;refine bx λb1 w1 hb1 x1=>?_;refine bx λb2 w2 hb2 x2=>?_;refine bx λb3 w3 hb3 x3=>?_;have hb1:=(hb1.ext x2).ext x3;have hb2:gD w3 b2 [pv,i64 m.result,lv,cv]:=hb2.ext x3;have xx:=(x1.trans x2).trans x3;refine qO hb1 kQ rfl (qO hb2 oK rfl (qO hb3 pR rfl ?_));refine PH (h.ext xx) (hm0.ext xx) hx0 λw4 x4=>?_;have xx4:=xx.trans x4;refine gG aM (hs.ext xx4) (aV.2 (aK (λhlt=>?_) λhge=>?_))
 ·refine no 10 _ ?_ (by decide) xx4;unfold ID;dsimp only;rw [if_pos (.inl (by omega))]
 refine gG aM (hs.ext xx4) (jV.2 ?_);rw [aX (by omega),show (s.length:Int) - ((bC i m ⟨op,a,b⟩).length:Int)=((s.length - (bC i m ⟨op,a,b⟩).length:Nat):Int) by omega];obtain ⟨tv,trun,tsl⟩:=vV underlying42 fK (hs.ext xx4) (lo:=some (.int .i64 ((s.length - (bC i m ⟨op,a,b⟩).length:Nat):Int))) (hi':=none) (a:=s.length - (bC i m ⟨op,a,b⟩).length) (b:=s.length) (.inr rfl) (.inl ⟨rfl,rfl⟩) (by omega) (Nat.le_refl _);refine V.ok (trun _) ?_;refine gG aM (hs.ext xx4) (jV.2 ?_);rw [aX (by omega),show (s.length:Int) - ((bC i m ⟨op,a,b⟩).length:Int)=((s.length - (bC i m ⟨op,a,b⟩).length:Nat):Int) by omega];obtain ⟨uv,urun,usl⟩:=vV underlying42 fK (hs.ext xx4) (lo:=none) (hi':=some (.int .i64 ((s.length - (bC i m ⟨op,a,b⟩).length:Nat):Int))) (a:=0) (b:=s.length - (bC i m ⟨op,a,b⟩).length) (.inl ⟨rfl,rfl⟩) (.inr rfl) (by omega) (by omega);refine V.ok (urun _) ?_
 have hu4:aB w4 uv 1 (s.length - (bC i m ⟨op,a,b⟩).length) ((s.take (s.length - (bC i m ⟨op,a,b⟩).length)).map i64):=by
  have:=usl _ (hs.ext xx4);simpa [List.map_take] using this
 have ht4:aU w4 tv (s.drop (s.length - (bC i m ⟨op,a,b⟩).length)):=by
  have:=tsl _ (hs.ext xx4);unfold aU;rw [List.length_drop,List.map_drop];have e2:((s.map i64).drop (s.length - (bC i m ⟨op,a,b⟩).length)).take (s.length - (s.length - (bC i m ⟨op,a,b⟩).length))=(s.map i64).drop (s.length - (bC i m ⟨op,a,b⟩).length):=List.take_of_length_le (by simp)
  rwa [e2] at this
 refine gG aM hu4 ?_;refine qO (hb1.ext x4) kQ rfl (qO (hb3.ext x4) pR rfl ?_);refine RS (h.ext xx4) hx0 λw5 x5=>bW.2 ?_;have xx5:=xx4.trans x5
 have hh2:hgt i m ⟨op,a,b⟩<=2:=by
  unfold hgt;rcases VN ho with rfl|rfl|rfl|rfl|rfl|rfl|rfl|rfl|rfl|rfl|rfl|rfl|rfl|rfl|rfl|rfl|rfl|rfl|rfl|rfl|rfl|rfl|rfl|rfl|rfl|rfl|rfl|rfl|rfl|rfl|rfl|rfl|rfl|rfl|rfl|rfl|rfl|rfl|rfl<;>first|exact Nat.zero_le _|exact Nat.le_succ 1|exact Nat.le_refl _|exact Nat.le_succ_of_le (YP _)
 rw [aX (by omega)];refine dR.2 (aK (λhgt8=>?_) λhle8=>?_)
 ·refine no 10 _ ?_ (by decide) xx5;unfold ID;dsimp only;rw [if_pos (.inr (by omega))]
 have hdo:∀ {l},l=s.drop (s.length - (bC i m ⟨op,a,b⟩).length)->ID i m ⟨op,a,b⟩ s=if pG ⟨op,a,b⟩ (bC i m ⟨op,a,b⟩) l=true/\qY ⟨op,a,b⟩ (bC i m ⟨op,a,b⟩) l=false then some (s.take (s.length - (bC i m ⟨op,a,b⟩).length)++jZ i m ⟨op,a,b⟩ l) else none:=by
  rintro _ rfl;unfold ID;dsimp only;rw [if_neg (by omega)]
 have hkl:nI (s.drop (s.length - (bC i m ⟨op,a,b⟩).length)):=λk hk=>ks k (List.mem_of_mem_drop hk);have hll:(s.drop (s.length - (bC i m ⟨op,a,b⟩).length)).length=(bC i m ⟨op,a,b⟩).length:=by rw [List.length_drop];omega
 have ht5:=ht4.ext x5;generalize hL:s.drop (s.length - (bC i m ⟨op,a,b⟩).length)=l at ht5 hkl hll;have hdo:=hdo hL.symm;refine bld aOg [] rfl rfl ?_;refine tH λw6 hW0 x6=>?_;have x36:=(x4.trans x5).trans x6;have hb1:=hb1.ext x36;have hb2:=hb2.ext x36;have hb3:=hb3.ext x36;have xx6:=xx5.trans x6;have hg0:w5.heap.size<=w5.heap.size:=Nat.le_refl _;generalize hg:w5.heap.size=g at hW0 hg0;have hW0:Wr w6 g false false:=hW0;have f1:=(h.ext xx5);have f2:=hm0.ext xx5;have fb1:∀ {w'},aG w5 w'->gD w' b1 [.string i.name,p.fv,p.iv,p.mv,p.xv]:=λhx=>(((‹gD w3 b1 _›).ext x4).ext x5).ext hx;have fb2:∀ {w'},aG w5 w'->gD w' b2 [pv,i64 m.result,lv,cv]:=λhx=>(((‹gD w3 b2 [pv,i64 m.result,lv,cv]›).ext x4).ext x5).ext hx;have fb3:∀ {w'},aG w5 w'->gD w' b3 [i64 op,i64 a,i64 b]:=λhx=>(((‹gD w3 b3 _›).ext x4).ext x5).ext hx;have hgs:w5.heap.size<=g:=by omega
 refine bA hb3 bK aL rfl (CE ho ?_);obtain ⟨pc1,pc2,pc3⟩:=aDr (i:=i) (m:=m) (a:=a) (b:=b) ho;refine ⟨λv w'=>∃ j:Nat,v=i64 j/\j<=(fO op).length/\aG w5 w'/\Wr w' g (mZ ((fO op).take j) (l.take j)) (oO ((fO op).take j) (l.take j)),λv _=>(fO op).length - (RowKit.intOf v).toNat,⟨0,rfl,Nat.zero_le _,x6,hW0⟩,?_⟩;rintro _ w7 ⟨j,rfl,hj,x7,hW⟩ _;refine V.ok (sG underlying9) (aV.2 (aK (λhlt=>?_) λhge=>?_))
 ·have hlt':j < (fO op).length:=by simpa [ByteArray.size] using hlt
  obtain ⟨c,hc1⟩:∃ c,(fO op)[j]?=some c:=⟨_,List.getElem?_eq_getElem hlt'⟩;have hk1:=rM (l:=l) (j:=j) (by omega);have hkd:=hkl _ (List.mem_of_getElem? hk1);have eK:=CG hc1 hk1;have eL:=CF hc1 hk1;generalize mZ ((fO op).take j) (l.take j)=A at hW eK;generalize oO ((fO op).take j) (l.take j)=B at hW eL
  have hsc:(⟨(fO op).toArray⟩:ByteArray)[j]?=some c:=by
   rw [List.getElem?_eq_some_iff] at hc1;obtain ⟨hq,he⟩:=hc1;rw [getElem?_pos _ _ (by simpa [ByteArray.size] using hq)];exact congrArg some he
  refine V.ok (uC underlying9 hsc) (aF.2 ?_)
  have go:∀ {w'} {A' B'},aG w5 w'->Wr w' g A' B'->A'=mZ ((fO op).take (j+1)) (l.take (j+1))->B'=oO ((fO op).take (j+1)) (l.take (j+1))->V prog (binOp .add 3 (i64 j) (i64 1)) w' λt w2=>
    (∃ j:Nat,t=i64 j/\j<=(fO op).length/\aG w5 w2/\Wr w2 g (mZ ((fO op).take j) (l.take j)) (oO ((fO op).take j) (l.take j)))/\(fO op).length - (RowKit.intOf t).toNat < (fO op).length - (RowKit.intOf (i64 (j:Int))).toNat:=by
   intro w' A' B' hx hw e1 e2;subst e1 e2;refine bW.2 ?_;have:(fO op).length<=8:=by omega
   rw [aX (by omega),dF];exact ⟨⟨j+1,rfl,by omega,hx,hw⟩,by simp only [aT];omega⟩
  by_cases h97:c=97
  ·subst h97;simp only [show (((97:UInt8).toNat:Nat):Int)=97 from rfl,aY];refine ⟨.inl ⟨_,rfl⟩,bA hW.boxed dP oH rfl ?_⟩;rw [if_pos rfl] at eK;simp only [show ((97:UInt8) == 112)=false from rfl,Bool.false_and,Bool.or_false] at eL
   have st:∀ v,v=mZ ((fO op).take (j+1)) (l.take (j+1))->V prog (Instr.fieldAt 266 (.pointer (some ⟨g,0,none⟩)) 0) w7 λt76 w43=>U prog (Instr.storeAt 4 t76 (.bool v)) w43 λ_ w44=>V prog (binOp .add 3 (i64 j) (i64 1)) w44 λt w2=>
    (∃ j:Nat,t=i64 j/\j<=(fO op).length/\aG w5 w2/\Wr w2 g (mZ ((fO op).take j) (l.take j)) (oO ((fO op).take j) (l.take j)))/\(fO op).length - (RowKit.intOf t).toNat < (fO op).length - (RowKit.intOf (i64 (j:Int))).toNat:=by
    rintro v hv;refine BG dP pX hW (n:=2) rfl (by decide) rfl ?_;exact go (x7.setCell hgs _) (hW.set 0 _) hv eL.symm
   cases A with
   | true=>simp only [aY];exact ⟨.inl ⟨_,rfl⟩,st _ (by rw [eK];rfl)⟩
   | false=>
    simp only [aY];refine nO aM aL (ht5.ext x7) (by omega) (by omega) (fQ hk1) (rA (fN.2 ?_));exact ⟨.inl ⟨_,rfl⟩,st _ (by rw [eK];rfl)⟩
  ·have hcn:¬ ((c.toNat:Int)=97):=λe=>h97 (by
    apply UInt8.toNat_inj.1;have:c.toNat=97:=by omega
    exact this)
   simp only [hcn,aY];rw [if_neg h97] at eK;refine ⟨.inl ⟨_,rfl⟩,bA hW.boxed dP oH rfl ?_⟩
   have second:∀ {w1},aG w5 w1->Wr w1 g (mZ ((fO op).take (j+1)) (l.take (j+1))) B->∀ v,v=oO ((fO op).take (j+1)) (l.take (j+1))->V prog (Instr.fieldAt 266 (.pointer (some ⟨g,0,none⟩)) 1) w1 λt76 w43=>U prog (Instr.storeAt 4 t76 (.bool v)) w43 λ_ w44=>V prog (binOp .add 3 (i64 j) (i64 1)) w44 λt w2=>
    (∃ j:Nat,t=i64 j/\j<=(fO op).length/\aG w5 w2/\Wr w2 g (mZ ((fO op).take j) (l.take j)) (oO ((fO op).take j) (l.take j)))/\(fO op).length - (RowKit.intOf t).toNat < (fO op).length - (RowKit.intOf (i64 (j:Int))).toNat:=by
    rintro w1 hx hw v hv;refine BG dO pX hw (n:=2) rfl (by decide) rfl ?_;exact go (hx.setCell hgs _) (hw.set 1 _) rfl hv
   have kpart:∀ v,v=mZ ((fO op).take (j+1)) (l.take (j+1))->aG w5 (w7.setCell ⟨g,0,none⟩ (.bool v))/\Wr (w7.setCell ⟨g,0,none⟩ (.bool v)) g (mZ ((fO op).take (j+1)) (l.take (j+1))) B:=by
    rintro _ rfl;exact ⟨x7.setCell hgs _,hW.set 0 _⟩
   have hch:c=112\/c=105:=by
    rcases pc1 c (List.mem_of_getElem? hc1) with h1|h1|h1
    ·exact absurd h1 h97
    ·exact .inl h1
    ·exact .inr h1
   cases A with
   | true=>
    simp only [aY];refine ⟨.inl ⟨_,rfl⟩,?_⟩;refine BG dP pX hW (n:=2) rfl (by decide) rfl ⟨.inl ⟨_,rfl⟩,?_⟩;obtain ⟨kx,kw⟩:=kpart true (by rw [eK];rfl);refine bA kw.boxed dO oH rfl ?_;cases B with
    | true=>simp only [aY];exact ⟨.inl ⟨_,rfl⟩,second kx kw _ (by rw [eL];rfl)⟩
    | false=>
     simp only [aY];refine V.ok (uC underlying9 hsc) (aF.2 ?_);rcases hch with rfl|rfl
     ·simp only [show (((112:UInt8).toNat:Nat):Int)=112 from rfl,aY];refine nO aM aL (ht5.ext kx) (by omega) (by omega) (fQ hk1) (xG ?_);exact ⟨.inl ⟨_,rfl⟩,second kx kw _ (by rw [eL];rfl)⟩
     ·simp only [show (((105:UInt8).toNat:Nat):Int)=105 from rfl,aY,Int.reduceEq];exact ⟨.inl ⟨_,rfl⟩,second kx kw _ (by rw [eL];rfl)⟩
   | false=>
    simp only [aY];refine nO aM aL (ht5.ext x7) (by omega) (by omega) (fQ hk1) (qZ (fN.2 ?_));refine ⟨.inl ⟨_,rfl⟩,?_⟩;refine BG dP pX hW (n:=2) rfl (by decide) rfl ⟨.inl ⟨_,rfl⟩,?_⟩;obtain ⟨kx,kw⟩:=kpart (!dN (bI l j)) (by rw [eK];rfl);refine bA kw.boxed dO oH rfl ?_;cases B with
    | true=>simp only [aY];exact ⟨.inl ⟨_,rfl⟩,second kx kw _ (by rw [eL];rfl)⟩
    | false=>
     simp only [aY];refine V.ok (uC underlying9 hsc) (aF.2 ?_);rcases hch with rfl|rfl
     ·simp only [show (((112:UInt8).toNat:Nat):Int)=112 from rfl,aY];refine nO aM aL (ht5.ext kx) (by omega) (by omega) (fQ hk1) (xG ?_);exact ⟨.inl ⟨_,rfl⟩,second kx kw _ (by rw [eL];rfl)⟩
     ·simp only [show (((105:UInt8).toNat:Nat):Int)=105 from rfl,aY,Int.reduceEq];exact ⟨.inl ⟨_,rfl⟩,second kx kw _ (by rw [eL];rfl)⟩
 have hjl:j=(fO op).length:=by
  have:¬ j < (fO op).length:=λhh=>hge (by simpa [ByteArray.size] using hh);omega
 subst hjl;rw [List.take_length] at hW;have J:∀ {w' kf lf},aG w5 w'->Wr w' g kf lf->((kf||lf)=false↔sV i m ⟨op,a,b⟩ l)->∃ kf lf,Wr w' g kf lf/\aG w5 w'/\((kf||lf)=false↔sV i m ⟨op,a,b⟩ l):=λh1 h2 h3=>⟨_,_,h2,h1,h3⟩
 have rd:∀ {w' n u K},aG w5 w'->n < l.length->u=i64 (bI l n)->K u w'->V prog (Instr.indexAt 42 tv (i64 (n:Nat))) w' λp w1=>V prog (Instr.loadAt 3 p) w1 K:=λ{w' n u K} hx hn hu hK=>by
  subst hu;exact nO aM aL (ht5.ext hx) (by omega) (by omega) (fQ (rM hn)) hK
 refine ⟨λw'=>∃ kf lf,Wr w' g kf lf/\aG w5 w'/\((kf||lf)=false↔sV i m ⟨op,a,b⟩ l),?_,?_⟩
 ·refine bA (fb3 x7) bK aL rfl ?_;by_cases c3:op=3
  ·subst c3;have a1:0<=a:=a1;have hna:a < (m.locs.length:Int):=hn;have hl1:l.length=1:=hll;have hkd:=vI (RB mr) (k:=a.toNat) (by omega);have hk0:=nB hkl (n:=0) (by omega);simp only [aY,Int.reduceEq];refine qO (fb2 x7) oK rfl ?_;refine bA (fb3 x7) aW aL rfl ?_;refine EE (f2.ext x7) mr a1 λw8 x8=>cL.2 (cK.2 ?_);refine rd (n:=0) (x7.trans x8) (by omega) rfl ?_;refine zB hk0 hkd ?_;refine vL (bD.ext hW x8) λw9 hW9 hx9=>J (hx9 _ (x7.trans x8) hgs) hW9 ?_;rw [zG ⟨by decide,by decide,by decide,by decide⟩,aDw hl1];have:=inA (t:=[m.locs.getD a.toNat 0]) (l:=[bI l 0]) (by intro k hk;rw [List.mem_singleton] at hk;subst hk;exact hkd) (by intro k hk;rw [List.mem_singleton] at hk;subst hk;exact hk0);simp only [NT,NS,Bool.or_false] at this;exact this
  by_cases c34:op=34
  ·subst c34;have a1:0<=a:=a1;have hna:a < (i.fields.length:Int):=hn;have hl1:l.length=1:=hll;have hkd:=vI ir.1.1 (k:=a.toNat) (by omega);have hk0:=nB hkl (n:=0) (by omega);simp only [aY,Int.reduceEq];have D1:aG w7 w7.drew:=(aG.refl _).drew;have xd:=x7.trans D1;refine aH.mk' (λw'=>aG w5 w') xd ?_;refine gF aM aL ht5 (λ_ h=>h) (by omega) (by omega) (fQ (j:=0) (rM (by omega))) ?_;refine dT (λw' hw=>fb1 hw) jH aZ rfl ?_;refine dT (λw' hw=>fb3 hw) aW aL rfl ?_;obtain ⟨ka,hka⟩:∃ ka:Nat,a=ka:=⟨a.toNat,by omega⟩;have hfi:i.fields[ka]?=some (i.fields.getD a.toNat 0):=by rw [hka,Int.toNat_natCast];exact eF (by omega)
   refine gF aM aL f1.fl (λ_ h=>h) a1 hna (by rw [hka];exact fQ hfi) ?_;refine zB hk0 hkd ⟨xd,?_⟩;refine vL (bD.ext hW D1) λw9 hW9 hx9=>J (hx9 _ xd hgs) hW9 ?_;rw [zG ⟨by decide,by decide,by decide,by decide⟩,aDw hl1];have:=inA (t:=[i.fields.getD a.toNat 0]) (l:=[bI l 0]) (by intro k hk;rw [List.mem_singleton] at hk;subst hk;exact hkd) (by intro k hk;rw [List.mem_singleton] at hk;subst hk;exact hk0);simp only [NT,NS,Bool.or_false] at this;exact this
  by_cases c22:op=22
  ·subst c22;have hl3:l.length=3:=hll;have hk0:=nB hkl (n:=0) (by omega);have hk1:=nB hkl (n:=1) (by omega);have hk2:=nB hkl (n:=2) (by omega)
   have hgood:sV i m ⟨22,a,b⟩ l↔(iL [-2,-1,-1] [bI l 0,bI l 1,bI l 2]&&(dN (bI l 1)&&dN (bI l 2)||fM (bI l 1)&&bI l 1 == bI l 2))=true/\(fM (bI l 1)&&bI l 0 == 2)=false:=by
    have e:sV i m ⟨22,a,b⟩ l=((iL [-2,-1,-1] l&&(dN (bI l 1)&&dN (bI l 2)||fM (bI l 1)&&bI l 1 == bI l 2))=true/\(fM (bI l 1)&&bI l 0 == 2)=false):=rfl;rw [e,<- aMj hl3]
   have hf:=(aNd hk0 hk1 hk2).trans hgood.symm;have hW:Wr w7 g false false:=hW;simp only [aY,Int.reduceEq];have D1:aG w7 w7.drew:=(aG.refl _).drew;have xd:=x7.trans D1;have hWd:Wr w7.drew g false false:=bD.ext hW D1;refine aH.mk' (λw'=>aG w5 w'/\Wr w' g false false) ⟨xd,hWd⟩ ⟨.inl ⟨_,rfl⟩,?_⟩;refine dT (λw' hw=>(bD.boxed hw.2)) dP oH rfl ?_;simp only [aY];have yr:∀ {n L},n < l.length->L (i64 (bI l n))->aD prog (λw'=>aG w5 w'/\Wr w' g false false) (Instr.indexAt 42 tv (i64 (n:Nat))) λp=>aD prog (λw'=>aG w5 w'/\Wr w' g false false) (Instr.loadAt 3 p) L:=λ{n L} hn hL=>gF aM aL ht5 (λ_ h=>h.1) (by omega) (by omega) (fQ (rM hn)) hL;refine yr (n:=0) (by omega) (qZ ⟨⟨xd,hWd⟩,aD.ok (λw' _=>BS) ?_⟩)
   have leak:∀ (kf:Bool) {w'},kf=(!dN (bI l 0)||(dN (bI l 1) != dN (bI l 2))||(fM (bI l 1)&&(bI l 1 != bI l 2)))->w'=w7.drew.setCell ⟨g,0,none⟩ (.bool kf)->(aG w5 w'/\Wr w' g kf false):=by
    rintro kf _ _ rfl;exact ⟨xd.setCell hgs _,bD.set hWd 0 _⟩
   have fin:∀ (kf lf:Bool) {w'},kf=(!dN (bI l 0)||(dN (bI l 1) != dN (bI l 2))||(fM (bI l 1)&&(bI l 1 != bI l 2)))->lf=(fM (bI l 1)&&zA (bI l 0))->aG w5 w'->Wr w' g kf false ->
     V prog (Instr.fieldAt 266 (.pointer (some ⟨g,0,none⟩)) 1) w' λt204 w117=>U prog (Instr.storeAt 4 t204 (.bool lf)) w117 λ_ w118=>∃ kf lf,Wr w118 g kf lf/\aG w5 w118/\((kf||lf)=false↔sV i m ⟨22,a,b⟩ l):=by
    intro kf lf w' e1 e2 hx hw;refine BG dO pX hw (n:=2) rfl (by decide) rfl ?_;exact J (hx.setCell hgs _) (hw.set 1 _) (by rw [e1,e2];exact hf)
   have rest:∀ (kf:Bool),kf=(!dN (bI l 0)||(dN (bI l 1) != dN (bI l 2))||(fM (bI l 1)&&(bI l 1 != bI l 2)))->aD prog (λw'=>aG w5 w'/\Wr w' g false false) (Instr.fieldAt 266 (.pointer (some ⟨g,0,none⟩)) 0) λt185=>U prog (Instr.storeAt 4 t185 (.bool kf)) w7.drew λ_ w101=>
     Go.Vc.aI (.pointer (some ⟨g,0,none⟩))/\V prog (Instr.fieldAt 266 (.pointer (some ⟨g,0,none⟩)) 1) w101 λt189 w103=>V prog (Instr.loadAt 4 t189) w103 λt190 w104=>
     gd t190 false (λK=>K tv w104) w104 λt192 w105=>gd t190 false (λK=>V prog (Instr.indexAt 42 t192 (i64 1)) w105 K) w105 λt193 w106=>gd t190 false (λK=>V prog (Instr.loadAt 3 t193) w106 K) w106 λt194 w107=>gd t190 false (λK=>aC prog 147 #[t194] w107 K) w107 λt195 w108=>
     gd t190 false (λK=>K t195 w108) w108 λt196 w109=>gd t196 true (λK=>K tv w109) w109 λt197 w110=>gd t196 true (λK=>V prog (Instr.indexAt 42 t197 (i64 0)) w110 K) w110 λt198 w111=>gd t196 true (λK=>V prog (Instr.loadAt 3 t198) w111 K) w111 λt199 w112=>
     gd t196 true (λK=>aC prog 149 #[t199] w112 K) w112 λt200 w113=>gd t190 false (λK=>aN t196 t200 (.bool false) λv=>K v w113) w113 λt201 w114=>aN t190 (.bool true) t201 λt202=>
     Go.Vc.aI (.pointer (some ⟨g,0,none⟩))/\V prog (Instr.fieldAt 266 (.pointer (some ⟨g,0,none⟩)) 1) w114 λt204 w117=>U prog (Instr.storeAt 4 t204 t202) w117 λ_ w118=>∃ kf lf,Wr w118 g kf lf/\aG w5 w118/\((kf||lf)=false↔sV i m ⟨22,a,b⟩ l):=by
    intro kf e1;refine aD.ok (λw' _=>(dP:FA prog 266 0 0).ex w' g 0) ?_;refine wX pX hWd (n:=2) rfl (o:=0) (by decide) rfl ⟨.inl ⟨_,rfl⟩,?_⟩;obtain ⟨lx,lw⟩:=leak kf e1 rfl;refine bA lw.boxed dO oH rfl ?_;simp only [aY];refine rd (n:=1) lx (by omega) rfl (rA ?_);cases hz:fM (bI l 1) with
    | false=>simp only [aY];exact ⟨.inl ⟨_,rfl⟩,fin kf _ e1 (by rw [hz];rfl) lx lw⟩
    | true=>
     simp only [aY];refine rd (n:=0) lx (by omega) rfl (xG ?_);exact ⟨.inl ⟨_,rfl⟩,fin kf _ e1 (by rw [hz];rfl) lx lw⟩
   cases i0:dN (bI l 0) with
   | false=>
    simp only [aY];exact ⟨⟨xd,hWd⟩,⟨xd,hWd⟩,⟨xd,hWd⟩,.inl ⟨_,rfl⟩,rest _ (by rw [i0];rfl)⟩
   | true=>
    simp only [aY];refine yr (n:=1) (by omega) (yr (n:=2) (by omega) ?_);refine qZ ⟨⟨xd,hWd⟩,qZ ⟨⟨xd,hWd⟩,aD.ok (λw' _=>YT) ?_⟩⟩;cases i12:(dN (bI l 1) != dN (bI l 2)) with
    | true=>
     simp only [aY];exact ⟨⟨xd,hWd⟩,.inl ⟨_,rfl⟩,rest _ (by rw [i0,i12];rfl)⟩
    | false=>
     simp only [aY];refine yr (n:=1) (by omega) (rA ⟨⟨xd,hWd⟩,?_⟩);cases a1':fM (bI l 1) with
     | false=>simp only [aY];exact ⟨.inl ⟨_,rfl⟩,rest _ (by rw [i0,i12,a1'];rfl)⟩
     | true=>
      simp only [aY];refine yr (n:=1) (by omega) (yr (n:=2) (by omega) (aD.ok (λw' _=>lR) ?_));exact ⟨.inl ⟨_,rfl⟩,rest _ (by rw [i0,i12,a1'];by_cases hq:bI l 1=bI l 2<;>simp [hq])⟩
  have hP:=aSs (p:=fO op) (l:=l) pc1 hkl
  have st1:∀ (kf lf:Bool) {w'},((kf||lf)=false↔sV i m ⟨op,a,b⟩ l)->(∃ lf0,Wr w' g kf lf0)->aG w5 w' ->
    V prog (Instr.fieldAt 266 (.pointer (some ⟨g,0,none⟩)) 1) w' λt204 w117=>U prog (Instr.storeAt 4 t204 (.bool lf)) w117 λ_ w118=>∃ kf lf,Wr w118 g kf lf/\aG w5 w118/\((kf||lf)=false↔sV i m ⟨op,a,b⟩ l):=by
   rintro kf lf w' hf ⟨lf0,hw⟩ hx;refine BG dO pX hw (n:=2) rfl (by decide) rfl ?_;exact J (hx.setCell hgs _) (hw.set 1 _) hf
  by_cases c30:op=30
  ·subst c30;have hl3:l.length=3:=hll;have hk0:=nB hkl (n:=0) (by omega);have hk1:=nB hkl (n:=1) (by omega);have hk2:=nB hkl (n:=2) (by omega);have e3:l.take (fO 30).length=l:=List.take_of_length_le (by rw [hl3];exact Nat.le_refl _);rw [e3] at hW
   have hgood:sV i m ⟨30,a,b⟩ l↔iL [-4,-3,-2] [bI l 0,bI l 1,bI l 2]=true/\(gY [-4,-3,-2] [bI l 0,bI l 1,bI l 2]||(bI l 0 == 3&&bI l 2 == 2))=false:=by
    rw [<- aMj hl3];unfold sV pG qY;dsimp only;rw [if_neg (by decide),if_neg (by decide),if_pos rfl,show bC i m ⟨30,a,b⟩=[-4,-3,-2] from rfl,Bool.and_true]
   have hP:(mZ (fO 30) l||oO (fO 30) l)=false↔iL [-4,-3,-2] [bI l 0,bI l 1,bI l 2]=true/\gY [-4,-3,-2] [bI l 0,bI l 1,bI l 2]=false:=by
    rw [<- aMj hl3];exact hP
   have hz:=(aNc hk0 hk1 hk2 hP).trans hgood.symm;generalize mZ (fO 30) l=A at hW hz;generalize oO (fO 30) l=B at hW hz;simp only [aY,Int.reduceEq];refine ⟨.inl ⟨_,rfl⟩,bA hW.boxed dO oH rfl ?_⟩;cases B with
   | true=>simp only [aY];exact ⟨.inl ⟨_,rfl⟩,st1 A _ (by simpa using hz) ⟨_,hW⟩ x7⟩
   | false=>
    simp only [aY];refine rd (n:=0) x7 (by omega) rfl (aF.2 ?_);by_cases z0:bI l 0=3
    ·simp only [z0,aY];refine rd (n:=2) x7 (by omega) rfl (xG ?_);exact ⟨.inl ⟨_,rfl⟩,st1 A _ (by simpa [z0] using hz) ⟨_,hW⟩ x7⟩
    ·simp only [z0,aY];exact ⟨.inl ⟨_,rfl⟩,st1 A _ (by simpa [z0] using hz) ⟨_,hW⟩ x7⟩
  by_cases c31:op=31
  ·subst c31;have hl5:l.length=5:=hll;have e3:l.take (fO 31).length=l:=List.take_of_length_le (by rw [hl5];exact Nat.le_refl _);rw [e3] at hW
   have hgood:sV i m ⟨31,a,b⟩ l↔iL [-4,-3,-4,-3,-3] l=true/\(gY [-4,-3,-4,-3,-3] l||(bI l 0 == 3&&bI l 2 == 4))=false:=by
    unfold sV pG qY;dsimp only;rw [if_neg (by decide),if_neg (by decide),if_neg (by decide),if_pos rfl,show bC i m ⟨31,a,b⟩=[-4,-3,-4,-3,-3] from rfl,Bool.and_true]
   have hP:(mZ (fO 31) l||oO (fO 31) l)=false↔iL [-4,-3,-4,-3,-3] l=true/\gY [-4,-3,-4,-3,-3] l=false:=hP;have hz:=(NY (z:=(bI l 0 == 3&&bI l 2 == 4)) hP).trans hgood.symm;generalize mZ (fO 31) l=A at hW hz;generalize oO (fO 31) l=B at hW hz;simp only [aY,Int.reduceEq];refine ⟨.inl ⟨_,rfl⟩,bA hW.boxed dO oH rfl ?_⟩;cases B with
   | true=>simp only [aY];exact ⟨.inl ⟨_,rfl⟩,st1 A _ (by simpa using hz) ⟨_,hW⟩ x7⟩
   | false=>
    simp only [aY];refine rd (n:=0) x7 (by omega) rfl (aF.2 ?_);by_cases z0:bI l 0=3
    ·simp only [z0,aY];refine rd (n:=2) x7 (by omega) rfl (aF.2 ?_);exact ⟨.inl ⟨_,rfl⟩,st1 A _ (by simpa [z0] using hz) ⟨_,hW⟩ x7⟩
    ·simp only [z0,aY];exact ⟨.inl ⟨_,rfl⟩,st1 A _ (by simpa [z0] using hz) ⟨_,hW⟩ x7⟩
  by_cases c36:op=36
  ·subst c36;have hl3:l.length=3:=hll;have e3:l.take (fO 36).length=l:=List.take_of_length_le (by rw [hl3];exact Nat.le_refl _);rw [e3] at hW
   have hgood:sV i m ⟨36,a,b⟩ l↔iL [-4,-3,-3] l=true/\(gY [-4,-3,-3] l||(a == 1&&bI l 0 == 4))=false:=by
    unfold sV pG qY;dsimp only;rw [if_neg (by decide),if_neg (by decide),if_neg (by decide),if_neg (by decide),if_pos rfl,show bC i m ⟨36,a,b⟩=[-4,-3,-3] from rfl,Bool.and_true]
   have hP:(mZ (fO 36) l||oO (fO 36) l)=false↔iL [-4,-3,-3] l=true/\gY [-4,-3,-3] l=false:=hP;have hz:=(NY (z:=(a == 1&&bI l 0 == 4)) hP).trans hgood.symm;generalize mZ (fO 36) l=A at hW hz;generalize oO (fO 36) l=B at hW hz;simp only [aY,Int.reduceEq];refine ⟨.inl ⟨_,rfl⟩,bA hW.boxed dO oH rfl ?_⟩;cases B with
   | true=>simp only [aY];exact ⟨.inl ⟨_,rfl⟩,st1 A _ (by simpa using hz) ⟨_,hW⟩ x7⟩
   | false=>
    simp only [aY];refine bA (fb3 x7) aW aL rfl (aF.2 ?_);by_cases z0:a=1
    ·subst z0;simp only [aY];refine rd (n:=0) x7 (by omega) rfl (aF.2 ?_);exact ⟨.inl ⟨_,rfl⟩,st1 A (decide (bI l 0=4)) (by simpa using hz) ⟨_,hW⟩ x7⟩
    ·simp only [z0,aY];exact ⟨.inl ⟨_,rfl⟩,st1 A _ (by simpa [z0] using hz) ⟨_,hW⟩ x7⟩
  by_cases c37:op=37
  ·subst c37;have a1:0<=a:=a1;obtain ⟨ka,rfl⟩:∃ ka:Nat,a=ka:=⟨a.toNat,by omega⟩;have hna:(ka:Int) < (i.methods.length:Int):=hn;have hlp:l.length=(i.meth (ka:Int)).params.length:=hll;have hkp:nI (i.meth (ka:Int)).params:=ZX ir a1 hna;have hW:Wr w7 g false false:=hW;have e3:bC i m ⟨37,(ka:Int),b⟩=(i.meth (ka:Int)).params:=rfl;simp only [aY,Int.reduceEq];refine ⟨λv w'=>∃ j:Nat,v=i64 j/\j<=l.length/\aG w5 w'/\Wr w' g (NT ((i.meth (ka:Int)).params.take j) (l.take j)) (NS ((i.meth (ka:Int)).params.take j) (l.take j)),λv _=>l.length - (RowKit.intOf v).toNat,⟨0,rfl,Nat.zero_le _,x7,hW⟩,?_⟩;rintro _ w8 ⟨j,rfl,hj,x8,hW8⟩ _;rw [e3];refine aV.2 (aK (λhlt=>?_) λhge=>?_)
   ·have hk1:=rM (l:=l) (j:=j) (by omega);obtain ⟨q,hq⟩:=bH (l:=(i.meth (ka:Int)).params) (j:=j) (by omega);have D1:aG w8 w8.drew:=(aG.refl _).drew;have xd:=x8.trans D1;refine aH.mk' (λw'=>aG w5 w') xd ?_;refine gF aM aL ht5 (λ_ h=>h) (by omega) (by omega) (fQ hk1) ?_;refine dT (λw' hw=>fb1 hw) bN gR rfl ?_;refine dT (λw' hw=>fb3 hw) aW aL rfl ?_;have hmi:=pF a1 hna;rw [Int.toNat_natCast] at hmi;refine ySF iJ fB aZ f1.mt (λ_ h=>h) hmi λrow hrow=>?_;obtain ⟨pv9,lv9,cv9,rfl,hp9,_,_⟩:=hrow;refine ⟨pv9,rfl,by decide,?_⟩;refine gF aM aL hp9 (λ_ h=>h) (by omega) (by omega) (fQ hq) ?_;refine zB (hkl _ (List.mem_of_getElem? hk1)) (hkp _ (List.mem_of_getElem? hq)) ⟨xd,?_⟩;refine vL (bD.ext hW8 D1) λw9 hW9 hx9=>⟨hx9 _ xd hgs,bW.2 ?_⟩;rw [aX (by omega),dF];refine ⟨⟨j+1,rfl,by omega,hx9 _ xd hgs,?_⟩,by simp only [aT];omega⟩;rw [zE hq hk1,zD hq hk1];exact hW9
   ·have hjl:j=l.length:=by omega
    subst hjl;rw [List.take_length,hlp,List.take_length] at hW8;refine J x8 hW8 ?_;rw [zG ⟨by decide,by decide,by decide,by decide⟩,e3];exact inA hkp hkl
  by_cases c38:op=38
  ·subst c38;have a1:0<=a:=a1;obtain ⟨ka,rfl⟩:∃ ka:Nat,a=ka:=⟨a.toNat,by omega⟩;have hna:(ka:Int) < (i.imports.length:Int):=hn;have hlp:l.length=(i.imp (ka:Int)).params.length:=hll;have hkp:nI (i.imp (ka:Int)).params:=aEk ir a1 hna;have hW:Wr w7 g false false:=hW;have e3:bC i m ⟨38,(ka:Int),b⟩=(i.imp (ka:Int)).params:=rfl;simp only [aY,Int.reduceEq];refine ⟨λv w'=>∃ j:Nat,v=i64 j/\j<=l.length/\aG w5 w'/\Wr w' g (NT ((i.imp (ka:Int)).params.take j) (l.take j)) (NS ((i.imp (ka:Int)).params.take j) (l.take j)),λv _=>l.length - (RowKit.intOf v).toNat,⟨0,rfl,Nat.zero_le _,x7,hW⟩,?_⟩;rintro _ w8 ⟨j,rfl,hj,x8,hW8⟩ _;rw [e3];refine aV.2 (aK (λhlt=>?_) λhge=>?_)
   ·have hk1:=rM (l:=l) (j:=j) (by omega);obtain ⟨q,hq⟩:=bH (l:=(i.imp (ka:Int)).params) (j:=j) (by omega);have D1:aG w8 w8.drew:=(aG.refl _).drew;have xd:=x8.trans D1;refine aH.mk' (λw'=>aG w5 w') xd ?_;refine gF aM aL ht5 (λ_ h=>h) (by omega) (by omega) (fQ hk1) ?_;refine dT (λw' hw=>fb1 hw) dC lA rfl ?_;refine dT (λw' hw=>fb3 hw) aW aL rfl ?_;have hmi:=xI a1 hna;rw [Int.toNat_natCast] at hmi;refine ySF mG cM aZ f1.im (λ_ h=>h) hmi λrow hrow=>?_;obtain ⟨pv9,rfl,hp9⟩:=hrow;refine ⟨pv9,rfl,by decide,?_⟩;refine gF aM aL hp9 (λ_ h=>h) (by omega) (by omega) (fQ hq) ?_;refine zB (hkl _ (List.mem_of_getElem? hk1)) (hkp _ (List.mem_of_getElem? hq)) ⟨xd,?_⟩;refine vL (bD.ext hW8 D1) λw9 hW9 hx9=>⟨hx9 _ xd hgs,bW.2 ?_⟩;rw [aX (by omega),dF];refine ⟨⟨j+1,rfl,by omega,hx9 _ xd hgs,?_⟩,by simp only [aT];omega⟩;rw [zE hq hk1,zD hq hk1];exact hW9
   ·have hjl:j=l.length:=by omega
    subst hjl;rw [List.take_length,hlp,List.take_length] at hW8;refine J x8 hW8 ?_;rw [zG ⟨by decide,by decide,by decide,by decide⟩,e3];exact inA hkp hkl
  by_cases c39:op=39
  ·subst c39;have hW:Wr w7 g false false:=hW;have e3:bC i m ⟨39,a,b⟩=jP m.result:=rfl;simp only [aY,Int.reduceEq];rw [e3] at hll ⊢;by_cases hr:m.result=0
   ·have e4:jP m.result=[]:=by unfold jP;rw [if_pos hr]
    have hll0:l.length=0:=by rw [hll,e4];rfl
    simp only [e4,List.length_nil,Int.natCast_zero,aY,Int.reduceGT];refine J x7 hW ?_;rw [zG ⟨by decide,by decide,by decide,by decide⟩,e3,e4];simp [iL,gY]
   ·have e4:jP m.result=[m.result]:=by unfold jP;rw [if_neg hr]
    have hl1:l.length=1:=by rw [hll,e4];rfl
    have hk0:=nB hkl (n:=0) (by omega);have hkr:Kd m.result:=by have:=mr.2.1;unfold Kd;omega
    simp only [e4,List.length_cons,List.length_nil,Nat.zero_add,Int.natCast_one,aY,Int.reduceGT];have D1:aG w7 w7.drew:=(aG.refl _).drew;have xd:=x7.trans D1;refine aH.mk' (λw'=>aG w5 w') xd ?_;refine gF aM aL ht5 (λ_ h=>h) (by omega) (by omega) (fQ (j:=0) (rM (by omega))) ?_;refine dT (λw' hw=>fb2 hw) jE aL rfl ?_;refine zB hk0 hkr ⟨xd,?_⟩;refine vL (bD.ext hW D1) λw9 hW9 hx9=>J (hx9 _ xd hgs) hW9 ?_;rw [zG ⟨by decide,by decide,by decide,by decide⟩,e3,e4,aDw hl1];have:=inA (t:=[m.result]) (l:=[bI l 0]) (by intro k hk;rw [List.mem_singleton] at hk;subst hk;exact hkr) (by intro k hk;rw [List.mem_singleton] at hk;subst hk;exact hk0);simp only [NT,NS,Bool.or_false] at this;exact this
  simp only [c3,c34,c22,c30,c31,c36,c37,c38,c39,aY];refine J x7 hW ?_;rw [zG ⟨c22,c30,c31,c36⟩];by_cases c45:op=4\/op=5
  ·rcases c45 with rfl|rfl
   all_goals
    have hl1:l.length=1:=hll;rw [aDw hl1];simp [mZ,oO,fO,jB,bC,iL,gY,zM,yD]
  ·simp only [not_or] at c45;have e5:=pc3 (by omega);have e6:l.take (fO op).length=l:=List.take_of_length_le (by rw [hll,e5];simp);rw [e5,e6];exact hP
 ·rintro w8 ⟨kf,lf,hW8,x8,hgood⟩ _;refine ⟨.inl ⟨_,rfl⟩,bA hW8.boxed dP oH rfl ?_⟩
  have bad:(kf||lf)=true->ID i m ⟨op,a,b⟩ s=none:=λhb=>by
   rw [hdo,if_neg];intro hgd;have:=hgood.2 hgd;rw [hb] at this;cases this
  cases kf with
  | true=>simp only [aY];exact no 11 _ (bad rfl) (by decide) (xx5.trans x8)
  | false=>
  simp only [aY];refine ⟨.inl ⟨_,rfl⟩,bA hW8.boxed dO oH rfl ?_⟩;cases lf with
  | true=>simp only [aY];exact no 12 _ (bad rfl) (by decide) (xx5.trans x8)
  | false=>
  simp only [aY]
  have hd2:ID i m ⟨op,a,b⟩ s=some (s.take (s.length - (bC i m ⟨op,a,b⟩).length)++jZ i m ⟨op,a,b⟩ l):=by
   have hgd:pG ⟨op,a,b⟩ (bC i m ⟨op,a,b⟩) l=true/\qY ⟨op,a,b⟩ (bC i m ⟨op,a,b⟩) l=false:=hgood.1 rfl;rw [hdo,if_pos hgd]
  have D1:aG w8 w8.drew:=(aG.refl _).drew;have xd:=x8.trans D1;refine aH.mk' (λw'=>aG w5 w') xd ?_;refine yA (λw' hw=>fb1 hw) kQ rfl ?_;refine yA (λw' hw=>fb2 hw) oK rfl ?_;refine yA (λw' hw=>fb3 hw) pR rfl ?_;refine mF bU [] rfl rfl (by simp) rfl λv1 w9 ho9 x9=>⟨xd.trans x9,?_⟩;have hul:(s.take (s.length - (bC i m ⟨op,a,b⟩).length)).length=s.length - (bC i m ⟨op,a,b⟩).length:=by rw [List.length_take];omega
  refine WT bU ho9 (hu4.ext ((x5.trans xd).trans x9)) (WW _) (by omega) (by unfold maxLen;omega) x9.size λv2 w10 ho10 hg10=>?_;have x10:aG w8.drew w10:=x9.grown hg10 λk hk=>(ho9.lt k hk).1;have xd10:=xd.trans x10;refine ⟨xd10,?_⟩;refine aAo (f1.ext xd10) (f2.ext xd10) hx0 (ht5.ext xd10) hll λv3 w11 h11 x11=>⟨xd10.trans x11,?_⟩;have hgl:(jZ i m ⟨op,a,b⟩ l).length<=2:=by rw [NU];exact hh2
  refine WT bU (x11.own ho10) h11 (WW _) (by omega) (by unfold maxLen;omega) (x10.trans x11).size λv4 w12 ho12 hg12=>?_;have x12:aG w8.drew w12:=(x10.trans x11).grown hg12 λk hk=>((x11.own ho10).lt k hk).1;refine ⟨xd.trans x12,yes _ v4 w12 hd2 ?_ ((xx5.trans xd).trans x12)⟩;have:=aR ho12 ((xx5.trans xd).size);simp only [List.nil_append] at this;rw [List.length_append,List.map_append,hul];simpa using this
end Go.Proofs.YtgkkecladbmjkaaGreatDoor
namespace Go.Vc
theorem aAb {p:Nat->Prop} (h:∃ n,p n):∃ n,p n/\∀ m,p m->n<=m:=by
 obtain ⟨n,hn⟩:=h;induction n using Nat.strongRecOn with
 | ind n ih=>
  by_cases hm:∃ m,m < n/\p m
  ·obtain ⟨m,h1,h2⟩:=hm;exact ih m h1 h2
  ·refine ⟨n,hn,λm h2=>?_⟩;by_cases hlt:m < n
   ·exact absurd ⟨m,hlt,h2⟩ hm
   ·omega
theorem xQ {P:Program} {w:Ω} {K:O->Ω->Prop} {a b c d:O}:V P (Instr.extract (.tuple #[a,b,c,d]) 0) w K↔K a w:=V.iff (by simp [Instr.extract])
theorem xP {P:Program} {w:Ω} {K:O->Ω->Prop} {a b c d:O}:V P (Instr.extract (.tuple #[a,b,c,d]) 1) w K↔K b w:=V.iff (by simp [Instr.extract])
theorem xO {P:Program} {w:Ω} {K:O->Ω->Prop} {a b c d:O}:V P (Instr.extract (.tuple #[a,b,c,d]) 2) w K↔K c w:=V.iff (by simp [Instr.extract])
theorem xN {P:Program} {w:Ω} {K:O->Ω->Prop} {a b c d:O}:V P (Instr.extract (.tuple #[a,b,c,d]) 3) w K↔K d w:=V.iff (by simp [Instr.extract])
open Classical in
noncomputable def mu (p:Nat->Prop):Nat:=if h:∃ n,p n then Classical.choose (aAb h) else 0
theorem EC {p:Nat->Prop} (h:∃ n,p n):p (mu p):=by
 unfold mu;rw [dif_pos h];exact (Classical.choose_spec (aAb h)).1
theorem ZW {p:Nat->Prop} {n:Nat} (h:p n):mu p<=n:=by
 unfold mu;rw [dif_pos ⟨n,h⟩];exact (Classical.choose_spec (aAb ⟨n,h⟩)).2 n h
end Go.Vc
namespace Go.Tc
theorem zH {n:Nat} {stack:List Int}:∀ {l:List Int} {x:Int} {s:St},kS n stack (l++[x]) s=(kS n stack l s).bind λs'=>pL n s' x stack
 | [],x,s=>by simp [kS]
 | y::l,x,s=>by
  simp only [List.cons_append,kS];cases pL n s y stack with
  | none=>rfl
  | some s1=>exact zH (l:=l)
theorem CU {n:Nat} {stack:List Int}:∀ {l m:List Int} {s:St},kS n stack (l++m) s=(kS n stack l s).bind λs'=>kS n stack m s'
 | [],m,s=>rfl
 | y::l,m,s=>by
  simp only [List.cons_append,kS];cases pL n s y stack with
  | none=>rfl
  | some s1=>exact CU (l:=l)
theorem VQ (x:gP) (pc:Nat):(iU x pc).length<=2:=by
 unfold iU;split
 ·exact Nat.le_succ 1
 split
 ·exact Nat.le_refl _
 split
 ·exact Nat.zero_le _
 ·exact Nat.le_succ 1
theorem OA {n j:Nat} {stack l:List Int} {x:Int} {s s':St} (h1:kS n stack (l.take j) s=some s') (h2:l[j]?=some x) (h3:pL n s' x stack=none):kS n stack l s=none:=by
 have e:l=l.take j++x::l.drop (j+1):=by
  have h4:=List.getElem?_eq_some_iff.1 h2;obtain ⟨hlt,rfl⟩:=h4;rw [<- List.drop_eq_getElem_cons hlt,List.take_append_drop]
 rw [e,CU,h1];simp [kS,h3]
theorem NZ {n j:Nat} {stack l:List Int} {x:Int} {s s1 s2:St} (h1:kS n stack (l.take j) s=some s1) (h2:l[j]?=some x) (h3:pL n s1 x stack=some s2):kS n stack (l.take (j+1)) s=some s2:=by
 rw [List.take_add_one,h2];simp only [Option.toList_some];rw [zH,h1];exact h3
end Go.Tc
namespace Go.Proofs.YtgkkecladbmjkaaGreatDoor
open Tryz
open Go.Vc Go.Tc
variable {w:Ω} {K:O->Ω->Prop}
structure uP (g1 g2 g3 B:Nat) (w:Ω) (n:Nat) (st:St):Prop where
 s1:∃ vs:List O,vs.length=n/\bD w g1 vs 42/\∀ k,k < n->∃ v,vs[k]?=some v/\w.ownsRow B 3 1 v (st.s k).length ((st.s k).map i64)
 s2:bD w g2 (st.has.map .bool) 4
 s3:bD w g3 (st.todo.map .bool) 4
 l1:st.st.length=n
 l2:st.has.length=n
 l3:st.todo.length=n
 o:(g1≠g2/\g1≠g3/\g2≠g3)/\g1 < B/\g2 < B/\g3 < B/\B<=w.heap.size
variable {g1 g2 g3 B n:Nat} {st:St}
theorem uP.ext {w':Ω} (h:uP g1 g2 g3 B w n st) (hx:aG w w'):uP g1 g2 g3 B w' n st:=by
 obtain ⟨⟨vs,h1,h2,h3⟩,h4,h5,l1,l2,l3,o⟩:=h;refine ⟨⟨vs,h1,h2.ext hx,λk hk=>?_⟩,h4.ext hx,h5.ext hx,l1,l2,l3,o.1,o.2.1,o.2.2.1,o.2.2.2.1,Nat.le_trans o.2.2.2.2 hx.size⟩;obtain ⟨v,hv,ho⟩:=h3 k hk;exact ⟨v,hv,hx.own ho⟩
theorem kP {g j:Nat} {u v:O} {xs:List O} {e sz m:Nat} (ho:w.ownsRow B e sz v m xs) (hg:g < B):(w.setCell ⟨g,j,none⟩ u).ownsRow B e sz v m xs:=
 (Fr.of_set (S:=λi=>i=g) rfl).own ho λk hk he=>by have:=(ho.lt k hk).1;omega
theorem uP.setT (h:uP g1 g2 g3 B w n st) (k:Nat) (b:Bool):uP g1 g2 g3 B (w.setCell ⟨g3,k,none⟩ (.bool b)) n { st with todo:=st.todo.set k b }:=by
 obtain ⟨⟨vs,h1,h2,h3⟩,h4,h5,l1,l2,l3,o⟩:=h;refine ⟨⟨vs,h1,h2.other (by omega),λq hq=>?_⟩,h4.other (by omega),?_,l1,l2,by simpa using l3,o.1,o.2.1,o.2.2.1,o.2.2.2.1,by simpa using o.2.2.2.2⟩
 ·obtain ⟨v,hv,ho⟩:=h3 q hq;exact ⟨v,hv,kP ho o.2.2.2.1⟩
 ·have:=h5.set k (.bool b)
  rwa [<- List.map_set] at this
theorem uP.setH (h:uP g1 g2 g3 B w n st) (k:Nat) (b:Bool):uP g1 g2 g3 B (w.setCell ⟨g2,k,none⟩ (.bool b)) n { st with has:=st.has.set k b }:=by
 obtain ⟨⟨vs,h1,h2,h3⟩,h4,h5,l1,l2,l3,o⟩:=h;refine ⟨⟨vs,h1,h2.other (by omega),λq hq=>?_⟩,?_,h5.other (by omega),l1,by simpa using l2,l3,o.1,o.2.1,o.2.2.1,o.2.2.2.1,by simpa using o.2.2.2.2⟩
 ·obtain ⟨v,hv,ho⟩:=h3 q hq;exact ⟨v,hv,kP ho o.2.2.1⟩
 ·have:=h4.set k (.bool b)
  rwa [<- List.map_set] at this
theorem uP.setS (h:uP g1 g2 g3 B w n st) {k:Nat} {v:O} {s:List Int} (hv:w.ownsRow B 3 1 v s.length (s.map i64)) (hk:k < n):uP g1 g2 g3 B (w.setCell ⟨g1,k,none⟩ v) n { st with st:=st.st.set k s }:=by
 obtain ⟨⟨vs,h1,h2,h3⟩,h4,h5,l1,l2,l3,o⟩:=h;refine ⟨⟨vs.set k v,by simpa using h1,h2.set k v,λq hq=>?_⟩,h4.other (by omega),h5.other (by omega),by simpa using l1,l2,l3,o.1,o.2.1,o.2.2.1,o.2.2.2.1,by simpa using o.2.2.2.2⟩
 have e:St.s { st with st:=st.st.set k s } q=if q=k then s else st.s q:=by
  simp only [St.s,jL];by_cases hqk:q=k
  ·rw [if_pos ⟨hqk,by omega⟩,if_pos hqk]
  ·rw [if_neg (λh=>hqk h.1),if_neg hqk]
 rw [e];by_cases hqk:q=k
 ·subst hqk;rw [if_pos rfl];exact ⟨v,by rw [List.getElem?_set_self (by omega)],kP hv o.2.1⟩
 ·rw [if_neg hqk];obtain ⟨u,hu,ho⟩:=h3 q hq;exact ⟨u,by rw [List.getElem?_set_ne (λe=>hqk e.symm)];exact hu,kP ho o.2.1⟩
theorem aKf {l:List Bool} {j:Nat} (h:j < l.length):(l.map Value.bool)[(j:Int).toNat]?=some (.bool (l.getD j false)):=by
 simp [List.getD_eq_getElem?_getD,h]
theorem uP.hs (h:uP g1 g2 g3 B w n st) (hn:n<=1000):aB w (.slice (some ⟨g2,0,none⟩) n n) 1 n (st.has.map .bool):=h.s2.slice (by simpa using h.l2) (by unfold maxLen;omega)
theorem uP.ts (h:uP g1 g2 g3 B w n st) (hn:n<=1000):aB w (.slice (some ⟨g3,0,none⟩) n n) 1 n (st.todo.map .bool):=h.s3.slice (by simpa using h.l3) (by unfold maxLen;omega)
theorem uP.ss (h:uP g1 g2 g3 B w n st) (hn:n<=1000) {k:Nat} (hk:k < n):∃ vs v,aB w (.slice (some ⟨g1,0,none⟩) n n) 1 n vs/\vs[(k:Int).toNat]?=some v/\w.ownsRow B 3 1 v (st.s k).length ((st.s k).map i64):=by
 obtain ⟨vs,h1,h2,h3⟩:=h.s1;obtain ⟨v,hv,ho⟩:=h3 k hk;exact ⟨vs,v,h2.slice h1 (by unfold maxLen;omega),by simpa using hv,ho⟩
def DK (w:Ω) (v:O) (l:List (List Int)):Prop:=∃ vs,aB w v 1 l.length vs/\∀ k,k < l.length->∃ u,vs[k]?=some u/\aU w u (l.getD k [])
theorem uP.states (h:uP g1 g2 g3 B w n st) (hn:n<=1000):DK w (.slice (some ⟨g1,0,none⟩) n n) st.st:=by
 obtain ⟨vs,h1,h2,h3⟩:=h.s1;refine ⟨vs,by rw [h.l1];exact h2.slice h1 (by unfold maxLen;omega),λk hk=>?_⟩;obtain ⟨v,hv,ho⟩:=h3 k (by rw [<- h.l1];exact hk);exact ⟨v,hv,aB.of_own ho⟩
theorem uP.bools (h:uP g1 g2 g3 B w n st) (hn:n<=1000):AQ w (.slice (some ⟨g2,0,none⟩) n n) st.has:=by
 unfold AQ;rw [h.l2];exact h.hs hn
theorem yI {S:Ω->Prop} {L:O->Prop} {v:O} {l:List gP} {i:Nat} {x:gP} (hs:pM w v l) (hx:∀ w',S w'->aG w w') (hi:l[i]?=some x) (hk:L (.agg #[i64 x.op,i64 x.a,i64 x.b])):aD prog S (Instr.indexAt 71 v (i64 i)) λp=>aD prog S (Instr.loadAt 70 p) L:=by
 have hlt:i < l.length:=(List.getElem?_eq_some_iff.1 hi).1;obtain ⟨e,z,b',hte,hinf⟩:=lL;obtain ⟨d,z',by_,h2,h3,h4⟩:=pR;obtain ⟨b,off,cap,rfl,hcell⟩:=aB.there hs (by omega);refine aD.ok (λw' _=>gE hte hinf (by omega) (by omega)) (aD.ok (λw' hw=>kF (cs:=[i64 x.op,i64 x.a,i64 x.b]) h2 h3 h4 rfl λj hj=>?_) hk);have hrow:=pI hi;obtain ⟨u,hu⟩:∃ u,([i64 x.op,i64 x.a,i64 x.b]:List O)[j]?=some u:=⟨_,List.getElem?_eq_getElem hj⟩;rw [hu,Nat.add_assoc];refine (hx w' hw).cell (hcell _ u ?_);rw [<- hrow,List.getElem?_take,List.getElem?_drop] at hu;split at hu
 ·simpa using hu
 ·cases hu
theorem HS {m:gU} {k:Nat} (h:k < m.code.length):m.code[k]?=some (m.ins k):=by
 unfold gU.ins;rw [List.getD_eq_getElem?_getD,List.getElem?_eq_getElem h];rfl
theorem aKs {p:bP} {i:bF} {k:Nat} (h:iG w p i) (ir:i.right) (hk:k < i.methods.length)
  (yes:∀ st sv hv w',rN i (i.meth k) (some st)->DK w' sv st.st->AQ w' hv st.has->aG w w'->K (.tuple #[sv,hv,i64 0,i64 0]) w')
  (no:∀ pc e w',rN i (i.meth k) none->e≠0->aG w w'->K (.tuple #[bT,bT,i64 pc,i64 e]) w') :
  aC prog 72 #[p.val i,i64 k] w K:=by
 have hm:=pF (i:=i) (a:=(k:Int)) (by omega) (by omega);rw [Int.toNat_natCast] at hm;have mr:(i.meth k).right:=ir.2.2.1.2.1 _ (List.mem_of_getElem? hm);generalize i.meth k=m at hm mr yes no;have hn1:=mr.2.2.2.1.1;have hn2:=mr.2.2.2.1.2;apply aPq;unfold SV bP.val;refine bx λb1 w1 hb1 x1=>?_;refine bA hb1 bN gR rfl ?_;refine XB iJ oK (h.ext x1).mt hm tD λrow hrow=>?_;have hrow0:=hrow;obtain ⟨pv,lv,cv,rfl,hp,hl,hc⟩:=hrow;obtain ⟨pa,pc,rfl⟩:=hp.shape;obtain ⟨la,lc,rfl⟩:=hl.shape;obtain ⟨ca,cc,rfl⟩:=aB.shape hc;refine asB BK rfl rfl λb2 w2 hb2 x2=>?_;have hb2:gD w2 b2 [.slice pa m.params.length pc,i64 m.result,.slice la m.locals.length lc,.slice ca m.code.length cc]:=hb2;have hc:=hc.ext x2;have hrow0:=hrow0.ext x2;have x12:=x1.trans x2;have h2:=h.ext x12;have hb1:=hb1.ext x2;refine ⟨λv w'=>∃ j:Nat,v=i64 j/\j<=m.code.length/\aG w2 w'/\∀ x∈m.code.take j,fP i m x,λv _=>m.code.length - (RowKit.intOf v).toNat,⟨0,rfl,Nat.zero_le _,aG.refl _,λ_ h=>by simp at h⟩,?_⟩;rintro _ w3 ⟨j,rfl,hj,x3,hnm⟩ _;refine bA (hb2.ext x3) iH iF rfl (gG lL (hc.ext x3) (aV.2 (aK (λhlt=>?_) λhge=>?_)))
 ·have hj':j < m.code.length:=by omega
  have hx:=HS hj';have hxm:=List.mem_of_getElem? hx;have D1:aG w3 w3.drew:=(aG.refl _).drew;have xd:=x3.trans D1;refine aH.mk' (λw'=>aG w2 w') xd ?_;refine yA (λw' hw=>hb1.ext hw) kQ rfl ?_;refine yA (λw' hw=>hb2.ext hw) oK rfl ?_;refine dT (λw' hw=>hb2.ext hw) iH iF rfl ?_;refine yI hc (λ_ h=>h) hx ?_;refine (aEa (h2.ext xd) (hrow0.ext xd) mr (mr.2.2.2.2 _ hxm)).mono λv w4 ⟨b,hv,hb,x4⟩=>?_;subst hv;refine ⟨xd.trans x4,aD.ok (λw' _=>BS) ?_⟩;cases b with
  | false=>simp only [aY];exact no _ 9 _ (.inl ⟨⟨_,hxm,λh=>by have:=hb.2 h;cases this⟩,rfl⟩) (by decide) ((x12.trans xd).trans x4)
  | true=>
   simp only [aY];refine mH (by omega) ?_;refine ⟨⟨j+1,rfl,by omega,xd.trans x4,λy hy=>?_⟩,by simp only [aT];omega⟩;rw [List.take_add_one,hx] at hy;rcases List.mem_append.1 hy with hy|hy
   ·exact hnm y hy
   ·simp at hy;subst hy;exact hb.1 rfl
 have hjl:j=m.code.length:=by omega
 subst hjl;rw [List.take_length] at hnm;have hox:∀ x∈m.code,BA i m x:=λx hx=>⟨ir,mr,mr.2.2.2.2 x hx,hnm x hx⟩;refine bA (hb2.ext x3) iH iF rfl (gG lL (hc.ext x3) ?_);refine mkB underlying116 jU rfl (by omega) (by omega) λw4 hB1 x4 z4=>?_;have x34:=x3.trans x4;refine bA (hb2.ext x34) iH iF rfl (gG lL (hc.ext x34) ?_);refine mkB underlying117 pX rfl (by omega) (by omega) λw5 hB2 x5 z5=>?_;have x35:=x34.trans x5;refine bA (hb2.ext x35) iH iF rfl (gG lL (hc.ext x35) ?_);refine mkB underlying117 pX rfl (by omega) (by omega) λw6 hB3 x6 z6=>?_;have x36:=x35.trans x6
 have hmem:uP w3.heap.size w4.heap.size w5.heap.size w6.heap.size w6 m.code.length (St.ini m.code.length):=by
  refine ⟨⟨_,by simp,(hB1.ext x5).ext x6,λq hq=>⟨.slice none 0 0,by simp [hq],?_⟩⟩,?_,?_,by simp [St.ini],by simp [St.ini],by simp [St.ini],by omega,by omega,by omega,by omega,Nat.le_refl _⟩
  ·have:(St.ini m.code.length).s q=[]:=by simp [St.ini,St.s,List.getD_eq_getElem?_getD,hq]
   rw [this];exact World.ownsRow_nil _ _ _ _
  ·have:(St.ini m.code.length).has.map Value.bool=List.replicate m.code.length (.bool false):=by simp [St.ini]
   rw [this];exact hB2.ext x6
  ·have:(St.ini m.code.length).todo.map Value.bool=List.replicate m.code.length (.bool false):=by simp [St.ini]
   rw [this];exact hB3
 have hg1:w3.heap.size < w6.heap.size:=by omega
 have hw2:w2.heap.size<=w3.heap.size:=x3.size;have hw3:w3.heap.size+1=w4.heap.size:=by omega
 have hw4:w4.heap.size+1=w5.heap.size:=by omega
 generalize w3.heap.size=g1 at hmem hg1 hw2 hw3;generalize w4.heap.size=g2 at hmem hw3 hw4;generalize w5.heap.size=g3 at hmem hw4;generalize w6.heap.size=B at hmem hg1;refine stB pA pX hmem.s2 (n:=m.code.length) (by simp [St.ini]) (by omega) (by omega) rfl ?_;simp only [show (0:Int).toNat=0 from rfl];have hmem:=hmem.setH 0 true;refine stB pA pX hmem.s3 (n:=m.code.length) (by simp [St.ini]) (by omega) (by omega) rfl ?_;simp only [show (0:Int).toNat=0 from rfl];have hmem:=hmem.setT 0 true;have x38:=(x36.setCell (b:=g2) (o:=0) (by omega) (.bool true)).setCell (b:=g3) (o:=0) (by omega) (.bool true)
 have efirst:({ St.ini m.code.length with has:=(St.ini m.code.length).has.set 0 true,todo:=(St.ini m.code.length).todo.set 0 true }:St)=St.first m.code.length:=by
  simp only [St.ini,St.first,St.mk.injEq,and_true];apply List.ext_getElem?;intro q;by_cases e:q=0
  ·subst e;simp [List.getElem?_replicate]
  ·simp []
 have hmem:uP g1 g2 g3 B _ m.code.length (St.first m.code.length):=efirst▸hmem;obtain ⟨wf0,inv0⟩:=zJ (i:=i) hn1;generalize ((w6.setCell ⟨g2,0,none⟩ (.bool true)).setCell ⟨g3,0,none⟩ (.bool true))=w8 at hmem x38;have hn:m.code.length<=1000:=by omega
 generalize hnn:m.code.length=n at *;refine ⟨λw'=>∃ st,(uP g1 g2 g3 B w' n st/\aG w2 w'/\WF m st/\Inv i m st/\∀ r,qA i m st r->qA i m (St.first n) r),λw'=>mu λq=>∃ st,(uP g1 g2 g3 B w' n st/\aG w2 w'/\WF m st/\Inv i m st/\∀ r,qA i m st r->qA i m (St.first n) r)/\msr n st=q,⟨_,hmem,x38,wf0,inv0,λ_ h=>h⟩,?_⟩;rintro w9 ⟨st0,hst0⟩ _;obtain ⟨st,⟨hM,x9,wf,inv,hR⟩,hmu⟩:=EC (p:=λq=>∃ st,(uP g1 g2 g3 B w9 n st/\aG w2 w9/\WF m st/\Inv i m st/\∀ r,qA i m st r->qA i m (St.first n) r)/\msr n st=q) ⟨_,_,hst0,rfl⟩;clear hst0 st0;refine ⟨λv w'=>∃ q:Nat,v=i64 q/\q<=n/\w'=w9/\∀ j,j < q->st.t j=false,λv _=>n - (RowKit.intOf v).toNat,⟨0,rfl,Nat.zero_le _,rfl,λ_ h=>absurd h (Nat.not_lt_zero _)⟩,?_⟩;rintro _ w9' ⟨q,rfl,hq,hw9,hno⟩ _;have hw9:=hw9.symm;subst hw9;have hWk:∀ {r},qA i m st r->rN i m r:=λ{r} hr=>.inr ⟨hnm,by rw [hnn];exact hR r hr⟩;refine gG pA (hM.ts hn) (aV.2 ?_);by_cases hqn:(q:Int) < (n:Int)
 case neg=>
  have hqe:(q:Int)=(n:Int):=by omega
  simp only [hqn,aY];refine gG pA (hM.ts hn) (aF.2 ?_);simp only [hqe,aY];exact yes st _ _ _ (hWk (.done (zK λj hj=>hno j (by rw [hM.l3] at hj;omega)))) (hM.states hn) (hM.bools hn) (x12.trans x9)
 have hqn':q < n:=by omega
 simp only [hqn,aY];refine nO pA oH (hM.ts hn) (by omega) (by omega) (aKf (by rw [hM.l3];exact hqn')) (fN.2 ?_);have ett:st.todo.getD q false=st.t q:=rfl;rw [ett];cases htq:st.t q with
 | false=>
  simp only [aY];refine mH (by omega) ?_;refine ⟨⟨q+1,rfl,by omega,rfl,λj hj=>?_⟩,by simp only [aT];omega⟩;by_cases hjq:j=q
  ·rw [hjq];exact htq
  ·exact hno j (by omega)
 | true=>
 simp only [aY];refine gG pA (hM.ts hn) (aF.2 ?_);have hne:¬ ((q:Int)=(n:Int)):=by omega
 simp only [hne,aY];have hfirst:lY st.todo=some q:=CX htq λj hj=>hno j hj
 have hhq:st.h q=true:=by
  cases e:st.h q with
  | true=>rfl
  | false=>have:=(wf.no q e).2;rw [htq] at this;cases this
 obtain ⟨hkd,hl8⟩:=wf.kd q hhq;have hxq:=HS (m:=m) (k:=q) (by omega);have ox:=hox _ (List.mem_of_getElem? hxq);refine stB pA pX hM.s3 (n:=n) (by simpa using hM.l3) (by omega) (by omega) rfl ?_;rw [Int.toNat_natCast];have hM1:=hM.setT q false;have x10:=x9.setCell (b:=g3) (o:=q) (by omega) (.bool false);generalize w9.setCell ⟨g3,q,none⟩ (.bool false)=w10 at hM1 x10;have estep:tN i m st q=(ID i m (m.ins q) (st.s q)).bind λstack=>kS n stack (iU (m.ins q) q) { st with todo:=st.todo.set q false }:=by unfold tN;rw [hnn]
 generalize hst1:({ st with todo:=st.todo.set q false }:St)=st1 at hM1 estep;have es1:st1.s q=st.s q:=by rw [<- hst1];rfl
 obtain ⟨vs,v,hvs,hv,hov⟩:=hM1.ss hn hqn';rw [es1] at hov;have D1:aG w10 w10.drew:=(aG.refl _).drew;have xd:=x10.trans D1;refine aH.mk' (λw'=>aG w10 w') D1 ?_;refine yA (λw' hw=>hb1.ext (x10.trans hw)) kQ rfl ?_;refine yA (λw' hw=>hb2.ext (x10.trans hw)) oK rfl ?_;refine dT (λw' hw=>hb2.ext (x10.trans hw)) iH iF rfl ?_;have hcn:pM w2 (.slice ca n cc) m.code:=hc;refine yI hcn (λ_ h=>x10.trans h) hxq ?_;refine gF xV aZ hvs (λ_ h=>h) (by omega) (by omega) hv ?_;refine aNq (h2.ext xd) (hrow0.ext xd) ox (aB.of_own (D1.own hov)) hkd hl8 (λout v2 w11 hdo ho2 x11=>?_) λe w11 hdo hne x11=>?_
 case refine_2=>
  refine ⟨D1.trans x11,aD.ok (λw' _=>iQ) (aD.ok (λw' _=>iP) (aS.2 ?_))⟩;simp only [hne,aY];refine no q e _ (hWk (.fail hfirst ?_)) hne ((x12.trans xd).trans x11);rw [estep,hdo];rfl
 refine ⟨D1.trans x11,aD.ok (λw' _=>iQ) (aD.ok (λw' _=>iP) (aS.2 ?_))⟩;simp only [aY];obtain ⟨od1,od2,_,_⟩:=OG ox hkd hdo;rw [hdo] at estep;have estep:tN i m st q=kS n out (iU (m.ins q) q) st1:=estep;have xd11:=D1.trans x11;have hM2:=hM1.ext xd11;have x11':=x10.trans xd11;have ho2:=aR ho2 (B':=B) (Nat.le_trans hM1.o.2.2.2.2 D1.size);refine bA (hb2.ext x11') iH iF rfl ?_;refine ldI (hcn.ext x11') hxq ?_;refine UM (x:=m.ins q) (pc:=q) (by omega) λtv w12 hot x12'=>?_;have ht0:=CL ox (pc:=q);have hLl:(iU (m.ins q) q).length<=2:=VQ _ _;generalize iU (m.ins q) q=L at hot ht0 estep hLl;have hM3:=hM2.ext x12';have hot:=aR hot (B':=B) hM2.o.2.2.2.2;have ho3:=x12'.own ho2;have x13:=x11'.trans x12'
 have wf1:WF m st1:=by
  rw [<- hst1];refine ⟨wf.l1,wf.l2,by simpa using wf.l3,wf.kd,λk hk=>⟨(wf.no k hk).1,?_⟩⟩;simp only [St.t,jL];split
  ·rfl
  ·exact (wf.no k hk).2
 have fail:∀ {j to st' w'} (pc e:Int),kS n out (L.take j) st1=some st'->L[j]?=some to->pL n st' to out=none->e≠0->aG w2 w'->K (.tuple #[bT,bT,i64 pc,i64 e]) w':=by
  intro j to st' w' pc e h1 h2 h3 h4 h5;exact no pc e _ (hWk (.fail hfirst (by rw [estep];exact OA h1 h2 h3))) h4 (x12.trans h5)
 refine ⟨λv w'=>∃ (j:Nat) (st':St),v=i64 j/\j<=L.length/\aG w2 w'/\uP g1 g2 g3 B w' n st'/\kS n out (L.take j) st1=some st'/\w'.ownsRow B 3 1 tv L.length (L.map i64)/\w'.ownsRow B 3 1 v2 out.length (out.map i64),λv _=>L.length - (RowKit.intOf v).toNat,⟨0,st1,rfl,Nat.zero_le _,x13,hM3,rfl,hot,ho3⟩,?_⟩;rintro _ w13 ⟨j,st',rfl,hj,xx,hM4,hgo,hot4,ho4⟩ _;refine gG aM (aB.of_own hot4) (aV.2 (aK (λhlt=>?_) λhge=>?_))
 case refine_2=>
  have hjL:j=L.length:=by omega
  subst hjL;rw [List.take_length] at hgo;have es:tN i m st q=some st':=by rw [estep];exact hgo
  obtain ⟨s1,s2,s3⟩:=xA hox wf inv hfirst es;have hI:uP g1 g2 g3 B w13 n st'/\aG w2 w13/\WF m st'/\Inv i m st'/\∀ r,qA i m st' r->qA i m (St.first n) r:=⟨hM4,xx,s1,s2,λr hr=>hR r (.go hfirst es hr)⟩;rw [hnn] at s3;exact ⟨⟨st',hI⟩,Nat.lt_of_le_of_lt (ZW ⟨st',hI,rfl⟩) (Nat.lt_of_lt_of_eq s3 hmu)⟩
 obtain ⟨to,hto⟩:=bH (l:=L) (j:=j) (by omega);have hto0:=ht0 to (List.mem_of_getElem? hto);refine aMo aM aL hot4 (by omega) (by omega) (fQ hto) ?_;refine bA (hb2.ext xx) iH iF rfl ?_;refine gG lL (hc.ext xx) (kU.2 (aK (λhbig=>?_) λhsm=>?_))
 ·rw [hnn] at hbig;exact fail _ 13 hgo hto (by unfold pL;rw [if_pos (by omega)]) (by decide) xx
 rw [hnn] at hsm;obtain ⟨t,rfl⟩:∃ t:Nat,to=t:=⟨to.toNat,by omega⟩;have htn:t < n:=by omega
 have wf':WF m st':=(sL od1 od2 wf1 (λto ht=>ht0 to (List.mem_of_mem_take ht)) (by rw [hnn];exact hgo)).1
 have next:∀ {w' st''},aG w2 w'->uP g1 g2 g3 B w' n st''->pL n st' t out=some st''->w'.ownsRow B 3 1 tv L.length (L.map i64)->w'.ownsRow B 3 1 v2 out.length (out.map i64)->V prog (binOp .add 3 (i64 j) (i64 1)) w' λt2 w'=>
   (∃ (j:Nat) (st':St),t2=i64 j/\j<=L.length/\aG w2 w'/\uP g1 g2 g3 B w' n st'/\kS n out (L.take j) st1=some st'/\w'.ownsRow B 3 1 tv L.length (L.map i64)/\w'.ownsRow B 3 1 v2 out.length (out.map i64))/\L.length - (RowKit.intOf t2).toNat < L.length - (RowKit.intOf (i64 (j:Int))).toNat:=by
  intro w' st'' h1 h2 h3 h4 h5;refine mH (by omega) ?_;exact ⟨⟨j+1,st'',rfl,by omega,h1,h2,NZ hgo hto h3,h4,h5⟩,by simp only [aT];omega⟩
 refine nO pA oH (hM4.hs hn) (by omega) (by omega) (aKf (by rw [hM4.l2];exact htn)) (fN.2 ?_);have ehh:st'.has.getD t false=st'.h t:=rfl;rw [ehh]
 have hgG:∀ {r},(if st'.h t then (jA (st'.s t) out).bind λj=>if j=st'.s t then some st' else some { st' with st:=st'.st.set t j,todo:=st'.todo.set t true } else some ⟨st'.st.set t out,st'.has.set t true,st'.todo.set t true⟩)=r->pL n st' t out=r:=by
  rintro _ rfl;unfold pL;rw [if_neg (by omega)];simp only [Int.toNat_natCast]
 have hlo1:w2.heap.size<=g1:=hw2;have hlo2:w2.heap.size<=g2:=by omega
 have hlo3:w2.heap.size<=g3:=by omega
 have hBo:=hM4.o;cases hht:st'.h t with
 | false=>
  simp only [aY];obtain ⟨vs4,q1,q2,q3⟩:=hM4.s1
  refine stB xV jU q2 (n:=n) q1 (by omega) (by omega) (by
   rcases ho4.2 with ⟨rfl,_⟩|⟨_,_,_,rfl,_⟩<;>rfl) ?_
  rw [Int.toNat_natCast];have hM5:=hM4.setS ho4 htn;refine stB pA pX hM5.s2 (n:=n) (by simpa using hM5.l2) (by omega) (by omega) rfl ?_;rw [Int.toNat_natCast];have hM6:=hM5.setH t true;refine stB pA pX hM6.s3 (n:=n) (by simpa using hM6.l3) (by omega) (by omega) rfl ?_;rw [Int.toNat_natCast];have hM7:=hM6.setT t true;refine next (((xx.setCell hlo1 _).setCell hlo2 _).setCell hlo3 _) hM7 (hgG (by rw [hht];rfl)) ?_ ?_
  ·exact kP (kP (kP hot4 hBo.2.1) hBo.2.2.1) hBo.2.2.2.1
  ·exact kP (kP (kP ho4 hBo.2.1) hBo.2.2.1) hBo.2.2.2.1
 | true=>
  simp only [aY];obtain ⟨hkt,hlt8⟩:=wf'.kd t hht;obtain ⟨vs5,v5,hvs5,hv5,hov5⟩:=hM4.ss hn htn;refine nO xV aZ hvs5 (by omega) (by omega) hv5 ?_;refine WY (aB.of_own hov5) (aB.of_own ho4) hkt od1 (by omega) (λjo v6 w14 hjo ho6 x14=>?_) λw14 hjo x14=>?_
  case refine_2=>
   refine cL.2 (cK.2 (fN.2 ?_));simp only [aY];exact fail _ 14 hgo hto (hgG (by rw [hht,hjo];rfl)) (by decide) (xx.trans x14)
  refine cL.2 (cK.2 (fN.2 ?_));simp only [aY];have hM5:=hM4.ext x14;obtain ⟨vs7,v7,hvs7,hv7,hov7⟩:=hM5.ss hn htn;refine nO xV aZ hvs7 (by omega) (by omega) hv7 ?_;refine MS (aB.of_own ho6) (aB.of_own hov7) λw15 x15=>fN.2 ?_;have hM6:=hM5.ext x15;have xx15:=(xx.trans x14).trans x15;have hot6:=(x14.trans x15).own hot4;have ho46:=(x14.trans x15).own ho4;have ho6:=aR (x15.own ho6) (B':=B) hBo.2.2.2.2;by_cases hje:jo=st'.s t
  ·simp only [hje,aY];exact next xx15 hM6 (hgG (by rw [hht,hjo];simp [hje])) hot6 ho46
  ·simp only [hje,aY];obtain ⟨vs8,q1,q2,q3⟩:=hM6.s1
   refine stB xV jU q2 (n:=n) q1 (by omega) (by omega) (by
    rcases ho6.2 with ⟨rfl,_⟩|⟨_,_,_,rfl,_⟩<;>rfl) ?_
   rw [Int.toNat_natCast];have hM7:=hM6.setS ho6 htn;refine stB pA pX hM7.s3 (n:=n) (by simpa using hM7.l3) (by omega) (by omega) rfl ?_;rw [Int.toNat_natCast];have hM8:=hM7.setT t true;refine next ((xx15.setCell hlo1 _).setCell hlo3 _) hM8 (hgG (by rw [hht,hjo];simp [hje])) ?_ ?_
   ·exact kP (kP hot6 hBo.2.1) hBo.2.2.2.1
   ·exact kP (kP ho46 hBo.2.1) hBo.2.2.2.1
theorem xX {p:bP} {i:bF} (h:iG w p i) (hn:mO w i) (hk:∀ a b e w',(e=0↔vN i)->aG w w'->K (.tuple #[.agg #[i64 a,i64 b],i64 e]) w'):aC prog 31 #[p.val i] w K:=by
 apply aQs;unfold TP bP.val;refine bx λb1 w1 hb1 x1=>?_;refine MA HT λw2 hB2 x2=>?_;have x12:=x1.trans x2;have hg:w.heap.size<=w1.heap.size:=x1.size;have hb1:=hb1.ext x2;generalize w1.heap.size=g at hB2 hg;have hB2:bD w2 g [i64 0,i64 0] 76:=hB2;refine qO hb1 kQ rfl ?_;refine (aDi (h.ext x12) (hn.ext x12)).mono λv w3 ⟨b,hv,hb,x3⟩=>?_;subst hv;have x13:=x12.trans x3
 have fin:∀ {w':Ω} {a b e:Int},bD w' g [i64 0,i64 0] 76->aG w w'->(e=0↔vN i)->U prog (Instr.storeAt 76 (.pointer (some ⟨g,0,none⟩)) (.agg #[i64 a,i64 b])) w' λ_ w7=>
   ∃ r1,(loadVar 76 (match (Value.pointer (some ⟨g,0,none⟩)) with|.pointer (some p)=>p|_=>⟨0,0,none⟩)).run prog w7=.ok r1 w7/\(∃ p,(Value.pointer (some ⟨g,0,none⟩))=Value.pointer (some p))/\K (.tuple #[r1,i64 e]) w7:=by
  intro w' a b e hB hx he;refine GF HT hB (l:=[i64 a,i64 b]) rfl rfl rfl rfl λw7 hB7 hc=>?_;exact ⟨_,vB underlying76 rfl HT hB7 rfl,⟨_,rfl⟩,hk a b e _ he (hc.ext _ hx hg)⟩
 cases b with
 | false=>
  simp only [aY];refine bld aBm [] rfl rfl ?_;exact fin (hB2.ext x3) x13 ⟨λh=>(by cases h),λh=>by have:=hb.2 h.1;cases this⟩
 | true=>
 simp only [aY];have ir:=hb.1 rfl;have hm8:=ir.2.2.1.1.2;refine ⟨λv w'=>∃ j:Nat,v=i64 j/\j<=i.methods.length/\aG w2 w'/\∀ q,q < j->∃ st,rN i (i.meth q) (some st),λv _=>i.methods.length - (RowKit.intOf v).toNat,⟨0,rfl,Nat.zero_le _,x3,λ_ h=>absurd h (Nat.not_lt_zero _)⟩,?_⟩;rintro _ w4 ⟨j,rfl,hj,x4,hall⟩ _;refine bA (hb1.ext x4) bN gR rfl (wQ iJ ((h.ext x12).ext x4).mt (aV.2 (aK (λhlt=>?_) λhge=>?_)))
 ·refine qO (hb1.ext x4) kQ rfl ?_;refine aKs ((h.ext x12).ext x4) ir (by omega) (λst sv hv w5 hw _ _ x5=>?_) λpc e w5 hw hne x5=>?_
  ·refine xQ.2 (xP.2 (xO.2 (xN.2 (aS.2 ?_))));simp only [aY];refine mH (by omega) ?_;refine ⟨⟨j+1,rfl,by omega,x4.trans x5,λq hq=>?_⟩,by simp only [aT];omega⟩;by_cases hqj:q=j
   ·subst hqj;exact ⟨st,hw⟩
   ·exact hall q (by omega)
  ·refine xQ.2 (xP.2 (xO.2 (xN.2 (aS.2 ?_))));simp only [hne,aY];refine bld aBm [(0,i64 j),(1,i64 pc)] rfl rfl ?_;refine fin (hB2.ext (x4.trans x5)) ((x12.trans x4).trans x5) ⟨λh=>absurd h hne,λht=>?_⟩;have hmm:=pF (i:=i) (a:=(j:Int)) (by omega) (by omega);obtain ⟨s,hs⟩:=ht.2 _ (List.mem_of_getElem? hmm);have:=hs.det hw;cases this
 ·have hjl:j=i.methods.length:=by omega
  subst hjl;refine bld aBm [] rfl rfl ?_;refine fin (hB2.ext x4) (x12.trans x4) ⟨λ_=>⟨ir,λm hm=>?_⟩,λ_=>rfl⟩;obtain ⟨q,hq⟩:=List.getElem?_of_mem hm;have hlt:=(List.getElem?_eq_some_iff.1 hq).1;have hmm:=pF (i:=i) (a:=(q:Int)) (by omega) (by omega);rw [Int.toNat_natCast,hq] at hmm;cases hmm;exact hall q hlt
end Go.Proofs.YtgkkecladbmjkaaGreatDoor
namespace Go.Vc
section
variable {P:Program} {w:Ω} {K:O->Ω->Prop}
end
end Go.Vc
namespace Go.Proofs.YtgkkecladbmjkaaGreatDoor
open Tryz
open Go.Vc Go.Tc
variable {w:Ω} {K:O->Ω->Prop}
end Go.Proofs.YtgkkecladbmjkaaGreatDoor
namespace Go.Vc
section
variable {P:Program} {w:Ω} {K:O->Ω->Prop}
theorem apG {t e by_ ty sz:Nat} {z:O} (ht:P.underlying t=some (.slice e)) (hi:cV P e z sz by_) (hz:(z.cells.size == sz)=true) (hsz:0 < sz) {B:Nat} {v:O} {n:Nat} {xs:List O} (ho:w.ownsRow B e sz v n xs) {x:O} {m:Nat} {news:List O} (hs:aB w x sz m news) (h1:news.all cB=true)
  (hb:(n+m)*by_<=140737488355328) (h63:n+m<=maxLen) (hB:B<=w.heap.size)
  (hk:∀ v' w',w'.ownsRow B e sz v' (n+m) (xs++news)->w.grownBy w' v.ownBlock->(v'.ownBlock=v.ownBlock\/v'.ownBlock=some w.heap.size)->K v' w') :
  V P (Builtin.append_ #[t,t] ty #[v,x]) w K:=by
 obtain ⟨i,hi',hz',hn,hby⟩:=info_parts hi;rcases hs.2 with ⟨rfl,rfl⟩|⟨b,off,cap,rfl,_,_,hc⟩
 ·have hnews:news=[]:=by have:=hs.1;simpa using this
  subst hnews;exact V.ok (run_append_owned_none w B t ty e i sz ht hi' v n xs ho) (hk _ _ (by simpa using ho) ⟨rfl,rfl,rfl,Nat.le_refl _,λ_ _ _=>rfl⟩ (.inl rfl))
 ·obtain ⟨v',w',hr,h2,h3,_,h5⟩:=run_append_own_at (P:=P) w B t ty e i z sz by_ ht hi' hz' hn hby (by simpa using hz) hsz v n xs ho ⟨b,off,none⟩ m cap news hs.1
   (λj u hj=>by rw [gO];exact hc j u hj) (λu hu=>by rw [tA];exact List.all_eq_true.1 h1 u hu) h63 hb hB
  exact V.ok hr (hk v' w' h2 h3 h5)
theorem EP {t e by_ sz:Nat} {z:O} (ht:P.underlying t=some (.slice e)) (hi:cV P e z sz by_) (hz:(z.cells.size == sz)=true) (hsz:0 < sz) (vs:List O) {n:Nat} {parts:Array (Nat × O)} (hn:n=vs.length) (hp:parts.toList=(vs.zipIdx 0).map λx=>(x.2,x.1)) (hc:∀ v∈vs,v.cells.size=sz)
  (h0:0 < n) (hl:n*sz<=16777216) (hk:∀ v w',w'.ownsRow w.heap.size e sz v n (vs.flatMap λv=>v.cells.toList)->aG w w'->K v w'):V P (Instr.buildSlice t n parts) w K:=by
 subst hn;obtain ⟨i,hi',hz',hn,hby⟩:=info_parts hi;have hz2:z.cells.size=sz:=by simpa using hz
 have hl1:vs.length<=vs.length*sz:=Nat.le_mul_of_pos_right _ hsz;have hf:=Go.Great.fill_whole hsz vs ((Array.range (vs.length*sz)).map (z.cells[· % z.cells.size]!)) hc (by simp)
 have hr:=run_buildSlice (P:=P) w t e vs.length parts _ i z ht hi' hz' (by rw [hn];omega) (by rw [hn];omega) (by rw [hn,hp];exact hf);refine V.ok hr (hk _ _ ?_ ((aG.refl w).alloc _))
 have hsize:((vs.flatMap λv=>v.cells.toList).toArray).size=vs.length*sz:=by
  clear hr hf hl hp h0 hl1 hk;simp only [List.size_toArray];induction vs with
  | nil=>simp
  | cons v l ih=>
   have h1:=hc v (by simp);have h2:=ih λu hu=>hc u (by simp [hu]);simp only [List.flatMap_cons,List.length_append,List.length_cons,Array.length_toList,h1,h2,Nat.add_mul];omega
 have:=World.ownsRow_lit (base:=w.heap.size) (e:=e) (size:=sz) w (vs.flatMap λv=>v.cells.toList).toArray vs.length (Nat.le_refl _) (by unfold maxLen;omega) hsize;simpa using this
theorem aEm {t e n by_:Nat} {z:O} {k:IntKind} (ht:P.underlying t=some (.array n e)) (hi:cV P e z 1 by_) (hd:P.underlying e=some (.int k)) {l:List Int} (hl:l.length=n) {i:Int} (h0:0<=i) (h1:i < n) (hk:∀ z∈l,K (i64 z) w) :
  V P (Instr.index t (.agg (l.map i64).toArray) (i64 i)) w K:=by
 have hlt:i.toNat < l.length:=by omega
 refine V.ok (aSq ht hi ⟨_,hd⟩ h0 h1 (u:=i64 l[i.toNat]) ?_ rfl) (hk _ (List.getElem_mem hlt));simp [hlt]
end
end Go.Vc
namespace Go.Proofs.YtgkkecladbmjkaaGreatDoor
open Tryz
open Go.Vc Go.Tc
variable {w:Ω} {K:O->Ω->Prop}
variable {d n n':Nat} {wb:Ω} {k:Int}
theorem eZ {B e sz:Nat} {v:O} {xs:List O} (h:w.ownsRow B e sz v n xs):cB v=true:=by
 rcases h.2 with ⟨rfl,_⟩|⟨_,_,_,rfl,_⟩<;>rfl
theorem eV {n m:Int} (hm:0 < m) (hm2:m<=4611686018427387904) (hk:∀ k,0<=k->k < m->K (i64 k) w):aC prog 11 #[i64 n,i64 m] w K:=by
 apply aCn;unfold GD;refine rm hm λc _ h1 h2=>?_;refine aV.2 (aK (λhlt=>?_) λhge=>?_)
 ·refine bW.2 ?_;rw [aX (by omega)];exact hk _ (by omega) (by omega)
 ·exact hk _ (by omega) h2
def mP (w:Ω):Prop:=∀ j,j < 12->∃ n,w.cell? ⟨2,j,none⟩=some (i64 n)
structure Mc where
 H:Nat->Prop
 B:Nat
 g:Nat
 nv:O
 lv:O
 nums:List Int
 loc:List Int
structure Mo (c:Mc) (wb:Ω):Prop where
 gB:c.g < c.B/\c.B<=wb.heap.size
 hH:∀ k,c.H k->k < wb.heap.size/\k≠c.g
 nums:∀ w,Fr (λk=>¬ c.H k) wb w->aU w c.nv c.nums
 loc:∀ w,Fr (λk=>¬ c.H k) wb w->aU w c.lv c.loc
 bins:∀ w,Fr (λk=>¬ c.H k) wb w->mP w
 ln:c.nums.length<=4611686018427387904
 ll:c.loc.length<=1000000
structure Mk (c:Mc) (wb w:Ω) (lo n d:Nat):Prop where
 o:Mo c wb
 fr:Fr (λk=>¬ c.H k) wb w
 at_:∃ (cv:O) (code:List gP) (pos:Nat),bD w c.g [cv,c.nv,i64 pos,c.lv,i64 d] 252/\w.ownsRow c.B 70 3 cv code.length (jK code)/\lo<=code.length/\code.length<=n/\pos<=n/\(∀ x∈code,x.rg)/\∀ k,cv.ownBlock=some k->¬ c.H k
theorem Mk.mono {c:Mc} {lo lo':Nat} (h:Mk c wb w lo n d) (h1:lo'<=lo) (h2:n<=n'):Mk c wb w lo' n' d:=by
 obtain ⟨o,fr,cv,code,pos,a1,a2,a3,a4,a5,a6⟩:=h;exact ⟨o,fr,cv,code,pos,a1,a2,by omega,by omega,by omega,a6⟩
theorem Mk.up {c:Mc} {lo:Nat} (h:Mk c wb w lo n d) (h2:n<=n'):Mk c wb w 0 n' d:=h.mono (Nat.zero_le _) h2
theorem Mk.ext {c:Mc} {wb w':Ω} {lo n d:Nat} (h:Mk c wb w lo n d) (hx:aG w w'):Mk c wb w' lo n d:=by
 obtain ⟨o,fr,cv,code,pos,a1,a2,a3⟩:=h;exact ⟨o,fr.trans (Fr.of_ext hx) λ_ _ h=>h,cv,code,pos,a1.ext hx,hx.own a2,a3⟩
theorem Mk.numsAt {c:Mc} {lo:Nat} (h:Mk c wb w lo n d):aU w c.nv c.nums:=h.o.nums w h.fr
theorem Mk.locAt {c:Mc} {lo:Nat} (h:Mk c wb w lo n d):aU w c.lv c.loc:=h.o.loc w h.fr
theorem Mk.gH {c:Mc} {lo:Nat} (h:Mk c wb w lo n d):¬ c.H c.g:=λhg=>(h.o.hH _ hg).2 rfl
theorem ldD {c:Mc} {lo:Nat} (h:Mk c wb w lo n d) (hk:K (i64 (d:Nat)) w):V prog (Instr.fieldAt 252 (.pointer (some ⟨c.g,0,none⟩)) 4) w λq w1=>V prog (Instr.loadAt 3 q) w1 K:=by
 obtain ⟨cv,code,pos,a1,_⟩:=h.at_;exact bA (bD.boxed a1) gM aL rfl hk
theorem stD {c:Mc} {lo d':Nat} {K':Ω->Prop} (h:Mk c wb w lo n d) (hk:∀ w',Mk c wb w' lo n d'->K' w'):V prog (Instr.fieldAt 252 (.pointer (some ⟨c.g,0,none⟩)) 4) w λq w1=>U prog (Instr.storeAt 3 q (i64 (d':Nat))) w1 λ_ w2=>K' w2:=by
 have hg:=h.gH;obtain ⟨o,fr,cv,code,pos,a1,a2,a3⟩:=h;refine BG gM fK a1 (n:=5) rfl (by decide) rfl (hk _ ⟨o,fr.set hg,cv,code,pos,a1.set 4 _,?_,a3⟩);exact (Fr.of_set (S:=λi=>i=c.g) rfl).own a2 λk hk he=>by have:=(a2.lt k hk).1;have:=o.gB.1;omega
theorem CP (l:List gP) (x:gP):jK (l++[x])=jK l++[i64 x.op,i64 x.a,i64 x.b]:=by simp [jK]
theorem dV {c:Mc} {lo:Nat} {op a b:Int} (h:Mk c wb w lo n d) (hn:n<=1000000) (hk:∀ w',Mk c wb w' 1 (n+1) d->K (.tuple #[]) w') (hb:-9223372036854775808<=b/\b<=9223372036854775807:=by decide) :
  aC prog 132 #[.pointer (some ⟨c.g,0,none⟩),i64 op,i64 a,i64 b] w K:=by
 have hg:=h.gH;obtain ⟨o,fr,cv,code,pos,a1,a2,a3,a4,a5,a6,a7⟩:=h;have hgB:=o.gB;apply UF;unfold AJ;refine ⟨.inl ⟨_,rfl⟩,bA (bD.boxed a1) bS iF rfl ?_⟩;refine bld tR [(0,i64 op),(1,i64 a),(2,i64 b)] rfl rfl ?_;refine EP underlying71 nZ rfl (by decide) [.agg #[i64 op,i64 a,i64 b]] rfl rfl (by intro v hv;rw [List.mem_singleton] at hv;subst hv;rfl) (by decide) (by decide) λuv w5 ho5 x5=>?_;refine apG underlying71 nZ rfl (by decide) (x5.own a2) (aB.of_own ho5) (by rfl) (by omega) (by unfold maxLen;omega) (Nat.le_trans hgB.2 (fr.trans (Fr.of_ext x5) λ_ _ h=>h).size) λv6 w6 ho6 hg6 hl6=>?_;have a1':bD w6 c.g _ _:=(Fr.of_grown (S:=λk=>cv.ownBlock=some k) hg6 λk hk=>hk).blk (a1.ext x5) λhk=>by have:=(a2.lt _ hk).1;omega
 have fr6:Fr (λk=>¬ c.H k) wb w6:=(fr.trans (Fr.of_ext x5) λ_ _ h=>h).trans (Fr.of_grown (S:=λk=>¬ c.H k) hg6 λk hk=>a7 k hk) λ_ _ h=>h;have e6:jK code++[Value.agg #[i64 op,i64 a,i64 b]].flatMap (λv=>v.cells.toList)=jK (code++[⟨op,a,b⟩]):=by rw [CP];rfl
 rw [e6] at ho6;refine ⟨.inl ⟨_,rfl⟩,BG bS wS a1' (n:=5) rfl (by decide) (eZ ho6) (hk _ ⟨o,fr6.set hg,v6,code++[⟨op,a,b⟩],pos,a1'.set 0 _,?_,by simp,by simp;omega,by omega,λx hx=>?_,λk hk=>?_⟩)⟩
 ·rw [List.length_append];exact (Fr.of_set (S:=λi=>i=c.g) rfl).own ho6 λk hk he=>by have:=(ho6.lt k hk).1;omega
 ·rcases List.mem_append.1 hx with hx|hx
  ·exact a6 x hx
  ·rw [List.mem_singleton] at hx;subst hx;exact hb
 ·rcases hl6 with h6|h6
  ·rw [h6] at hk;exact a7 k hk
  ·rw [h6] at hk;cases hk;intro hH;have h1:=(o.hH _ hH).1;have h2:=fr.size;have h3:=x5.size;omega
theorem hJ {c:Mc} {lo:Nat} (h:Mk c wb w lo n d) (hn:n<=1000000) (hk:∀ z w',Mk c wb w' lo (n+1) d->Fr (λk=>k=c.g) w w'->K (i64 z) w') :
  aC prog 210 #[.pointer (some ⟨c.g,0,none⟩)] w K:=by
 have hg:=h.gH;have hnum:=h.numsAt;have h0:=h;obtain ⟨o,fr,cv,code,pos,a1,a2,a3,a4,a5,a6⟩:=h;have hgB:=o.gB;have hln:=o.ln;apply TW;unfold AB;refine ⟨.inl ⟨_,rfl⟩,bA (bD.boxed a1) eJ aZ rfl (gG aM hnum (aF.2 (aK (λhz=>?_) λhz=>?_)))⟩
 ·exact hk 0 w (h0.mono (Nat.le_refl _) (by omega)) (Fr.refl _ _)
 refine ⟨.inl ⟨_,rfl⟩,bA (bD.boxed a1) gN aL rfl (bW.2 ?_)⟩;rw [aX (by omega),dF];refine ⟨.inl ⟨_,rfl⟩,BG gN fK a1 (n:=5) rfl (by decide) rfl ?_⟩;have hset:Fr (λk=>k=c.g) w (w.setCell ⟨c.g,2,none⟩ (i64 ((pos+1:Nat):Int))):=Fr.of_set rfl
 have hm:Mk c wb (w.setCell ⟨c.g,2,none⟩ (i64 ((pos+1:Nat):Int))) lo (n+1) d:=by
  refine ⟨o,fr.set hg,cv,code,pos+1,a1.set 2 _,?_,a3,by omega,by omega,a6⟩;exact hset.own a2 λk hk he=>by have:=(a2.lt k hk).1;omega
 have a1s:=a1.set 2 (i64 ((pos+1:Nat):Int));generalize w.setCell ⟨c.g,2,none⟩ (i64 ((pos+1:Nat):Int))=w2 at hset hm a1s;have D1:aG w2 w2.drew:=(aG.refl _).drew;have hbx:∀ w',aG w2.drew w'->gD w' c.g [cv,c.nv,i64 ((pos+1:Nat):Int),c.lv,i64 d]:=λw' hx=>bD.boxed (a1s.ext (D1.trans hx));have hnum2:=(hm.ext D1).numsAt;have hlen:0 < c.nums.length:=by omega
 refine aH.mk' (λw'=>aG w2.drew w') (aG.refl _) ?_;refine ⟨.inl ⟨_,rfl⟩,dT hbx eJ aZ rfl ?_⟩;refine ⟨.inl ⟨_,rfl⟩,dT hbx gN aL rfl ?_⟩;refine ⟨.inl ⟨_,rfl⟩,dT hbx eJ aZ rfl (tW aM hnum2 ?_)⟩;refine aD.ok (λw' _=>aSo (by omega)) ?_
 have e1:(((pos+1:Nat):Int)).tmod (c.nums.length:Int)=(((pos+1) % c.nums.length:Nat):Int):=by
  rw [Int.tmod_eq_emod_of_nonneg (by omega)];rfl
 rw [e1];have hlt:=Nat.mod_lt (pos+1) hlen;refine gF aM aL hnum2 (λ_ h=>h) (by omega) (by omega) (fQ (rM hlt)) ?_;refine ⟨.inl ⟨_,rfl⟩,dT hbx gN aL rfl ?_⟩;refine ⟨.inl ⟨_,rfl⟩,dT hbx eJ aZ rfl (tW aM hnum2 ?_)⟩;refine aD.ok (λw' _=>GW (by omega)) (aD.ok (λw' _=>nW) ?_);exact hk _ _ (hm.ext D1) (hset.trans (Fr.of_ext D1) λ_ _ h=>h)
theorem vH {c:Mc} {lo:Nat} (h:Mk c wb w lo n d) (hn:n<=1000000) (hk:∀ z b w',Mk c wb w' lo (n+1) d->K (.tuple #[i64 z,.bool b]) w') :
  aC prog 211 #[.pointer (some ⟨c.g,0,none⟩),i64 k] w K:=by
 have hgB:=h.o.gB;have hsz:=h.fr.size;have hll:=h.o.ll;apply TV;unfold AA;refine ⟨λsv v w'=>∃ (j:Nat) (l:List Int),v=i64 j/\j<=c.loc.length/\l.length<=j/\aG w w'/\w'.ownsRow w.heap.size 3 1 sv l.length (l.map i64),λ_ v _=>c.loc.length - (RowKit.intOf v).toNat,⟨0,[],rfl,Nat.zero_le _,Nat.le_refl _,aG.refl _,World.ownsRow_nil _ _ _ _⟩,?_⟩;rintro sv _ w1 ⟨j,l,rfl,hj,hl,x1,ho⟩ _;have h1:=h.ext x1;obtain ⟨o,fr,cv,code,pos,a1,a2,_⟩:=h1;have hloc:=o.loc _ fr;refine ⟨.inl ⟨_,rfl⟩,bA (bD.boxed a1) eG aZ rfl (gG aM hloc (aV.2 (aK (λhlt=>?_) λhge=>?_)))⟩
 ·refine ⟨.inl ⟨_,rfl⟩,bA (bD.boxed a1) eG aZ rfl ?_⟩;refine nO aM aL hloc (by omega) (by omega) (fQ (rM (l:=c.loc) (j:=j) (by omega))) (aF.2 (aK (λhe=>?_) λhe=>?_))
  ·refine mF bU [i64 j] rfl rfl (by simp) rfl λv2 w2 ho2 x2=>?_;refine WT bU (x2.own ho) (aB.of_own ho2) rfl (by omega) (by unfold maxLen;omega) (x1.trans x2).size λv3 w3 ho3 hg3=>?_;refine mH (by omega) ?_;exact ⟨⟨j+1,l++[(j:Int)],rfl,by omega,by simp;omega,(x1.trans x2).grown hg3 λq hq=>((x2.own ho).lt q hq).1,by simpa using ho3⟩,by simp only [aT];omega⟩
  ·refine mH (by omega) ?_;exact ⟨⟨j+1,l,rfl,by omega,by omega,x1,ho⟩,by simp only [aT];omega⟩
 refine gG aM (aB.of_own ho) (aF.2 (aK (λhz=>?_) λhz=>?_))
 ·exact hk _ _ _ ((h.ext x1).mono (Nat.le_refl _) (by omega))
 refine hJ (h.ext x1) hn λz w2 h2 f2=>?_;have ho2:=f2.own ho λq hq he=>by have:=(ho.lt q hq).1;omega
 refine gG aM (aB.of_own ho2) (eV (by omega) (by omega) λq hq0 hq1=>?_);obtain ⟨r,rfl⟩:∃ r:Nat,q=r:=⟨q.toNat,by omega⟩;refine aMo aM aL ho2 (by omega) (by omega) (fQ (rM (by omega))) ?_;exact hk _ _ _ h2
theorem tT {c:Mc} {lo:Nat} (h:Mk c wb w lo n d) (hn:n<=900000) (hk:∀ w',Mk c wb w' 0 (n+6) d->K (.tuple #[]) w') :
  aC prog 178 #[.pointer (some ⟨c.g,0,none⟩),i64 k] w K:=by
 apply UC;unfold AF;refine hJ h (by omega) λz w1 h1 _=>?_;refine eV (by decide) (by decide) λq hq0 hq1=>?_;have hc:q=0\/q=1\/q=2\/q=3\/q=4\/q=5:=by omega
 rcases hc with rfl|rfl|rfl|rfl|rfl|rfl
 case inl|inr.inl=>
  all_goals
   simp only [aY,Int.reduceEq]
   try intro _
   refine vH h1 (by omega) λz b w2 h2=>?_;refine cL.2 (cK.2 ?_);cases b with
   | true=>
    refine aE.2 ?_;exact dV h2 (by omega) λw3 h3=>hk _ (h3.up (by omega))
   | false=>
    refine aA.2 ?_;exact dV h2 (by omega) λw3 h3=>hk _ (h3.up (by omega))
 case inr.inr.inl|inr.inr.inr.inl=>
  all_goals
   simp only [aY,Int.reduceEq]
   intros
   refine jV.2 ?_;refine bW.2 ?_;exact dV h1 (by omega) λw3 h3=>hk _ (h3.up (by omega))
 ·simp only [aY,Int.reduceEq]
  intros
  refine jV.2 ?_;exact dV h1 (by omega) λw3 h3=>hk _ (h3.up (by omega))
 ·simp only [aY,Int.reduceEq]
  intros
  refine hJ h1 (by omega) λz w2 h2 _=>?_;refine eV (by decide) (by decide) λq hq0 hq1=>?_;refine dV h2 (by omega) λw3 h3=>?_;refine V.ok (w':=w3) (v:=.agg (([0,1,2,4,5,6]:List Int).map i64).toArray) (by kernel_rfl) ?_;refine hJ h3 (by omega) λz w4 h4 _=>?_;refine eV (by decide) (by decide) λq hq0 hq1=>?_;refine aEm underlying299 fK underlying3 (by decide) hq0 (by simpa using hq1) λu hu=>?_;refine dV h4 (by omega) (λw5 h5=>hk _ (h5.up (by omega))) ?_;simp at hu;omega
end Go.Proofs.YtgkkecladbmjkaaGreatDoor
