/- General laws of operations (from the other texts of this seed). -/
import Derived.Test.YtjcmcfidblhnnaaGreatDoorMb
import Derived.Test.YtjcmcfidblhnnaaGreatDoorMc
import Derived.Test.YtjcmcfidblhnnaaGreatDoorMd
import Derived.Deep.AppendLies
import Derived.Laws.CopyRow
import Derived.Laws.BytesArg
set_option maxHeartbeats 8000000
namespace Go.Vc
section
variable {P:Program} {w:World} {K:Value->World->Prop}
theorem UN {t x:TypeId} {z:Value} {by_:Nat} (h:XA P t 1) (hx:dA P x z 1 by_) {g n c e:Nat} {cs:List Value} (hb:bO w g cs e) (hn:cs.length=n) {k:IntKind} {i:Int} (h0:0<=i) (h1:i < n) {u:Value} (hu:cO u=true) {K':World->Prop}
  (hk:K' (w.setCell ⟨g,i.toNat,none⟩ u)) :
  V P (Instr.indexAt t (.slice (some ⟨g,0,none⟩) n c) (.int k i)) w λp w1=>U P (Instr.storeAt x p u) w1 λ_ w2=>K' w2:=by
 obtain ⟨e',z',b',ht,hi⟩:=h;refine V.ok (jO ht hi h0 h1) ?_;have hlt:i.toNat < cs.length:=by omega
 have hc:=hb.cell i.toNat;rw [List.getElem?_eq_getElem hlt] at hc;simp only [Nat.zero_add,Nat.mul_one];exact U.ok (mO hx hu hc (hb.frozen _)) hk
theorem bG.other {b g j:Nat} {cs:List Value} {u:Value} (h:bG w b cs) (hne:b≠g):bG (w.setCell ⟨g,j,none⟩ u) b cs:=λi v hi=>by
 have:=h i v hi;rw [World.cell?_setCell_other _ _ _ _ (by intro he;cases he;exact hne rfl)];exact this
end
section
variable {P:Program} {w:World} {K:Value->World->Prop} {S:World->Prop} {L:Value->Prop}
theorem jM {s f o ft b:Nat} {cs:List Value} {u:Value} (hb:∀ w',S w'->bG w' b cs) (h:FA P s f o) (hl:L1 P ft) (hc:cs[o]?=some u) (hk:L u) :
  aE P S (Instr.fieldAt s (.pointer (some ⟨b,0,none⟩)) f) λq=>aE P S (Instr.loadAt ft q) L:=by
 obtain ⟨d,hd,ha⟩:=hl;exact aE.ok (λw' _=>h.ex w' b 0) (aE.ok (λw' hw=>iZ hd ha (hb w' hw o u hc)) hk)
theorem nR {t x:TypeId} {v:Value} {n:Nat} {cs:List Value} {k:IntKind} {i:Int} {u:Value} (h:XA P t 1) (hl:L1 P x) (hs0:aA w v 1 n cs) (hx:∀ w',S w'->aF w w') (h0:0<=i) (h1:i < n) (hu:cs[i.toNat]?=some u) (hk:L u) :
  aE P S (Instr.indexAt t v (.int k i)) λp=>aE P S (Instr.loadAt x p) L:=by
 obtain ⟨e,z,b',ht,hi⟩:=h;obtain ⟨d,hd,ha⟩:=hl;obtain ⟨b,off,cap,rfl,hc⟩:=hs0.there (by omega);refine aE.ok (λw' _=>jO ht hi h0 h1) (aE.ok (λw' hw=>iZ hd ha ((hx w' hw).cell ?_)) hk);simpa using hc _ _ hu
theorem rA {t ty n:Nat} {m:Nat} {v:Value} {size:Nat} {cs:List Value} (h:XA P t n) (hs:aA w v size m cs) (hk:L (i64 m)):aE P S (Builtin.len_ #[t] ty #[v]) L:=by
 obtain ⟨e,z,b,ht,hi⟩:=h;obtain ⟨a,c,rfl⟩:=hs.shape;exact aE.ok (λw' _=>uZ ht) hk
end
theorem xG {P:Program} {w:World} {K:Value->World->Prop} {t e by_:Nat} {z:Value} {x:Int} {n:Nat} (hx:x=(n:Int)) (ht:P.underlying t=some (.slice e)) (hi:dA P e z 1 by_) (hz:z.cells=#[z]) (hb:by_*n<=281474976710656) (h63:n<=9223372036854775807)
  (hk:∀ w',bO w' w.heap.size (List.replicate n z) e->aF w w'->w'.heap.size=w.heap.size+1->K (.slice (some ⟨w.heap.size,0,none⟩) n n) w'):V P (Instr.makeSlice t (.int .i64 x) (.int .i64 x)) w K:=by
 subst hx;exact mkB ht hi hz hb h63 hk
section
variable {P:Program} {w:World} {S:World->Prop} {L:Value->Prop}
theorem yA {t n b:Nat} {cs:List Value} (hb:∀ w',S w'->bG w' b cs) (ht:∃ d z by_,P.underlying t=some d/\lQ d=true/\dA P t z n by_) (hl:cs.length=n) (hk:L (.agg cs.toArray)):aE P S (Instr.loadAt t (.pointer (some ⟨b,0,none⟩))) L:=by
 obtain ⟨d,z,by_,h1,h2,h3⟩:=ht
 exact aE.ok (λw' hw=>mP h1 h2 h3 hl λj hj=>by
  obtain ⟨u,hu⟩:∃ u,cs[j]?=some u:=⟨_,List.getElem?_eq_getElem hj⟩;rw [hu];exact hb w' hw j u hu) hk
variable {K:Value->World->Prop}
end
end Go.Vc
namespace Go.Vc
open Go.Proofs
section
variable {P:Program} {w:World} {K:Value->World->Prop}
theorem AP {t:TypeId} {z:Value} {n by_:Nat} (hi:dA P t z n by_) (hk:∀ w1,bO w1 w.heap.size z.cells.toList t->aF w w1->K (.pointer (some ⟨w.heap.size,0,none⟩)) w1):V P (Instr.alloc t true (.tuple #[])) w K:=
 V.ok (VC hi) (hk _ (by unfold bO;rw [heap_alloc_new]) ((aF.refl w).alloc _))
theorem bxK {t:TypeId} {v:Value} (hk:∀ w1,bO w1 w.heap.size v.cells.toList t->aF w w1->K (.pointer (some ⟨w.heap.size,0,none⟩)) w1):V P (Instr.box t v) w K:=
 V.ok aYk (hk _ (by unfold bO;rw [heap_alloc_new]) ((aF.refl w).alloc _))
theorem sI {t n:TypeId} {v:Value} {K':Value->World->Prop} (h:SA P t n) (hn:v.cells.size=n) (h1:v.cells.toList.all cO=true) (hk:∀ w1,bO w1 w.heap.size v.cells.toList t->aF w w1->K' (.pointer (some ⟨w.heap.size,0,none⟩)) w1) :
  V P (Instr.alloc t true (.tuple #[])) w (λp w1=>U P (Instr.storeAt t p v) w1 λ_ w2=>K' p w2):=
 as_ h hn h1 (hk _ (by unfold bO;rw [heap_alloc_new]) ((aF.refl w).alloc _))
theorem bO.boxed {g:Nat} {cs:List Value} {e:TypeId} (h:bO w g cs e):bG w g cs:=λj u hj=>by rw [Nat.zero_add,h.cell];exact hj
structure UA (w:World) (g:Nat) (w':World):Prop where
 ext:∀ a,aF a w->a.heap.size<=g->aF a w'
 same:∀ i,i≠g->w'.heap[i]?=w.heap[i]?
 size:w'.heap.size=w.heap.size
 grown:w.grownBy w' (some g)
theorem UA.other {w w':World} {g g':Nat} {cs:List Value} {e:TypeId} (h:UA w g w') (hne:g'≠g) (hb:bO w g' cs e):bO w' g' cs e:=by
 unfold bO at hb ⊢;rw [h.same g' hne];exact hb
theorem UA.cell {w w':World} {g b o:Nat} (h:UA w g w') (hne:b≠g):w'.cell? ⟨b,o,none⟩=w.cell? ⟨b,o,none⟩:=by
 unfold World.cell?;rw [h.same b hne]
theorem UA.ownRow {w w':World} {g B e sz n:Nat} {v:Value} {xs:List Value} (h:UA w g w') (ho:w.ownsRow B e sz v n xs) (hB:g < B):w'.ownsRow B e sz v n xs:=
 ho.kept h.grown (RT ho λk hk=>by cases hk;exact hB)
theorem UA.own {w w':World} {g B e n:Nat} {v:Value} {xs:List Value} (h:UA w g w') (ho:w.ownsRow B e 1 v n xs) (hB:g < B):aA w' v 1 n xs:=by
 obtain ⟨h1,h2⟩:=aA.of_own ho;refine ⟨h1,?_⟩;rcases h2 with h2|⟨b,off,cap,rfl,h3,h4,h5⟩
 ·exact .inl h2
 ·refine .inr ⟨b,off,cap,rfl,h3,h4,λj u hj=>?_⟩;rw [h.cell]
  ·exact h5 j u hj
  ·have:=(ho.lt b rfl).1;omega
theorem CB {g:Nat} {e:TypeId}:∀ (l done old:List Value) (w:World),l.length=old.length->(∀ u∈l,cO u=true)->bO w g (done++old) e ->
  ∃ w',(storeCells ⟨g,0,none⟩ l done.length).run P w=.ok () w'/\bO w' g (done++l) e/\UA w g w'
 | [],done,[],w,_,_,hb=>⟨w,by simp [storeCells],hb,⟨λ_ h _=>h,λ_ _=>rfl,rfl,⟨rfl,rfl,rfl,Nat.le_refl _,λ_ _ _=>rfl⟩⟩⟩
 | v::l,done,u::old,w,hl,h1,hb=>by
  have hc:=hb.cell done.length;simp only [List.getElem?_append_right (Nat.le_refl _),Nat.sub_self,List.getElem?_cons_zero] at hc;have hs:=vO (P:=P) (h1 v (by simp)) hc (hb.frozen done.length)
  have hb1:bO (w.setCell ⟨g,done.length,none⟩ v) g ((done++[v])++old) e:=by
   have:=hb.set done.length v;rw [List.set_append_right _ _ (Nat.le_refl _)] at this;simpa using this
  obtain ⟨w',h2,h3,h4⟩:=CB l (done++[v]) old _ (by simpa using hl) (λu hu=>h1 u (by simp [hu])) hb1;refine ⟨w',?_,by simpa using h3,⟨λa ha hg=>h4.ext a (ha.setCell hg v) hg,λi hi=>(h4.same i hi).trans (heap_setCell_other _ _ _ _ (λhe=>hi he)),h4.size.trans (by simp),⟨h4.grown.os,h4.grown.tape,h4.grown.output,by have:=h4.grown.size;simpa using this,λk hk hne=>(h4.grown.block k (by simpa using hk) hne).trans (heap_setCell_other _ _ _ _ (λhe=>hne (by simp [he])))⟩⟩⟩;simp only [storeCells,lJ,Nat.zero_add,Sem.run_bind];rw [hs,Result.andThen_ok];simpa using h2
theorem zS {t:TypeId} {z v:Value} {n by_ g:Nat} {old l:List Value} {e:TypeId} {K':Value->World->Prop} (hi:dA P t z n by_) (hb:bO w g old e) (hv:v.cells=l.toArray) (hl:l.length=n) (ho:old.length=n) (h1:l.all cO=true)
  (hk:∀ w',bO w' g l e->UA w g w'->K' undef w'):U P (Instr.storeAt t (.pointer (some ⟨g,0,none⟩)) v) w K':=by
 obtain ⟨w',h2,h3,h4⟩:=CB (P:=P) l [] old w (by omega) (λu hu=>List.all_eq_true.1 h1 u hu) hb;refine U.ok ?_ (hk w' (by simpa using h3) h4);simp only [List.length_nil] at h2;simp [Instr.storeAt,Instr.sureAddr,storeVar,gG hi,hv,hl,h2]
theorem pZ {t:TypeId} {d:TypeDesc} {z:Value} {n by_ g:Nat} {l:List Value} {e:TypeId} (ht:P.underlying t=some d) (hd:lQ d=true) (hi:dA P t z n by_) (hb:bO w g l e) (hl:l.length=n) :
  (loadVar t ⟨g,0,none⟩).run P w=.ok (.agg l.toArray) w:=by
 have:=mP (P:=P) (w:=w) (b:=g) (off:=0) ht hd hi hl λj hj=>by
  obtain ⟨u,hu⟩:∃ u,l[j]?=some u:=⟨_,List.getElem?_eq_getElem hj⟩;rw [hu,Nat.zero_add,hb.cell];exact hu
 simpa [Instr.loadAt,Instr.sureAddr] using this
end
end Go.Vc
namespace Go.Vc
section
variable {P:Program} {w:World} {K:Value->World->Prop} {S:World->Prop} {L:Value->Prop}
theorem uU {t x:TypeId} {v:Value} {n sz:Nat} {cs l:List Value} {k:IntKind} {i:Int} (h:XA P t sz) (ht:∃ d z by_,P.underlying x=some d/\lQ d=true/\dA P x z sz by_) (hs:aA w v sz n cs) (h0:0<=i) (h1:i < n)
  (hc:(cs.drop (i.toNat*sz)).take sz=l) (hl:l.length=sz) (hk:K (.agg l.toArray) w) :
  V P (Instr.indexAt t v (.int k i)) w λp w1=>V P (Instr.loadAt x p) w1 K:=by
 obtain ⟨e,z,b',hte,hi⟩:=h;obtain ⟨d,z',by_,h2,h3,h4⟩:=ht;obtain ⟨b,off,cap,rfl,hcell⟩:=hs.there (by omega);refine V.ok (jO hte hi h0 h1) (V.ok (mP h2 h3 h4 hl λj hj=>?_) hk);obtain ⟨u,hu⟩:∃ u,l[j]?=some u:=⟨_,List.getElem?_eq_getElem hj⟩;rw [hu,Nat.add_assoc];refine hcell _ u ?_;rw [<- hc,List.getElem?_take,List.getElem?_drop] at hu;split at hu
 ·exact hu
 ·cases hu
theorem aAj {t:TypeId} {a b:Int} (hk:L (.bool (decide (a < b)))):aE P S (binOp .lss t (.int .i64 a) (.int .i64 b)) L:=aE.ok (λ_ _=>zU) hk
theorem bJh {t:TypeId} {a b:Int} (hk:L (.bool (decide (a>=b)))):aE P S (binOp .geq t (.int .i64 a) (.int .i64 b)) L:=aE.ok (λ_ _=>wX) hk
end
end Go.Vc
namespace Go.Vc
open Go.Proofs
section
variable {P:Program} {w:World} {K:Value->World->Prop} {S:World->Prop} {L:Value->Prop}
theorem mY {t:TypeId} {zs:List Value} (h:BD P t zs) {parts:Array (Nat × Value)} (l:List (Nat × Value)) (hp:parts=l.toArray) (h1:(l.all λx=>decide (x.1 < zs.length)&&cO x.2)=true)
  (hk:L (.agg (l.foldl (λcs x=>cs.set x.1 x.2) zs).toArray)):aE P S (Instr.build t parts) L:=by
 subst hp;obtain ⟨fs,b,hu,hi,hm⟩:=h;refine aE.ok (λw _=>?_) hk;simp only [Instr.build,Sem.run_bind,qQ hi,Result.andThen_ok,run_underlying hu,hm,Value.cells];rw [aHi l zs rfl h1];simp
theorem pS {t:TypeId} (h:MI P t) {v:Value} (hk:L (.iface t v)):aE P S (Instr.makeInterface t v) L:=by
 obtain ⟨d,hu,hd⟩:=h;refine aE.ok (λw _=>?_) hk;cases d<;>first|(simp [Instr.makeInterface,run_underlying hu];done)|cases hd
theorem bAa {t:TypeId} {ts:Array TypeId} {a b:Int}:(Builtin.max_ ts t #[.int .i64 a,.int .i64 b]).run P w=.ok (.int .i64 (if a < b then b else a)) w\/(Builtin.max_ ts t #[.int .i64 a,.int .i64 b]).run P w=.ok (.int .i64 (if b < a then a else b)) w:=by
 simp [Builtin.max_,Builtin.max2]
theorem mx2 {t:TypeId} {ts:Array TypeId} {a b:Int} (hk:∀ c,(c=a\/c=b)->a<=c->b<=c->K (.int .i64 c) w):V P (Builtin.max_ ts t #[.int .i64 a,.int .i64 b]) w K:=by
 rcases bAa (P:=P) (w:=w) (t:=t) (ts:=ts) (a:=a) (b:=b) with h|h
 iterate 2
  ·exact V.ok h (hk _ (by split<;>simp) (by split<;>omega) (by split<;>omega))
theorem aEs {t:TypeId} {ts:Array TypeId} {a b:Int}:(Builtin.min_ ts t #[.int .i64 a,.int .i64 b]).run P w=.ok (.int .i64 (if a < b then a else b)) w\/(Builtin.min_ ts t #[.int .i64 a,.int .i64 b]).run P w=.ok (.int .i64 (if b < a then b else a)) w:=by
 simp [Builtin.min_,Builtin.min2]
theorem mn2 {t:TypeId} {ts:Array TypeId} {a b:Int} (hk:∀ c,(c=a\/c=b)->c<=a->c<=b->K (.int .i64 c) w):V P (Builtin.min_ ts t #[.int .i64 a,.int .i64 b]) w K:=by
 rcases aEs (P:=P) (w:=w) (t:=t) (ts:=ts) (a:=a) (b:=b) with h|h
 iterate 2
  ·exact V.ok h (hk _ (by split<;>simp) (by split<;>omega) (by split<;>omega))
theorem rm {t:TypeId} {a b:Int} (hb:0 < b) (hk:∀ c,c=a.tmod b->-b < c->c < b->K (.int .i64 c) w):V P (binOp .rem t (.int .i64 a) (.int .i64 b)) w K:=by
 have hne:b≠0:=by omega
 have hr:(binOp .rem t (.int .i64 a) (.int .i64 b)).run P w=.ok (.int .i64 (a.tmod b)) w:=by simp [binOp,Op.intDiv,hne]
 exact V.ok hr (hk _ rfl (by have:=Int.lt_tmod_of_pos a hb;simpa using this) (Int.tmod_lt_of_pos a hb))
theorem VB {t e n:TypeId} {z:Value} {by_:Nat} (ht:P.underlying t=some (.array n e)) (hi:dA P e z 1 by_) {b off:Nat} {i:Int} (h0:0<=i) (h1:i < n) :
  (Instr.indexAt t (.pointer (some ⟨b,off,none⟩)) (.int .i64 i)).run P w=.ok (.pointer (some ⟨b,off+i.toNat,none⟩)) w:=by
 simp [Instr.indexAt,asIntOf,run_underlying ht,Instr.sureAddr,gG hi,h0,h1,lJ]
theorem bHm {t e n:TypeId} {z:Value} {by_:Nat} (ht:P.underlying t=some (.array n e)) (hi:dA P e z 1 by_) (hd:∃ k,P.underlying e=some (.int k)) {cs:Array Value} {i:Int} {u:Value} (h0:0<=i) (h1:i < n) (hu:cs[i.toNat]?=some u) (_:cO u=true) :
  (Instr.index t (.agg cs) (.int .i64 i)).run P w=.ok u w:=by
 obtain ⟨k,hd⟩:=hd;simp [Instr.index,asIntOf,run_underlying ht,gG hi,h0,h1,part,uK hd,lQ,hu]
theorem bJn {t e:TypeId} {z:Value} {by_:Nat} (ht:P.underlying t=some (.slice e)) (hi:dA P e z 1 by_) {a:Option Addr} {n c k:Nat} (hk:k<=c) :
  (Instr.sliceAt t (.slice a n c) none (some (.int .i64 (k:Int))) none).run P w=.ok (.slice (if c=0 then a else a.map (·.add 0)) k c) w:=by
 have h0:(0:Int)<=k/\(k:Int)<=c:=⟨by omega,by omega⟩;simp [Instr.sliceAt,Instr.slice,run_underlying ht,gG hi,Instr.sliceBounds,Instr.sliceBound,asIntOf,h0];intro h;omega
end
end Go.Vc
namespace Go.Vc
section
variable {P:Program} {w:World}
theorem thK {u x:TypeId} {v:Value} {K:Value->Value->World->Prop} (h:TA P u) (hK:K (.bool true) v w) :
  V P (Instr.typeAssert (.iface u v) x u true) w λt1 w1=>V P (Instr.extract t1 1) w1 λt2 w2=>V P (Instr.extract t1 0) w2 λt3 w3=>K t2 t3 w3:=by
 obtain ⟨z,hz,_⟩:=h;refine V.ok (hz w x u v) ?_;rw [if_pos rfl];exact V.ok nA (V.ok nB hK)
theorem tmK {u t x:TypeId} {v:Value} {K:Value->Value->World->Prop} (h:TA P u) (hne:t≠u) (hK:∀ z,K (.bool false) z w) :
  V P (Instr.typeAssert (.iface t v) x u true) w λt1 w1=>V P (Instr.extract t1 1) w1 λt2 w2=>V P (Instr.extract t1 0) w2 λt3 w3=>K t2 t3 w3:=by
 obtain ⟨z,hz,_⟩:=h;refine V.ok (hz w x t v) ?_;rw [if_neg hne];exact V.ok nA (V.ok nB (hK _))
end
structure Fr (S:Nat->Prop) (w w':World):Prop where
 os:w'.os=w.os
 tape:w'.tape=w.tape
 output:w'.output=w.output
 size:w.heap.size<=w'.heap.size
 block:∀ i,i < w.heap.size->¬ S i->w'.heap[i]?=w.heap[i]?
theorem Fr.refl (S:Nat->Prop) (w:World):Fr S w w:=⟨rfl,rfl,rfl,Nat.le_refl _,λ_ _ _=>rfl⟩
theorem Fr.trans {S T:Nat->Prop} {a b c:World} (h:Fr S a b) (k:Fr T b c) (hT:∀ i,i < a.heap.size->T i->S i):Fr S a c:=
 ⟨k.os.trans h.os,k.tape.trans h.tape,k.output.trans h.output,Nat.le_trans h.size k.size,λi hi hn=>(k.block i (Nat.lt_of_lt_of_le hi h.size) λht=>hn (hT i hi ht)).trans (h.block i hi hn)⟩
theorem Fr.or {S T:Nat->Prop} {a b c:World} (h:Fr S a b) (k:Fr T b c):Fr (λi=>S i\/T i) a c:=
 ⟨k.os.trans h.os,k.tape.trans h.tape,k.output.trans h.output,Nat.le_trans h.size k.size,λi hi hn=>(k.block i (Nat.lt_of_lt_of_le hi h.size) λht=>hn (.inr ht)).trans (h.block i hi λhs=>hn (.inl hs))⟩
theorem Fr.mono {S T:Nat->Prop} {a b:World} (h:Fr S a b) (hT:∀ i,S i->T i):Fr T a b:=⟨h.os,h.tape,h.output,h.size,λi hi hn=>h.block i hi λhs=>hn (hT i hs)⟩
theorem Fr.of_ext {S:Nat->Prop} {w w':World} (h:aF w w'):Fr S w w':=⟨h.os,h.tape,h.output,h.size,λi hi _=>h.block i hi (by simp)⟩
theorem Fr.of_grown {S:Nat->Prop} {w w':World} {row:Option Nat} (h:w.grownBy w' row) (hr:∀ k,row=some k->S k):Fr S w w':=⟨h.os,h.tape,h.output,h.size,λi hi hn=>h.block i hi λhe=>hn (hr i he.symm)⟩
theorem Fr.of_set {S:Nat->Prop} {w:World} {b o:Nat} {v:Value} (hb:S b):Fr S w (w.setCell ⟨b,o,none⟩ v):=⟨rfl,rfl,rfl,by simp,λi _ hn=>heap_setCell_other _ _ _ _ (λhe=>hn (by simp [he];exact hb))⟩
theorem Fr.set {S:Nat->Prop} {w w':World} (h:Fr S w w') {b o:Nat} {v:Value} (hb:S b):Fr S w (w'.setCell ⟨b,o,none⟩ v):=h.trans (Fr.of_set (S:=S) hb) λ_ _ h=>h
theorem Fr.ext {S:Nat->Prop} {w0 w w':World} (h:Fr S w w') (hx:aF w0 w) (hS:∀ i,S i->w0.heap.size<=i):aF w0 w':=
 ⟨h.os.trans hx.os,h.tape.trans hx.tape,h.output.trans hx.output,Nat.le_trans hx.size h.size,λi hi hn=>(h.block i (Nat.lt_of_lt_of_le hi hx.size) λhs=>by have:=hS i hs;omega).trans (hx.block i hi hn)⟩
theorem Fr.blk {S:Nat->Prop} {w w':World} {g:Nat} {cs:List Value} {e:TypeId} (h:Fr S w w') (hb:bO w g cs e) (hn:¬ S g):bO w' g cs e:=by
 unfold bO;rw [h.block g hb.lt hn];exact hb
theorem Fr.own {S:Nat->Prop} {w w':World} {B e sz n:Nat} {v:Value} {xs:List Value} (h:Fr S w w') (ho:w.ownsRow B e sz v n xs) (hn:∀ k,v.ownBlock=some k->¬ S k):w'.ownsRow B e sz v n xs:=by
 refine ⟨ho.1,?_⟩;rcases ho.2 with h1|⟨g,cap,cur,rfl,hb,hg,rest⟩
 ·exact .inl h1
 ·refine .inr ⟨g,cap,cur,rfl,hb,?_,rest⟩;rw [h.block g (Array.getElem?_eq_some_iff.1 hg).1 (hn g rfl)];exact hg
theorem apL {P:Program} {w:World} {K:Value->World->Prop} {t e by_ ty:Nat} (h:XE P t e by_) {B B':Nat} {v:Value} {n:Nat} {xs:List Value} (ho:w.ownsRow B e 1 v n xs) {x:Value} {m:Nat} {news:List Value} (hs:w.ownsRow B' e 1 x m news) (hm:0 < m) (h1:news.all cO=true)
  (hb:(n+m)*by_<=140737488355328) (h63:n+m<=maxLen) (hB:B<=w.heap.size)
  (hk:∀ g cap w',w'.ownsRow B e 1 (.slice (some ⟨g,0,none⟩) (n+m) cap) (n+m) (xs++news)->w.grownBy w' v.ownBlock->(v.ownBlock=some g\/g=w.heap.size)->K (.slice (some ⟨g,0,none⟩) (n+m) cap) w') :
  V P (Builtin.append_ #[t,t] ty #[v,x]) w K:=by
 obtain ⟨z,ht,hi,hz⟩:=h;obtain ⟨i,hi',hz',hn,hby⟩:=info_parts hi;have hs0:=hs;rcases hs.2 with ⟨_,h0⟩|⟨b,cap,cur,rfl,_⟩
 ·omega
 ·obtain ⟨g,cap,w',hr,h2,h3,h4,h5⟩:=run_append_lies (P:=P) (w:=w) t ty B e i z 1 by_ ht hi' hz' hn hby (by simpa using hz) (by omega) v n xs ho ⟨b,0,none⟩ m cap news (by have:=hs.1;simpa using this) (hs0.cells rfl) (λu hu=>by rw [AY];exact List.all_eq_true.1 h1 u hu) hm h63 hb hB _ rfl;exact V.ok hr (hk g cap w' h2 h3 h4)
theorem fnK {P:Program} {w:World} {K:Value->World->Prop} {f:Fn} {a c:Array Value} (h:K (.func f a c) w):V P (Instr.makeFunc f a c) w K:=V.ok (by simp [Instr.makeFunc]) h
theorem ldV {P:Program} {w:World} {K:Value->World->Prop} {t b:Nat} {v:Value} {e:TypeId} (hl:L1 P t) (hb:bO w b [v] e) (hk:K v w):V P (Instr.loadAt t (.pointer (some ⟨b,0,none⟩))) w K:=by
 obtain ⟨d,hd,ha⟩:=hl;exact V.ok (iZ hd ha (by rw [hb.cell];rfl)) hk
theorem FK {P:Program} {w:World} {K:World->Prop} {s f o ft b n by_:Nat} {z u:Value} {cs:List Value} {e:TypeId} (hf:FA P s f o) (hi:dA P ft z 1 by_) (hb:bO w b cs e) (hn:cs.length=n) (ho:o < n) (hu:cO u=true) (hk:K (w.setCell ⟨b,o,none⟩ u)) :
  V P (Instr.fieldAt s (.pointer (some ⟨b,0,none⟩)) f) w λq w1=>U P (Instr.storeAt ft q u) w1 λ_ w2=>K w2:=by
 refine V.ok (hf.ex w b 0) ?_;have hc:=hb.cell o;rw [List.getElem?_eq_getElem (by omega)] at hc;rw [Nat.zero_add];exact U.ok (mO hi hu hc (hb.frozen _)) hk
theorem JY {P:Program} {w:World} {x:TypeId} {z:Value} {by_:Nat} (hx:dA P x z 1 by_) {g e i:Nat} {cs:List Value} (hb:bO w g cs e) (h1:i < cs.length) {u:Value} (hu:cO u=true) {K':World->Prop}
  (hk:K' (w.setCell ⟨g,i,none⟩ u)):U P (Instr.storeAt x (.pointer (some ⟨g,0+i*1,none⟩)) u) w λ_ w2=>K' w2:=by
 have hc:=hb.cell i;rw [List.getElem?_eq_getElem h1] at hc;simp only [Nat.zero_add,Nat.mul_one];exact U.ok (mO hx hu hc (hb.frozen _)) hk
theorem qY.mono {P:Program} {w:World} {f:Value} {args:Array Value} {R K:Value->World->Prop} (h:qY P f args w R) (hk:∀ v w',R v w'->K v w'):qY P f args w K:=by
 obtain ⟨g,cap,h1,h2⟩:=h;exact ⟨g,cap,h1,h2.mono hk⟩
theorem bGy {P:Program} {w:World} {K:World->Prop} {ft b o n by_:Nat} {z u:Value} {cs:List Value} {e:TypeId} (hi:dA P ft z 1 by_) (hb:bO w b cs e) (hn:cs.length=n) (ho:o < n) (hu:cO u=true) (hk:K (w.setCell ⟨b,o,none⟩ u)) :
  U P (Instr.storeAt ft (.pointer (some ⟨b,0+o,none⟩)) u) w λ_ w2=>K w2:=by
 have hc:=hb.cell o;rw [List.getElem?_eq_getElem (by omega)] at hc;rw [Nat.zero_add];exact U.ok (mO hi hu hc (hb.frozen _)) hk
section
variable {P:Program} {w:World}
theorem stY {x:TypeId} {z:Value} {by_:Nat} (hx:dA P x z 1 by_) {B e n g c:Nat} {xs:List Value} (ho:w.ownsRow B e 1 (.slice (some ⟨g,0,none⟩) n c) n xs) {i:Nat} (h1:i < n) {u:Value} (hu:cO u=true) {K':World->Prop}
  (hk:∀ w',w'.ownsRow B e 1 (.slice (some ⟨g,0,none⟩) n c) n (xs.set i u)->w.grownBy w' (some g)->K' w') :
  U P (Instr.storeAt x (.pointer (some ⟨g,0+i*1,none⟩)) u) w λ_ w2=>K' w2:=by
 obtain ⟨s1,s2⟩:=ho.stored i u;have hc:=ho.cellAt i (by omega);have hlt:i < xs.length:=by have:=ho.1;omega
 rw [List.getElem?_eq_getElem hlt] at hc;simp only [Nat.zero_add,Nat.mul_one];exact U.ok (mO hx hu hc (ho.frozenAt _)) (hk _ s1 s2)
end
end Go.Vc
namespace Go.Vc
open Go.Proofs
abbrev u8 (b:Int):Value:=.int .u8 b
section
variable {P:Program} {w:World} {K:Value->World->Prop} {S:World->Prop} {L:Value->Prop}
def bIv (w:World) (v:Value) (l:List Int):Prop:=aA w v 1 l.length (l.map u8)
theorem aAz {t e:TypeId} {z:Value} {by_:Nat} (ht:P.underlying t=some (.slice e)) (hi:dA P e z 1 by_) {v:Value} {n:Nat} {cs:List Value} (h:aA w v 1 n cs) {lo hi':Option Value} {a b:Nat} (ha:(lo=none/\a=0)\/lo=some (.int .i64 a)) (hb:(hi'=none/\b=n)\/hi'=some (.int .i64 b)) (hab:a<=b) (hbn:b<=n) :
  ∃ v',(∀ w',(Instr.sliceAt t v lo hi' none).run P w'=.ok v' w')/\∀ w2,aA w2 v 1 n cs->aA w2 v' 1 (b - a) ((cs.drop a).take (b - a)):=by
 have hcl:cs.length=n:=by have:=h.1;omega
 rcases h.2 with ⟨rfl,h0⟩|⟨g,off,cap,rfl,h1,h2,_⟩
 ·have ea:a=0:=by omega
  have eb:b=0:=by omega
  subst ea eb;refine ⟨.slice none 0 0,λw'=>?_,λw2 _=>?_⟩
  ·rcases ha with ⟨rfl,_⟩|rfl<;>rcases hb with ⟨rfl,_⟩|rfl<;>simp [Instr.sliceAt,Instr.slice,run_underlying ht,gG hi,Instr.sliceBounds,Instr.sliceBound,asIntOf]
  ·simp;exact aA.nil w2 1
 ·have hb1:(0:Int)<=b/\(b:Int)<=cap:=⟨by omega,by omega⟩;have ha1:(0:Int)<=a/\(a:Int)<=b:=⟨by omega,by omega⟩;have hbc:b<=cap:=by omega
  refine ⟨.slice (if cap=a then some ⟨g,off,none⟩ else (some (⟨g,off,none⟩:Addr)).map (·.add (a*1))) (b - a) (cap - a),λw'=>?_,λw2 hw2=>?_⟩
  ·rcases ha with ⟨rfl,rfl⟩|rfl<;>rcases hb with ⟨rfl,rfl⟩|rfl<;>simp [Instr.sliceAt,Instr.slice,run_underlying ht,gG hi,Instr.sliceBounds,Instr.sliceBound,asIntOf,hab,hbc]
  ·refine ⟨by simp;omega,.inr ?_⟩;by_cases hca:cap=a
   ·rw [if_pos hca]
    exact ⟨g,off,cap - a,rfl,by omega,by omega,λj u hj=>by
     have:=(List.getElem?_eq_some_iff.1 hj).1;simp at this;omega⟩
   ·rw [if_neg hca];rcases hw2.2 with ⟨he,_⟩|⟨g',off',cap',he,_,_,h3⟩
    ·cases he
    ·cases he;refine ⟨g,off+a,cap - a,by simp [lJ],by omega,by omega,λj u hj=>?_⟩;rw [List.getElem?_take] at hj;split at hj
     ·rw [List.getElem?_drop] at hj;have:=h3 _ _ hj;rw [Nat.add_assoc];exact this
     ·cases hj
theorem VA {s:TypeId} {x y:Operand} {a b:ByteArray} :
  (do eqGuard .eql s x y (.string a) (.string b);binOp .eql s (.string a) (.string b)).run P w=.ok (.bool (a.toList == b.toList)) w:=by
 simp [eqGuard,binOp,Op.stringOp]
end
end Go.Vc
namespace Go.Proofs.YtjcmcfidblhnnaaGreatDoor
open Tryz
open Go.Vc
inductive aJ where
 | const (dst n:Int)
 | move (dst src:Int)
 | bin (op dst a b:Int)
 | un (op dst a:Int)
 | choose (dst c a b:Int)
 | tick
 | goto (to:Int)
 | branch (cond to:Int)
 | getField (dst f:Int)
 | putField (f src:Int)
 | serve (op a b dst:Int) (args:List Int)
 | call (m dst:Int) (args:List Int)
 | callX (i dst:Int) (args:List Int)
 | ret (src:Int)
def aJ.val (sv:Value):aJ->Value
 | .const d n=>.iface 90 (.agg #[i64 d,i32 n])
 | .move d s=>.iface 107 (.agg #[i64 d,i64 s])
 | .bin op d a b=>.iface 109 (.agg #[i64 op,i64 d,i64 a,i64 b])
 | .un op d a=>.iface 111 (.agg #[i64 op,i64 d,i64 a])
 | .choose d c a b=>.iface 113 (.agg #[i64 d,i64 c,i64 a,i64 b])
 | .tick=>.iface 40 (.agg #[])
 | .goto t=>.iface 115 (.agg #[i64 t])
 | .branch c t=>.iface 117 (.agg #[i64 c,i64 t])
 | .getField d f=>.iface 119 (.agg #[i64 d,i64 f])
 | .putField f s=>.iface 121 (.agg #[i64 f,i64 s])
 | .serve op a b d _=>.iface 123 (.agg #[i64 op,i64 a,i64 b,i64 d,sv])
 | .call m d _=>.iface 125 (.agg #[i64 m,i64 d,sv])
 | .callX i d _=>.iface 127 (.agg #[i64 i,i64 d,sv])
 | .ret s=>.iface 129 (.agg #[i64 s])
def aJ.args:aJ->List Int
 | .serve _ _ _ _ l|.call _ _ l|.callX _ _ l=>l
 | _=>[]
def aJ.df:aJ->Int
 | .const d _|.move d _|.bin _ d _ _|.un _ d _|.choose d _ _ _|.getField d _|.serve _ _ _ d _|.call _ d _|.callX _ d _=>d
 | _=>-1
def aJ.us:aJ->List Int
 | .move _ s=>[s]
 | .bin _ _ a b=>[a,b]
 | .un _ _ a=>[a]
 | .choose _ c a b=>[c,a,b]
 | .branch c _=>[c]
 | .putField _ s=>[s]
 | .serve _ _ _ _ l|.call _ _ l|.callX _ _ l=>l
 | .ret s=>if s=-1 then [] else [s]
 | _=>[]
def aJ.nx (n:aJ) (k:Int):List Int:=
 match n with
 | .goto t=>[t]
 | .branch _ t=>if t=k+1 then [k+1] else [k+1,t]
 | .ret _=>[]
 | _=>[k+1]
def aN (w:World) (v:Value) (l:List Int):Prop:=aA w v 1 l.length (l.map i64)
def fX (w:World) (v:Value) (l:List Bool):Prop:=aA w v 1 l.length (l.map .bool)
def iX (w:World) (v:Value) (n:aJ):Prop:=∃ sv,v=n.val sv/\aN w sv n.args
theorem iX.ext {w w':World} {v:Value} {n:aJ} (h:iX w v n) (hx:aF w w'):iX w' v n:=by
 obtain ⟨sv,h1,h2⟩:=h;exact ⟨sv,h1,h2.ext hx⟩
structure eY where
 params:Int
 regs:Int
 nodes:List aJ
def pR (w:World) (v:Value) (l:List aJ):Prop:=∃ vs,aA w v 1 l.length vs/\∀ (i:Nat) n,l[i]?=some n->∃ u,vs[i]?=some u/\iX w u n
theorem pR.ext {w w':World} {v:Value} {l:List aJ} (h:pR w v l) (hx:aF w w'):pR w' v l:=by
 obtain ⟨vs,h1,h2⟩:=h;refine ⟨vs,h1.ext hx,λi n hi=>?_⟩;obtain ⟨u,h3,h4⟩:=h2 i n hi;exact ⟨u,h3,h4.ext hx⟩
def pD (w:World) (v:Value) (p:eY):Prop:=∃ ns,v=.agg #[i64 p.params,i64 p.regs,ns]/\pR w ns p.nodes/\∀ n∈p.nodes,n.args.length<=4294967296
theorem pD.ext {w w':World} {v:Value} {p:eY} (h:pD w v p) (hx:aF w w'):pD w' v p:=by
 obtain ⟨ns,h1,h2,h3⟩:=h;exact ⟨ns,h1,h2.ext hx,h3⟩
theorem aDm (n:aJ):n.us.length<=n.args.length+3:=by
 cases n<;>simp [aJ.us,aJ.args];split<;>simp
theorem aFk (n:aJ) (k:Int):(n.nx k).length<=2:=by
 cases n<;>simp [aJ.nx];split<;>simp
theorem aN.ext {w w':World} {v:Value} {l:List Int} (h:aN w v l) (hx:aF w w'):aN w' v l:=aA.ext h hx
theorem fX.ext {w w':World} {v:Value} {l:List Bool} (h:fX w v l) (hx:aF w w'):fX w' v l:=aA.ext h hx
theorem cG {l:List Int} {j:Nat} {u:Int} (h:l[j]?=some u):(l.map i64)[(j:Int).toNat]?=some (i64 u):=by simp [h]
theorem LX {l:List Bool} {j:Nat} {u:Bool} (h:l[j]?=some u):(l.map Value.bool)[(j:Int).toNat]?=some (.bool u):=by simp [h]
theorem bC {α:Type} {l:List α} {j:Nat} (h:j < l.length):∃ u,l[j]?=some u:=⟨_,List.getElem?_eq_getElem h⟩
theorem aR (j:Nat):Value.int .i64 ((j:Int)+1)=i64 ((j+1:Nat):Int):=by simp
theorem aL (n:Int):RowKit.intOf (i64 n)=n:=rfl
end Go.Proofs.YtjcmcfidblhnnaaGreatDoor
namespace Go.Tc
structure lC where
 op:Int
 a:Int
 b:Int
structure jH where
 params:List Int
 result:Int
 locals:List Int
 code:List lC
structure HH where
 name:ByteArray
 exp:Int
 params:List Int
 result:Int
structure gN where
 name:ByteArray
 fields:List Int
 imports:List HH
 methods:List jH
 exports:List Int
def jH.none:jH:=⟨[],0,[],[]⟩
def HH.none:HH:=⟨ByteArray.empty,0,[],0⟩
def lC.none:lC:=⟨0,0,0⟩
def jH.locs (m:jH):List Int:=m.params++m.locals
def gN.meth (i:gN) (k:Int):jH:=i.methods.getD k.toNat jH.none
def gN.imp (i:gN) (k:Int):HH:=i.imports.getD k.toNat HH.none
def jH.ins (m:jH) (pc:Nat):lC:=m.code.getD pc lC.none
def dW (k:Int):Bool:=k == 1||k == 2
def fM (k:Int):Bool:=k == 3||k == 4
def qZ (a b:Int):Int:=if a=2\/b=2 then 2 else 1
def ofK (a:Int):Int:=if a=3 then 1 else if a=4 then 2 else 0
def AA (a b:Int):Option Int:=if dW a&&dW b then some (qZ a b) else if fM a&&a == b then some a else none
def lT:List Int->List Int->Option (List Int)
 | [],[]=>some []
 | a::l,b::m=>(AA a b).bind λk=>(lT l m).map (k::·)
 | _,_=>none
def Kd (k:Int):Prop:=1<=k/\k<=4
instance (k:Int):Decidable (Kd k):=by unfold Kd;exact inferInstance
def rU (l:List Int):Prop:=∀ k∈l,Kd k
def lim (op:Int):Int × Int:=
 if op=1 then (-2147483648,2147483647) else if op=2\/op=3 then (0,9) else if op=23\/op=24 then (0,119)
 else if op=25\/op=27 then (3,4) else if op=33\/op=34 then (0,7) else if op=35\/op=36 then (1,2)
 else if op=37 then (0,7) else if op=38 then (0,3) else (0,0)
def lC.right (x:lC):Prop:=(1<=x.op/\x.op<=39)/\(lim x.op).1<=x.a/\x.a<=(lim x.op).2/\(if x.op=27 then (0<=x.b/\x.b<=2)\/(4<=x.b/\x.b<=6) else x.b=0)
def rQ (l:List Int) (most:Int):Prop:=rU l/\(l.length:Int)<=most
def HH.right (x:HH):Prop:=(0<=x.exp/\x.exp < 4)/\rQ x.params 4/\(0<=x.result/\x.result<=4)
def jH.right (m:jH):Prop:=rQ m.params 4/\(0<=m.result/\m.result<=4)/\rQ m.locals (10 - m.params.length)/\(1<=m.code.length/\m.code.length<=120)/\∀ x∈m.code,x.right
def gN.right (i:gN):Prop:=rQ i.fields 8/\(i.imports.length<=4/\∀ x∈i.imports,x.right)/\((1<=i.methods.length/\i.methods.length<=8)/\(∀ m∈i.methods,m.right)/\(i.meth 0).params=[]/\(i.meth 0).result=0) /\
 i.exports.length<=4/\∀ n∈i.exports,0<=n/\n < (i.methods.length:Int)
def eZ (i:gN) (m:jH) (x:lC):Prop:=
 if x.op=2\/x.op=3 then x.a < (m.locs.length:Int) else if x.op=33\/x.op=34 then x.a < (i.fields.length:Int)
 else if x.op=37 then x.a < (i.methods.length:Int) else if x.op=38 then x.a < (i.imports.length:Int)
 else if x.op=23\/x.op=24 then x.a < (m.code.length:Int) else True
def kE (op:Int):Prop:=(6<=op/\op<=14)\/(19<=op/\op<=21)
instance (op:Int):Decidable (kE op):=by unfold kE;exact inferInstance
def mF (r:Int):List Int:=if r=0 then [] else [r]
def aV (i:gN) (m:jH) (x:lC):List Int:=
 if x.op=3 then [m.locs.getD x.a.toNat 0]
 else if x.op=34 then [i.fields.getD x.a.toNat 0]
 else if x.op=4\/x.op=5 then [-1]
 else if x.op=15\/x.op=16 then [-2]
 else if kE x.op then [-2,-2]
 else if x.op=17\/x.op=18 then [-3,-3]
 else if x.op=22 then [-2,-1,-1]
 else if x.op=24\/x.op=27 then [-3]
 else if x.op=26\/x.op=28 then [-4]
 else if x.op=29 then [-4,-3]
 else if x.op=30 then [-4,-3,-2]
 else if x.op=31\/x.op=32 then [-4,-3,-4,-3,-3]
 else if x.op=36 then [-4,-3,-3]
 else if x.op=37 then (i.meth x.a).params
 else if x.op=38 then (i.imp x.a).params
 else if x.op=39 then mF m.result
 else []
def tJ (k a:Int):Bool:=if a=-1 then true else if a=-2\/a=-3 then dW k else if a=-4 then fM k else dW k&&dW a||k == a
def vK (k a:Int):Bool:=(a == -3||a == 1)&&k == 2
def jR:List Int->List Int->Bool
 | a::t,k::l=>tJ k a&&jR t l
 | _,_=>true
def fZ:List Int->List Int->Bool
 | a::t,k::l=>vK k a||fZ t l
 | _,_=>false
def cE (l:List Int) (n:Nat):Int:=l.getD n 0
def mG (x:lC) (t l:List Int):Bool:=
 jR t l&&(if x.op=22 then dW (cE l 1)&&dW (cE l 2)||fM (cE l 1)&&cE l 1 == cE l 2 else true)
def kA (x:lC) (t l:List Int):Bool:=
 if x.op=22 then fM (cE l 1)&&cE l 0 == 2
 else if x.op=30 then fZ t l||(cE l 0 == 3&&cE l 2 == 2)
 else if x.op=31 then fZ t l||(cE l 0 == 3&&cE l 2 == 4)
 else if x.op=36 then fZ t l||(x.a == 1&&cE l 0 == 4)
 else fZ t l
def zV (l:List Int):Int:=if fM (cE l 1) then cE l 1 else qZ (cE l 0) (qZ (cE l 1) (cE l 2))
def iV (i:gN) (m:jH) (x:lC) (l:List Int):List Int:=
 if x.op=1\/x.op=17\/x.op=18\/x.op=26\/x.op=28 then [1]
 else if x.op=2 then [m.locs.getD x.a.toNat 0]
 else if x.op=33 then [i.fields.getD x.a.toNat 0]
 else if x.op=5 then [cE l 0,cE l 0]
 else if kE x.op then [qZ (cE l 0) (cE l 1)]
 else if x.op=15\/x.op=16 then [cE l 0]
 else if x.op=22 then [zV l]
 else if x.op=25\/x.op=27 then [x.a]
 else if x.op=29 then [ofK (cE l 0)]
 else if x.op=32 then (if cE l 0=4\/cE l 2=4 then [2] else [1])
 else if x.op=35 then [3+x.a - 1]
 else if x.op=37 then mF (i.meth x.a).result
 else if x.op=38 then mF (i.imp x.a).result
 else []
def hgt (i:gN) (m:jH) (x:lC):Nat:=(iV i m x (List.replicate 8 0)).length
theorem IX (i:gN) (m:jH) (x:lC) (l:List Int):(iV i m x l).length=hgt i m x:=by
 unfold hgt iV;simp only [apply_ite List.length,List.length_cons,List.length_nil,ite_self]
def BE (i:gN) (m:jH) (x:lC) (s:List Int):Option (List Int):=
 let t:=aV i m x
 if s.length < t.length\/8 < s.length - t.length+hgt i m x then none
 else
  let l:=s.drop (s.length - t.length)
  if mG x t l=true/\kA x t l=false then some (s.take (s.length - t.length)++iV i m x l) else none
def fB (x:lC) (pc:Nat):List Int:=
 if x.op=23 then [x.a] else if x.op=24 then [(pc:Int)+1,x.a] else if x.op=39 then [] else [(pc:Int)+1]
structure St where
 st:List (List Int)
 has:List Bool
 todo:List Bool
def St.ini (n:Nat):St:=⟨List.replicate n [],List.replicate n false,List.replicate n false⟩
def St.h (s:St) (k:Nat):Bool:=s.has.getD k false
def St.t (s:St) (k:Nat):Bool:=s.todo.getD k false
def St.s (s:St) (k:Nat):List Int:=s.st.getD k []
def mX (n:Nat) (s:St) (to:Int) (stack:List Int):Option St:=
 if (n:Int)<=to then none
 else if s.h to.toNat then
  (lT (s.s to.toNat) stack).bind λj=>if j=s.s to.toNat then some s else some { s with st:=s.st.set to.toNat j,todo:=s.todo.set to.toNat true }
 else some ⟨s.st.set to.toNat stack,s.has.set to.toNat true,s.todo.set to.toNat true⟩
def lG (n:Nat) (stack:List Int):List Int->St->Option St
 | [],s=>some s
 | to::l,s=>(mX n s to stack).bind (lG n stack l)
def tR (i:gN) (m:jH) (s:St) (pc:Nat):Option St:=
 (BE i m (m.ins pc) (s.s pc)).bind λstack=>lG m.code.length stack (fB (m.ins pc) pc) { s with todo:=s.todo.set pc false }
def nD:List Bool->Option Nat
 | []=>none
 | true::_=>some 0
 | false::l=>(nD l).map (·+1)
inductive nV (i:gN) (m:jH):St->Option St->Prop
 | done {s:St}:nD s.todo=none->nV i m s (some s)
 | fail {s:St} {pc:Nat}:nD s.todo=some pc->tR i m s pc=none->nV i m s none
 | go {s s':St} {pc:Nat} {r:Option St}:nD s.todo=some pc->tR i m s pc=some s'->nV i m s' r->nV i m s r
theorem nV.det {i:gN} {m:jH} {s:St} {r r':Option St} (h:nV i m s r) (h':nV i m s r'):r=r':=by
 induction h generalizing r' with
 | done h1=>cases h' with
  | done _=>rfl
  | fail h2 _=>rw [h1] at h2;cases h2
  | go h2 _ _=>rw [h1] at h2;cases h2
 | fail h1 h2=>cases h' with
  | done h3=>rw [h1] at h3;cases h3
  | fail _ _=>rfl
  | go h3 h4 _=>rw [h1] at h3;cases h3;rw [h2] at h4;cases h4
 | go h1 h2 _ ih=>cases h' with
  | done h3=>rw [h1] at h3;cases h3
  | fail h3 h4=>rw [h1] at h3;cases h3;rw [h2] at h4;cases h4
  | go h3 h4 h5=>rw [h1] at h3;cases h3;rw [h2] at h4;cases h4;exact ih h5
def St.first (n:Nat):St:=⟨(List.replicate n []).set 0 [],(List.replicate n false).set 0 true,(List.replicate n false).set 0 true⟩
def oZ (i:gN) (m:jH) (r:Option St):Prop:=((∃ x∈m.code,¬ eZ i m x)/\r=none)\/((∀ x∈m.code,eZ i m x)/\nV i m (St.first m.code.length) r)
theorem oZ.det {i:gN} {m:jH} {r r':Option St} (h:oZ i m r) (h':oZ i m r'):r=r':=by
 rcases h with ⟨⟨x,h1,h2⟩,rfl⟩|⟨h1,h2⟩
 ·rcases h' with ⟨_,rfl⟩|⟨h3,_⟩
  ·rfl
  ·exact absurd (h3 x h1) h2
 ·rcases h' with ⟨⟨x,h3,h4⟩,rfl⟩|⟨_,h4⟩
  ·exact absurd (h1 x h3) h4
  ·exact h2.det h4
def kY (i:gN):Prop:=i.right/\∀ m∈i.methods,∃ s,oZ i m (some s)
theorem kU {α:Type} (l:List α) (k j:Nat) (v d:α):(l.set k v).getD j d=if j=k/\k < l.length then v else l.getD j d:=by
 simp only [List.getD_eq_getElem?_getD,List.getElem?_set];by_cases h:k=j
 ·subst h;by_cases hk:k < l.length
  iterate 2
   ·simp [hk]
 ·have:¬ j=k:=λe=>h e.symm;simp [h,this]
theorem sY {l:List Bool} {k:Nat} (h:l.getD k false=true):k < l.length:=by
 by_cases hk:k < l.length
 ·exact hk
 ·rw [List.getD_eq_getElem?_getD,List.getElem?_eq_none (by omega)] at h;cases h
theorem rG:∀ {l:List Bool} {k:Nat},nD l=some k->l.getD k false=true/\∀ j,j < k->l.getD j false=false
 | [],_,h=>by cases h
 | true::_,k,h=>by cases h;exact ⟨rfl,λj hj=>absurd hj (Nat.not_lt_zero _)⟩
 | false::l,k,h=>by
  simp only [nD,Option.map_eq_some_iff] at h;obtain ⟨q,hq,rfl⟩:=h;obtain ⟨h1,h2⟩:=rG hq;refine ⟨h1,λj hj=>?_⟩;cases j with
  | zero=>rfl
  | succ j=>exact h2 j (by omega)
theorem AF:∀ {l:List Bool},nD l=none->∀ j,l.getD j false=false
 | [],_,j=>rfl
 | true::_,h,_=>by cases h
 | false::l,h,j=>by
  simp only [nD,Option.map_eq_none_iff] at h;cases j with
  | zero=>rfl
  | succ j=>exact AF h j
theorem zF:∀ {l:List Bool} {k:Nat},l.getD k false=true->(∀ j,j < k->l.getD j false=false)->nD l=some k
 | [],k,h,_=>by cases h
 | true::l,k,h,h2=>by
  cases k with
  | zero=>rfl
  | succ k=>have:=h2 0 (by omega);cases this
 | false::l,k,h,h2=>by
  cases k with
  | zero=>cases h
  | succ k=>
   have:=zF (l:=l) (k:=k) h λj hj=>h2 (j+1) (by omega);simp [nD,this]
theorem vW:∀ {l:List Bool},(∀ j,j < l.length->l.getD j false=false)->nD l=none
 | [],_=>rfl
 | true::l,h=>by have:=h 0 (by simp);cases this
 | false::l,h=>by
  have:=vW (l:=l) λj hj=>h (j+1) (by simpa using hj);simp [nD,this]
theorem aGm {a b k:Int} (ha:Kd a) (hb:Kd b) (h:AA a b=some k):Kd k/\(k=a\/(a=1/\k=2)):=by
 obtain ⟨a1,a2⟩:=ha;obtain ⟨b1,b2⟩:=hb;have ea:a=1\/a=2\/a=3\/a=4:=by omega
 have eb:b=1\/b=2\/b=3\/b=4:=by omega
 unfold Kd;rcases ea with rfl|rfl|rfl|rfl<;>rcases eb with rfl|rfl|rfl|rfl<;>simp [AA,dW,fM,qZ] at h<;>subst h<;>simp
def AK (l:List Int):Nat:=l.countP (· == 1)
theorem aOj (l:List Int):AK l<=l.length:=List.countP_le_length
theorem LI:∀ {a b j:List Int},rU a->rU b->lT a b=some j->rU j/\j.length=a.length/\(j=a\/AK j < AK a)/\AK j<=AK a
 | [],[],j,_,_,h=>by cases h;exact ⟨λ_ h=>(List.not_mem_nil h).elim,rfl,.inl rfl,Nat.le_refl _⟩
 | [],_::_,_,_,_,h=>by cases h
 | _::_,[],_,_,_,h=>by cases h
 | x::a,y::b,j,ha,hb,h=>by
  simp only [lT,Option.bind_eq_some_iff,Option.map_eq_some_iff] at h;obtain ⟨k,hk,l,hl,rfl⟩:=h;obtain ⟨h1,h2⟩:=aGm (ha x (by simp)) (hb y (by simp)) hk;obtain ⟨h3,h4,h5,h6⟩:=LI (λq hq=>ha q (by simp [hq])) (λq hq=>hb q (by simp [hq])) hl;refine ⟨λq hq=>?_,by simp [h4],?_,?_⟩
  ·rcases List.mem_cons.1 hq with rfl|hq
   ·exact h1
   ·exact h3 q hq
  ·rcases h2 with rfl|⟨rfl,rfl⟩
   ·rcases h5 with rfl|h5
    ·exact .inl rfl
    ·right;simp only [AK,List.countP_cons] at h5 ⊢;omega
   ·right;simp only [AK,List.countP_cons] at h6 ⊢;simp;omega
  ·rcases h2 with rfl|⟨rfl,rfl⟩
   ·simp only [AK,List.countP_cons] at h6 ⊢;omega
   ·simp only [AK,List.countP_cons] at h6 ⊢;simp;omega
theorem GK:∀ {a b j:List Int},lT a b=some j->j.length=a.length/\j.length=b.length
 | [],[],j,h=>by cases h;exact ⟨rfl,rfl⟩
 | [],_::_,_,h=>by cases h
 | _::_,[],_,h=>by cases h
 | x::a,y::b,j,h=>by
  simp only [lT,Option.bind_eq_some_iff,Option.map_eq_some_iff] at h;obtain ⟨k,hk,l,hl,rfl⟩:=h;obtain ⟨h1,h2⟩:=GK hl;simp only [List.length_cons];omega
theorem sS {l:List Int} (h:rU l) {k:Nat} (hk:k < l.length):Kd (l.getD k 0):=by
 rw [List.getD_eq_getElem?_getD,List.getElem?_eq_getElem hk];exact h _ (List.getElem_mem hk)
theorem IC {m:jH} (h:m.right):rU m.locs:=λk hk=>by
 rcases List.mem_append.1 hk with h1|h1
 ·exact h.1.1 k h1
 ·exact h.2.2.1.1 k h1
theorem gN.meth_mem {i:gN} {k:Int} (h0:0<=k) (hk:k < i.methods.length):i.meth k∈i.methods:=by
 unfold gN.meth;rw [List.getD_eq_getElem?_getD,List.getElem?_eq_getElem (by omega)];exact List.getElem_mem _
theorem gN.imp_mem {i:gN} {k:Int} (h0:0<=k) (hk:k < i.imports.length):i.imp k∈i.imports:=by
 unfold gN.imp;rw [List.getD_eq_getElem?_getD,List.getElem?_eq_getElem (by omega)];exact List.getElem_mem _
theorem CL {r:Int} (h:0<=r/\r<=4):rU (mF r):=λk hk=>by
 unfold mF at hk;split at hk
 ·exact (List.not_mem_nil hk).elim
 ·rw [List.mem_singleton] at hk;subst hk;unfold Kd;omega
theorem CK (r:Int):(mF r).length<=1:=by unfold mF;split<;>simp
structure zN (i:gN) (m:jH) (x:lC):Prop where
 ir:i.right
 mr:m.right
 xr:x.right
 nm:eZ i m x
theorem WS {a b:Int}:Kd (qZ a b):=by unfold qZ Kd;split<;>omega
theorem zC:∀ {t l:List Int} {n:Nat},n < t.length->n < l.length->jR t l=true->tJ (cE l n) (cE t n)=true
 | [],_,_,h,_,_=>by simp at h
 | _::_,[],_,_,h,_=>by simp at h
 | a::t,k::l,0,_,_,h=>by simp only [jR,Bool.and_eq_true] at h;exact h.1
 | a::t,k::l,n+1,h1,h2,h=>by
  simp only [jR,Bool.and_eq_true] at h;exact zC (n:=n) (by simpa using h1) (by simpa using h2) h.2
theorem nZ {l:List Int} (h:rU l) {n:Nat} (hn:n < l.length):Kd (cE l n):=sS h hn
theorem aBu {k:Int}:fM k=true↔k=3\/k=4:=by simp [fM]
theorem aBz {i:gN} {m:jH} {x:lC} {l:List Int} (h:zN i m x) (hl:rU l) (hn:l.length=(aV i m x).length) (hk:mG x (aV i m x) l=true):rU (iV i m x l):=by
 obtain ⟨hi,hm,hx,hs⟩:=h;obtain ⟨op,a,b⟩:=x;obtain ⟨⟨o1,o2⟩,a1,a2,_⟩:=hx;dsimp only at o1 o2 a1 a2
 have hop:op=1\/op=2\/op=3\/op=4\/op=5\/kE op\/op=15\/op=16\/op=17\/op=18\/op=22\/op=23\/op=24\/op=25\/op=26\/op=27\/op=28\/op=29\/op=30\/op=31\/op=32\/op=33\/op=34\/op=35\/op=36\/op=37\/op=38\/op=39:=by
  unfold kE;omega
 have one:∀ {k:Int},Kd k->rU [k]:=λhk q hq=>by rw [List.mem_singleton] at hq;subst hq;exact hk
 have nil:rU []:=λ_ h=>(List.not_mem_nil h).elim;have mi:rU m.locs:=IC hm;rcases hop with rfl|rfl|rfl|rfl|rfl|hb|rfl|rfl|rfl|rfl|rfl|rfl|rfl|rfl|rfl|rfl|rfl|rfl|rfl|rfl|rfl|rfl|rfl|rfl|rfl|rfl|rfl|rfl
 case _=>exact one (by unfold Kd;omega)
 case _=>
  have hs:a < (m.locs.length:Int):=hs;have a1:0<=a:=a1;exact one (sS mi (by dsimp only;omega))
 case _=>exact nil
 case _=>exact nil
 case _=>
  have hn:l.length=1:=hn;have h0:Kd (cE l 0):=nZ hl (by omega);intro q hq;simp [iV] at hq;subst hq;exact h0
 case _=>
  have e:iV i m ⟨op,a,b⟩ l=[qZ (cE l 0) (cE l 1)]:=by
   unfold kE at hb;simp only [iV];rw [if_neg (by omega),if_neg (by omega),if_neg (by omega),if_neg (by omega),if_pos (by unfold kE;omega)]
  rw [e];exact one WS
 case _=>have hn:l.length=1:=hn;exact one (nZ hl (by omega))
 case _=>have hn:l.length=1:=hn;exact one (nZ hl (by omega))
 case _=>exact one (by unfold Kd;omega)
 case _=>exact one (by unfold Kd;omega)
 case _=>
  have e:iV i m ⟨22,a,b⟩ l=[zV l]:=rfl;have hn:l.length=3:=hn;rw [e];refine one ?_;unfold zV;split
  ·exact nZ hl (by omega)
  ·exact WS
 case _=>exact nil
 case _=>exact nil
 case _=>have a1:3<=a:=a1;have a2:a<=4:=a2;exact one (by unfold Kd;dsimp only;omega)
 case _=>exact one (by unfold Kd;omega)
 case _=>have a1:3<=a:=a1;have a2:a<=4:=a2;exact one (by unfold Kd;dsimp only;omega)
 case _=>exact one (by unfold Kd;omega)
 case _=>
  have e:iV i m ⟨29,a,b⟩ l=[ofK (cE l 0)]:=rfl;rw [e];simp only [mG,Bool.and_eq_true] at hk;have hn:l.length=2:=hn;have:=zC (t:=[-4,-3]) (l:=l) (n:=0) (show 0 < 2 by decide) (by omega) hk.1;have h2:fM (cE l 0)=true:=this;rw [aBu] at h2;refine one ?_;rcases h2 with h2|h2<;>rw [h2]<;>(unfold Kd ofK;simp)
 case _=>exact nil
 case _=>exact nil
 case _=>
  have e:iV i m ⟨32,a,b⟩ l=if cE l 0=4\/cE l 2=4 then [2] else [1]:=rfl
  rw [e];split<;>exact one (by unfold Kd;omega)
 case _=>
  have hs:a < (i.fields.length:Int):=hs;have a1:0<=a:=a1;exact one (sS hi.1.1 (by dsimp only;omega))
 case _=>exact nil
 case _=>have a1:1<=a:=a1;have a2:a<=2:=a2;exact one (by unfold Kd;dsimp only;omega)
 case _=>exact nil
 case _=>
  exact CL (hi.2.2.1.2.1 _ (gN.meth_mem a1 hs)).2.1
 case _=>
  exact CL (hi.2.1.2 _ (gN.imp_mem a1 hs)).2.2
 case _=>exact nil
theorem DX {i:gN} {m:jH} {x:lC} {s out:List Int} (h:zN i m x) (hs:rU s) (ho:BE i m x s=some out):rU out/\out.length<=8/\(aV i m x).length<=s.length/\out.length=s.length - (aV i m x).length+hgt i m x:=by
 simp only [BE] at ho;split at ho
 ·cases ho
 rename_i hn
 split at ho
 ·rename_i hk
  cases ho;have hsub:rU (s.drop (s.length - (aV i m x).length)):=λk hk=>hs k (List.mem_of_mem_drop hk);have hlen:(s.drop (s.length - (aV i m x).length)).length=(aV i m x).length:=by rw [List.length_drop];omega
  refine ⟨λk hk'=>?_,?_,by omega,?_⟩
  ·rcases List.mem_append.1 hk' with h1|h1
   ·exact hs k (List.mem_of_mem_take h1)
   ·exact aBz h hsub hlen hk.1 k h1
  iterate 2
   ·rw [List.length_append,List.length_take,IX];omega
 ·cases ho
structure WF (m:jH) (s:St):Prop where
 l1:s.st.length=m.code.length
 l2:s.has.length=m.code.length
 l3:s.todo.length=m.code.length
 kd:∀ k,s.h k=true->rU (s.s k)/\(s.s k).length<=8
 no:∀ k,s.h k=false->s.s k=[]/\s.t k=false
def wt (s:St) (k:Nat):Nat:=(if s.t k then 1 else 0)+(if s.h k then 2*AK (s.s k) else 20)
def msr (n:Nat) (s:St):Nat:=((List.range n).map (wt s)).sum
theorem aDq {l:List Nat} {f g:Nat->Nat} (h:∀ k∈l,f k<=g k):(l.map f).sum<=(l.map g).sum:=by
 induction l with
 | nil=>exact Nat.le_refl _
 | cons a l ih=>
  simp only [List.map_cons,List.sum_cons];have:=ih λk hk=>h k (List.mem_cons_of_mem _ hk);have:=h a List.mem_cons_self;omega
theorem HQ {l:List Nat} {f g:Nat->Nat} (h:∀ k∈l,f k<=g k) {a:Nat} (ha:a∈l) (hl:f a < g a):(l.map f).sum < (l.map g).sum:=by
 induction l with
 | nil=>exact (List.not_mem_nil ha).elim
 | cons b l ih=>
  simp only [List.map_cons,List.sum_cons];have h1:=h b List.mem_cons_self;have h2:=aDq λk hk=>h k (List.mem_cons_of_mem _ hk);rcases List.mem_cons.1 ha with rfl|ha
  ·omega
  ·have:=ih (λk hk=>h k (List.mem_cons_of_mem _ hk)) ha;omega
structure Fur (m:jH) (s s':St):Prop where
 has:∀ k,s.h k=true->s'.h k=true
 len:∀ k,s.h k=true->(s'.s k).length=(s.s k).length
 same:∀ k,s'.t k=false->s.h k=true->s'.s k=s.s k
 new:∀ k,s'.t k=false->s'.h k=true->s.h k=true
 wt:∀ k,k < m.code.length->wt s' k<=wt s k
 todo:∀ k,s.t k=true->s'.t k=true
theorem Fur.refl (m:jH) (s:St):Fur m s s:=⟨λ_ h=>h,λ_ _=>rfl,λ_ _ _=>rfl,λ_ _ h=>h,λ_ _=>Nat.le_refl _,λ_ h=>h⟩
theorem Fur.trans {m:jH} {a b c:St} (h:Fur m a b) (k:Fur m b c):Fur m a c where
 has q hq:=k.has q (h.has q hq)
 len q hq:=(k.len q (h.has q hq)).trans (h.len q hq)
 same q h1 h2:=by
  have hb:b.t q=false:=by cases hb:b.t q with
   | false=>rfl
   | true=>rw [k.todo q hb] at h1;cases h1
  exact (k.same q h1 (h.has q h2)).trans (h.same q hb h2)
 new q h1 h2:=by
  have hb:b.t q=false:=by cases hb:b.t q with
   | false=>rfl
   | true=>rw [k.todo q hb] at h1;cases h1
  exact h.new q hb (k.new q h1 h2)
 wt q hq:=Nat.le_trans (k.wt q hq) (h.wt q hq)
 todo q hq:=k.todo q (h.todo q hq)
theorem aPq {m:jH} {s s':St} {to:Int} {stack:List Int} (hw:WF m s) (h0:0<=to) (hs:rU stack) (hl:stack.length<=8) (h:mX m.code.length s to stack=some s') :
  WF m s'/\Fur m s s'/\to < m.code.length/\s'.h to.toNat=true/\(s'.s to.toNat).length=stack.length:=by
 unfold mX at h;split at h
 ·cases h
 rename_i hto
 obtain ⟨k,rfl⟩:∃ k:Nat,to=k:=⟨to.toNat,by omega⟩;simp only [Int.toNat_natCast] at h ⊢;have hk:k < m.code.length:=by omega
 obtain ⟨w1,w2,w3,w4,w5⟩:=hw;split at h
 ·rename_i hh
  obtain ⟨j,hj,h⟩:=Option.bind_eq_some_iff.1 h;obtain ⟨c1,c2⟩:=w4 k hh;obtain ⟨j1,j2,j3,j4⟩:=LI c1 hs hj;have j5:=(GK hj).2;split at h
  ·rename_i he
   cases h;exact ⟨⟨w1,w2,w3,w4,w5⟩,Fur.refl _ _,by omega,hh,by rw [<- he];exact j5⟩
  ·rename_i hne
   cases h;have j3:AK j < AK (s.s k):=j3.resolve_left hne
   have eS:∀ q,St.s { s with st:=s.st.set k j,todo:=s.todo.set k true } q=if q=k then j else s.s q:=λq=>by
    simp only [St.s,kU];by_cases hq:q=k
    ·rw [if_pos ⟨hq,by omega⟩,if_pos hq]
    ·rw [if_neg (λh=>hq h.1),if_neg hq]
   have eT:∀ q,St.t { s with st:=s.st.set k j,todo:=s.todo.set k true } q=if q=k then true else s.t q:=λq=>by
    simp only [St.t,kU];by_cases hq:q=k
    ·rw [if_pos ⟨hq,by omega⟩,if_pos hq]
    ·rw [if_neg (λh=>hq h.1),if_neg hq]
   have eH:∀ q,St.h { s with st:=s.st.set k j,todo:=s.todo.set k true } q=s.h q:=λq=>rfl;refine ⟨⟨by simpa using w1,w2,by simpa using w3,λq hq=>?_,λq hq=>?_⟩,⟨λq hq=>hq,λq hq=>?_,λq h1 h2=>?_,λq _ h2=>h2,λq hq=>?_,λq hq=>?_⟩,by omega,hh,?_⟩
   ·rw [eS];by_cases hqk:q=k
    ·rw [if_pos hqk];exact ⟨j1,by omega⟩
    ·rw [if_neg hqk];exact w4 q hq
   ·have hqk:q≠k:=λe=>by subst e;rw [eH] at hq;rw [hh] at hq;cases hq
    rw [eS,eT,if_neg hqk,if_neg hqk];exact w5 q hq
   ·rw [eS];by_cases hqk:q=k
    ·rw [if_pos hqk,hqk];exact j2
    ·rw [if_neg hqk]
   ·rw [eT] at h1;by_cases hqk:q=k
    ·rw [if_pos hqk] at h1;cases h1
    ·rw [eS,if_neg hqk]
   ·unfold wt;rw [eS,eT,eH];by_cases hqk:q=k
    ·subst hqk;rw [if_pos rfl,if_pos rfl];simp only [hh,if_true];split<;>omega
    ·rw [if_neg hqk,if_neg hqk];exact Nat.le_refl _
   ·rw [eT];by_cases hqk:q=k
    ·rw [if_pos hqk]
    ·rw [if_neg hqk];exact hq
   ·rw [eS,if_pos rfl];exact j5
 ·rename_i hh
  have hh:s.h k=false:=by simpa using hh
  cases h
  have eS:∀ q,St.s ⟨s.st.set k stack,s.has.set k true,s.todo.set k true⟩ q=if q=k then stack else s.s q:=λq=>by
   simp only [St.s,kU];by_cases hq:q=k
   ·rw [if_pos ⟨hq,by omega⟩,if_pos hq]
   ·rw [if_neg (λh=>hq h.1),if_neg hq]
  have eT:∀ q,St.t ⟨s.st.set k stack,s.has.set k true,s.todo.set k true⟩ q=if q=k then true else s.t q:=λq=>by
   simp only [St.t,kU];by_cases hq:q=k
   ·rw [if_pos ⟨hq,by omega⟩,if_pos hq]
   ·rw [if_neg (λh=>hq h.1),if_neg hq]
  have eH:∀ q,St.h ⟨s.st.set k stack,s.has.set k true,s.todo.set k true⟩ q=if q=k then true else s.h q:=λq=>by
   simp only [St.h,kU];by_cases hq:q=k
   ·rw [if_pos ⟨hq,by omega⟩,if_pos hq]
   ·rw [if_neg (λh=>hq h.1),if_neg hq]
  refine ⟨⟨by simpa using w1,by simpa using w2,by simpa using w3,λq hq=>?_,λq hq=>?_⟩,⟨λq hq=>?_,λq hq=>?_,λq h1 h2=>?_,λq h1 h2=>?_,λq hq=>?_,λq hq=>?_⟩,by omega,?_,?_⟩
  ·rw [eS];by_cases hqk:q=k
   ·rw [if_pos hqk];exact ⟨hs,hl⟩
   ·rw [if_neg hqk];rw [eH,if_neg hqk] at hq;exact w4 q hq
  ·rw [eH] at hq;by_cases hqk:q=k
   ·rw [if_pos hqk] at hq;cases hq
   ·rw [if_neg hqk] at hq;rw [eS,eT,if_neg hqk,if_neg hqk];exact w5 q hq
  ·rw [eH];split
   ·rfl
   ·exact hq
  ·have hqk:q≠k:=λe=>by subst e;rw [hh] at hq;cases hq
   rw [eS,if_neg hqk]
  ·have hqk:q≠k:=λe=>by subst e;rw [hh] at h2;cases h2
   rw [eS,if_neg hqk]
  ·have hqk:q≠k:=λe=>by rw [eT,if_pos e] at h1;cases h1
   rw [eH,if_neg hqk] at h2;exact h2
  ·unfold wt;rw [eS,eT,eH];by_cases hqk:q=k
   ·subst hqk;rw [if_pos rfl,if_pos rfl,if_pos rfl];have:=aOj stack;simp only [hh,if_true,Bool.false_eq_true,if_false];omega
   ·rw [if_neg hqk,if_neg hqk,if_neg hqk];exact Nat.le_refl _
  ·rw [eT];split
   ·rfl
   ·exact hq
  ·rw [eH,if_pos rfl]
  ·rw [eS,if_pos rfl]
theorem xP {m:jH} {stack:List Int} (hs:rU stack) (hl:stack.length<=8):∀ {l:List Int} {s s':St},WF m s->(∀ to∈l,0<=to)->lG m.code.length stack l s=some s' ->
  WF m s'/\Fur m s s'/\∀ to∈l,to < m.code.length/\s'.h to.toNat=true/\(s'.s to.toNat).length=stack.length
 | [],s,s',hw,_,h=>by cases h;exact ⟨hw,Fur.refl _ _,λ_ h=>(List.not_mem_nil h).elim⟩
 | to::l,s,s',hw,h0,h=>by
  simp only [lG,Option.bind_eq_some_iff] at h;obtain ⟨s1,h1,h2⟩:=h;obtain ⟨a1,a2,a3,a4,a5⟩:=aPq hw (h0 to (by simp)) hs hl h1;obtain ⟨b1,b2,b3⟩:=xP hs hl a1 (λq hq=>h0 q (by simp [hq])) h2;refine ⟨b1,a2.trans b2,λq hq=>?_⟩;rcases List.mem_cons.1 hq with rfl|hq
  ·exact ⟨a3,b2.has _ a4,(b2.len _ a4).trans a5⟩
  ·exact b3 q hq
def Led (i:gN) (m:jH) (s:St) (k:Nat):Prop:=∃ out,BE i m (m.ins k) (s.s k)=some out/\∀ to∈fB (m.ins k) k,0<=to/\to < m.code.length/\s.h to.toNat=true/\(s.s to.toNat).length=out.length
def XN (i:gN) (m:jH) (s:St):Prop:=s.h 0=true/\s.s 0=[]/\∀ k,s.h k=true->s.t k=false->Led i m s k
theorem VO {i:gN} {m:jH} {x:lC} (h:zN i m x) {pc:Nat}:∀ to∈fB x pc,0<=to:=by
 obtain ⟨_,_,hx,_⟩:=h;obtain ⟨op,a,b⟩:=x;intro to ht;unfold fB at ht;dsimp only at ht;have h1:(lim op).1<=a:=hx.2.1;split at ht
 ·rename_i e;subst e;rw [List.mem_singleton] at ht;subst ht;exact h1
 split at ht
 ·rename_i e;subst e
  rcases List.mem_cons.1 ht with rfl|ht
  ·omega
  ·rw [List.mem_singleton] at ht;subst ht;exact h1
 split at ht
 ·exact (List.not_mem_nil ht).elim
 ·rw [List.mem_singleton] at ht;subst ht;omega
theorem VT {m:jH} {k:Nat} (h:k < m.code.length):m.ins k∈m.code:=by
 unfold jH.ins;rw [List.getD_eq_getElem?_getD,List.getElem?_eq_getElem h];exact List.getElem_mem h
theorem AV {i:gN} {m:jH} {s s':St} {pc:Nat} (hx:∀ x∈m.code,zN i m x) (hw:WF m s) (hi:XN i m s) (hf:nD s.todo=some pc) (h:tR i m s pc=some s') :
  WF m s'/\XN i m s'/\msr m.code.length s' < msr m.code.length s:=by
 obtain ⟨f1,_⟩:=rG hf;have hpc:pc < m.code.length:=by have:=sY f1;have:=hw.l3;omega
 have hh:s.h pc=true:=by
  cases e:s.h pc with
  | true=>rfl
  | false=>have:=(hw.no pc e).2;rw [St.t,f1] at this;cases this
 simp only [tR,Option.bind_eq_some_iff] at h;obtain ⟨stack,hd,hg⟩:=h;have ox:=hx _ (VT hpc);obtain ⟨d1,d2,_,_⟩:=DX ox (hw.kd pc hh).1 hd
 have eT:∀ q,St.t { s with todo:=s.todo.set pc false } q=if q=pc then false else s.t q:=λq=>by
  simp only [St.t,kU];by_cases hq:q=pc
  ·rw [if_pos ⟨hq,by have:=hw.l3;omega⟩,if_pos hq]
  ·rw [if_neg (λh=>hq h.1),if_neg hq]
 have hw1:WF m { s with todo:=s.todo.set pc false }:=⟨hw.l1,hw.l2,by simpa using hw.l3,hw.kd,λq hq=>⟨(hw.no q hq).1,by rw [eT];split;rfl;exact (hw.no q hq).2⟩⟩;obtain ⟨g1,g2,g3⟩:=xP d1 d2 hw1 (VO ox) hg;refine ⟨g1,⟨g2.has 0 hi.1,?_,λk h1 h2=>?_⟩,?_⟩
 ·have:=g2.len 0 hi.1;have e0:St.s { s with todo:=s.todo.set pc false } 0=[]:=hi.2.1;rw [e0] at this;exact List.eq_nil_of_length_eq_zero this
 ·have h3:s.h k=true:=g2.new k h2 h1;have h4:s'.s k=s.s k:=g2.same k h2 h3;by_cases hk:k=pc
  ·subst hk;exact ⟨stack,by rw [h4];exact hd,λto ht=>⟨VO ox to ht,g3 to ht⟩⟩
  ·have h5:s.t k=false:=by
    cases e:s.t k with
    | false=>rfl
    | true=>have:=g2.todo k (by rw [eT,if_neg hk];exact e);rw [this] at h2;cases h2
   obtain ⟨out,o1,o2⟩:=hi.2.2 k h3 h5;refine ⟨out,by rw [h4];exact o1,λto ht=>?_⟩;obtain ⟨p1,p2,p3,p4⟩:=o2 to ht;exact ⟨p1,p2,g2.has _ p3,(g2.len _ p3).trans p4⟩
 ·refine Nat.lt_of_le_of_lt (aDq (g:=wt { s with todo:=s.todo.set pc false }) λk hk=>g2.wt k (List.mem_range.1 hk)) ?_;refine HQ (λk _=>?_) (List.mem_range.2 hpc) ?_
  ·unfold wt;rw [eT];by_cases hk:k=pc
   ·rw [if_pos hk];exact Nat.add_le_add (by simp) (Nat.le_refl _)
   ·rw [if_neg hk];exact Nat.le_refl _
  ·unfold wt;rw [eT,if_pos rfl];have e:s.t pc=true:=f1;rw [e];exact Nat.add_lt_add_of_lt_of_le (by simp) (Nat.le_refl _)
theorem xR {i:gN} {m:jH} (h:1<=m.code.length):WF m (St.first m.code.length)/\XN i m (St.first m.code.length):=by
 have eH:∀ q,(St.first m.code.length).h q=decide (q=0):=λq=>by
  simp only [St.first,St.h,kU];by_cases hq:q=0
  ·rw [if_pos ⟨hq,by simp;omega⟩];simp [hq]
  ·rw [if_neg (λh=>hq h.1)];simp only [hq,decide_false,List.getD_eq_getElem?_getD,List.getElem?_replicate];split<;>rfl
 have eT:∀ q,(St.first m.code.length).t q=decide (q=0):=eH
 have eS:∀ q,(St.first m.code.length).s q=[]:=λq=>by
  simp only [St.first,St.s,kU];split
  ·rfl
  ·simp only [List.getD_eq_getElem?_getD,List.getElem?_replicate];split<;>rfl
 refine ⟨⟨by simp [St.first],by simp [St.first],by simp [St.first],λk _=>?_,λk hk=>?_⟩,by rw [eH];rfl,eS 0,λk h1 h2=>?_⟩
 ·rw [eS];exact ⟨λ_ h=>(List.not_mem_nil h).elim,by simp⟩
 ·refine ⟨eS k,?_⟩;rw [eT,<- eH k];exact hk
 ·rw [eT] at h2;rw [eH] at h1;rw [h1] at h2;cases h2
theorem nV.ok {i:gN} {m:jH} (hx:∀ x∈m.code,zN i m x) {s:St} {r:Option St} (h:nV i m s r):∀ s',r=some s'->WF m s->XN i m s->WF m s'/\XN i m s'/\∀ k,s'.t k=false:=by
 induction h with
 | done h1=>intro s' he hw hi;cases he;exact ⟨hw,hi,AF h1⟩
 | fail _ _=>intro s' he;cases he
 | go h1 h2 _ ih=>
  intro s' he hw hi;obtain ⟨a,b,_⟩:=AV hx hw hi h1 h2;exact ih s' he a b
theorem oZ.led {i:gN} {m:jH} {s:St} (hi:i.right) (hm:m.right) (h:oZ i m (some s)):(∀ x∈m.code,zN i m x)/\WF m s/\s.h 0=true/\s.s 0=[]/\∀ k,s.h k=true->Led i m s k:=by
 rcases h with ⟨_,h⟩|⟨h1,h2⟩
 ·cases h
 have hx:∀ x∈m.code,zN i m x:=λx hx=>⟨hi,hm,hm.2.2.2.2 x hx,h1 x hx⟩;obtain ⟨a,b⟩:=xR (i:=i) hm.2.2.2.1.1;obtain ⟨c,d,e⟩:=h2.ok hx s rfl a b;exact ⟨hx,c,d.1,d.2.1,λk hk=>d.2.2 k hk (e k)⟩
end Go.Tc
namespace Go.Vc
theorem bJw {w:World} {C:World->Prop}:(∃ J:NP 0,J w/\∀ w':World,J w'->∀ _f:bN,C w')↔C w:=
 ⟨λ⟨_,h,k⟩=>k w h λ_=>undef,λh=>⟨λw'=>w'=w,rfl,λ_ e _=>e▸h⟩⟩
theorem bJv {a:Value} {w:World} {C:Value->World->Prop}:(∃ J:NP 1,J a w/\∀ (t:Value) (w':World),J t w'->∀ _f:bN,C t w')↔C a w:=
 ⟨λ⟨_,h,k⟩=>k a w h λ_=>undef,λh=>⟨λt w'=>t=a/\w'=w,⟨rfl,rfl⟩,λ_ _ e _=>e.1▸e.2▸h⟩⟩
theorem bJu {a b:Value} {w:World} {C:Value->Value->World->Prop}:(∃ J:NP 2,J a b w/\∀ (t u:Value) (w':World),J t u w'->∀ _f:bN,C t u w')↔C a b w:=
 ⟨λ⟨_,h,k⟩=>k a b w h λ_=>undef,λh=>⟨λt u w'=>t=a/\u=b/\w'=w,⟨rfl,rfl,rfl⟩,λ_ _ _ e _=>e.1▸e.2.1▸e.2.2▸h⟩⟩
theorem bAx {P:Program} {w:World} {K:Value->World->Prop} {t s f o ft sz:Nat} {v:Value} {n:Nat} {cs:List Value} {k:IntKind} {i:Int} {u:Value} (h:XA P t sz) (hf:FA P s f o) (hl:L1 P ft) (hs:aA w v sz n cs) (h0:0<=i) (h1:i < n)
  (hu:cs[i.toNat*sz+o]?=some u) (hk:K u w) :
  V P (Instr.indexAt t v (.int k i)) w λp w1=>V P (Instr.fieldAt s p f) w1 λq w2=>V P (Instr.loadAt ft q) w2 K:=by
 obtain ⟨e,z,b',hte,hi⟩:=h;obtain ⟨d,hd,ha⟩:=hl;obtain ⟨b,off,cap,rfl,hcell⟩:=hs.there (by omega);refine V.ok (jO hte hi h0 h1) (V.ok (hf.ex w b _) (V.ok (iZ hd ha ?_) hk));have:=hcell _ _ hu;rw [<- Nat.add_assoc] at this;exact this
theorem aS:(∀ {P:Program} {w:World} {K:Value->World->Prop} {k:IntKind} {t:TypeId} {a b:Int},V P (binOp BinOp.lss t (Value.int k a) (Value.int k b)) w K↔K (Value.bool (decide (a < b))) w)/\(∀ {P:Program} {w:World} {K:Value->World->Prop} {k:IntKind} {t:TypeId} {a b:Int},V P (binOp BinOp.leq t (Value.int k a) (Value.int k b)) w K↔K (Value.bool (decide (a<=b))) w)/\(∀ {P:Program} {w:World} {K:Value->World->Prop} {k:IntKind} {t:TypeId} {a b:Int},V P (binOp BinOp.gtr t (Value.int k a) (Value.int k b)) w K↔K (Value.bool (decide (a > b))) w)/\(∀ {P:Program} {w:World} {K:Value->World->Prop} {k:IntKind} {t:TypeId} {a b:Int},V P (binOp BinOp.geq t (Value.int k a) (Value.int k b)) w K↔K (Value.bool (decide (a>=b))) w)/\(∀ {P:Program} {w:World} {K:Value->World->Prop} {k:IntKind} {t:TypeId} {x y:Operand} {a b:Int},V P (do eqGuard BinOp.eql t x y (Value.int k a) (Value.int k b);binOp BinOp.eql t (Value.int k a) (Value.int k b)) w K↔K (Value.bool (decide (a=b))) w)/\(∀ {P:Program} {w:World} {K:Value->World->Prop} {k:IntKind} {t:TypeId} {x y:Operand} {a b:Int},V P (do eqGuard BinOp.neq t x y (Value.int k a) (Value.int k b);binOp BinOp.neq t (Value.int k a) (Value.int k b)) w K↔K (Value.bool (decide (a≠b))) w)/\(∀ {P:Program} {w:World} {K:Value->World->Prop} {b:Bool},V P (Op.unary UnOp.not (Value.bool b)) w K↔K (Value.bool !b) w)/\(∀ {w:World} {K:Value->World->Prop} {step:(Value->World->Prop)->Prop},gd (Value.bool true) true step w K↔step K)/\(∀ {w:World} {K:Value->World->Prop} {step:(Value->World->Prop)->Prop},gd (Value.bool false) false step w K↔step K)/\(∀ {w:World} {K:Value->World->Prop} {step:(Value->World->Prop)->Prop},gd (Value.bool true) false step w K↔K undef w)/\(∀ {w:World} {K:Value->World->Prop} {step:(Value->World->Prop)->Prop},gd (Value.bool false) true step w K↔K undef w)/\(∀ {w:World} {K:Value->World->Prop} {want:Bool} {step:(Value->World->Prop)->Prop},gd undef want step w K↔K undef w)/\(∀ {step:(Value->Prop)->Prop} {L:Value->Prop},EY (Value.bool true) true step L↔step L)/\(∀ {step:(Value->Prop)->Prop} {L:Value->Prop},EY (Value.bool false) false step L↔step L)/\(∀ {step:(Value->Prop)->Prop} {L:Value->Prop},EY (Value.bool true) false step L↔L undef)/\(∀ {step:(Value->Prop)->Prop} {L:Value->Prop},EY (Value.bool false) true step L↔L undef)/\(∀ {want:Bool} {step:(Value->Prop)->Prop} {L:Value->Prop},EY undef want step L↔L undef)/\(∀ {b:Bool} {x y:Value} {L:Value->Prop},aG (Value.bool b) x y L↔L (if b=true then x else y))/\(∀ {x y:Prop},aI (Value.bool true) x y↔x)/\(∀ {x y:Prop},aI (Value.bool false) x y↔y)/\(∀ {w:World} {C:World->Prop},(∃ J:NP 0,J w/\∀ (w':World),J w'->∀ (_f:bN),C w')↔C w)/\(∀ {a:Value} {w:World} {C:Value->World->Prop},(∃ J:NP 1,J a w/\∀ (t:Value) (w':World),J t w'->∀ (_f:bN),C t w')↔C a w)/\∀ {a b:Value} {w:World} {C:Value->Value->World->Prop},(∃ J:NP 2,J a b w/\∀ (t u:Value) (w':World),J t u w'->∀ (_f:bN),C t u w')↔C a b w:=
 And.intro @aY <| And.intro @tK <| And.intro @iR <| And.intro @kN <| And.intro @aK <| And.intro @dB <| And.intro @dK <| And.intro @lU <| And.intro @oV <| And.intro @tI <| And.intro @lI <| And.intro @qV <| And.intro @aHa <| And.intro @WD <| And.intro @SY <| And.intro @SZ <| And.intro @GR <| And.intro @aW <| And.intro @bK <| And.intro @aP <| And.intro @bJw <| And.intro @bJv @bJu
end Go.Vc
namespace Go.Proofs.YtjcmcfidblhnnaaGreatDoor
open Tryz
open Go.Vc Go.Tc
variable {w:World} {K:Value->World->Prop}
variable {a k op:Int} {α:Type} {i sz:Nat} {x:lC} {φ:Prop} {w':World} {fv:Value}
theorem sW (h:K (.bool (fM k)) w):aB prog 148 #[i64 k] w K:=by
 apply aWa;unfold PN;by_cases h1:k=3
 ·subst h1;simp only [aS,reduceIte,decide_true];exact h
 ·by_cases h2:k=4
  ·subst h2;simp only [aS,Int.reduceEq,reduceIte,Bool.false_eq_true,decide_true,decide_false];exact h
  ·simp only [h1,h2,aS,reduceIte,Bool.false_eq_true,decide_false];rwa [show fM k=false by simp [fM,h1,h2]] at h
theorem sV (h:K (.bool (dW k)) w):aB prog 149 #[i64 k] w K:=by
 apply aVz;unfold PM;by_cases h1:k=1
 ·subst h1;simp only [aS,reduceIte,decide_true];exact h
 ·by_cases h2:k=2
  ·subst h2;simp only [aS,Int.reduceEq,reduceIte,Bool.false_eq_true,decide_true,decide_false];exact h
  ·simp only [h1,h2,aS,reduceIte,Bool.false_eq_true,decide_false];rwa [show dW k=false by simp [dW,h1,h2]] at h
def DD (k:Int):Bool:=k == 2||k == 4
theorem AZ (h:K (.bool (DD k)) w):aB prog 150 #[i64 k] w K:=by
 apply aVy;unfold PL;by_cases h1:k=2
 ·subst h1;simp only [aS,reduceIte,decide_true];exact h
 ·by_cases h2:k=4
  ·subst h2;simp only [aS,Int.reduceEq,reduceIte,Bool.false_eq_true,decide_true,decide_false];exact h
  ·simp only [h1,h2,aS,reduceIte,Bool.false_eq_true,decide_false];rwa [show DD k=false by simp [DD,h1,h2]] at h
theorem rY (h:K (.bool (fM k)) w):aB prog 206 #[i64 k] w K:=by
 apply aTs;unfold NK;by_cases h1:k=3
 ·subst h1;simp only [aS,reduceIte,decide_true];exact h
 ·by_cases h2:k=4
  ·subst h2;simp only [aS,Int.reduceEq,reduceIte,Bool.false_eq_true,decide_true,decide_false];exact h
  ·simp only [h1,h2,aS,reduceIte,Bool.false_eq_true,decide_false];rwa [show fM k=false by simp [fM,h1,h2]] at h
theorem xL (h:K (.bool (dW k)) w):aB prog 205 #[i64 k] w K:=by
 apply aTt;unfold NL;by_cases h1:k=1
 ·subst h1;simp only [aS,reduceIte,decide_true];exact h
 ·by_cases h2:k=2
  ·subst h2;simp only [aS,Int.reduceEq,reduceIte,Bool.false_eq_true,decide_true,decide_false];exact h
  ·simp only [h1,h2,aS,reduceIte,Bool.false_eq_true,decide_false];rwa [show dW k=false by simp [dW,h1,h2]] at h
theorem JQ (h:Kd k):k=1\/k=2\/k=3\/k=4:=by obtain ⟨h1,h2⟩:=h;omega
theorem BH {b:Int} (h:K (i64 (qZ a b)) w):aB prog 193 #[i64 a,i64 b] w K:=by
 apply aUf;unfold NY;by_cases h1:a=2
 ·subst h1;simp only [aS,reduceIte,decide_true];simpa [qZ] using h
 ·by_cases h2:b=2
  ·subst h2;simp only [h1,aS,reduceIte,Bool.false_eq_true,decide_true,decide_false];simpa [qZ] using h
  ·simp only [h1,h2,aS,reduceIte,Bool.false_eq_true,decide_false];simpa [qZ,h1,h2] using h
theorem xY {b:Int} (h:K (i64 (qZ a b)) w):aB prog 208 #[i64 a,i64 b] w K:=by
 apply aTq;unfold NI;by_cases h1:a=2
 ·subst h1;simp only [aS,reduceIte,decide_true];simpa [qZ] using h
 ·by_cases h2:b=2
  ·subst h2;simp only [h1,aS,reduceIte,Bool.false_eq_true,decide_true,decide_false];simpa [qZ] using h
  ·simp only [h1,h2,aS,reduceIte,Bool.false_eq_true,decide_false];simpa [qZ,h1,h2] using h
theorem bHt (h:K (i64 (ofK a)) w):aB prog 194 #[i64 a] w K:=by
 apply aUe;unfold NX;by_cases h1:a=3
 ·subst h1;simp only [aS,Int.reduceEq,decide_true,decide_false];exact h
 ·by_cases h2:a=4
  ·subst h2;simp only [aS,Int.reduceEq,decide_true,decide_false];exact h
  ·simp only [h1,h2,aS,decide_false];simpa [ofK,h1,h2] using h
theorem bHs (h:K (i64 (ofK a)) w):aB prog 210 #[i64 a] w K:=by
 apply aTn;unfold NG;by_cases h1:a=3
 ·subst h1;simp only [aS,Int.reduceEq,decide_true,decide_false];exact h
 ·by_cases h2:a=4
  ·subst h2;simp only [aS,Int.reduceEq,decide_true,decide_false];exact h
  ·simp only [h1,h2,aS,decide_false];simpa [ofK,h1,h2] using h
def fits (f t:Int):Bool:=f == t||(f == 1&&t == 2)
theorem aPt {b:Int} (ha:Kd a) (hb:Kd b) (h:K (.bool (fits a b)) w):aB prog 192 #[i64 a,i64 b] w K:=by
 apply aUg;unfold NZ
 rcases JQ ha with rfl|rfl|rfl|rfl<;>rcases JQ hb with rfl|rfl|rfl|rfl <;>
  (repeat (first|simp only [aS,Int.reduceEq,reduceIte,Bool.false_eq_true,decide_true,decide_false]|(refine sV ?_;simp only [dW,Int.reduceBEq,Bool.or_false,Bool.or_true])|(refine sW ?_;simp only [fM,Int.reduceBEq,Bool.or_false,Bool.or_true])|exact h))
def VS (a b:Int):Value:=match AA a b with
 | some k=>.tuple #[i64 k,.bool true]
 | none=>.tuple #[i64 0,.bool false]
theorem aPk {b:Int} (ha:Kd a) (hb:Kd b) (h:K (VS a b) w):aB prog 154 #[i64 a,i64 b] w K:=by
 apply aVu;unfold PH
 rcases JQ ha with rfl|rfl|rfl|rfl<;>rcases JQ hb with rfl|rfl|rfl|rfl <;>
  (repeat (first|simp only [aS,Int.reduceEq,reduceIte,Bool.false_eq_true,decide_true,decide_false]|(refine sV ?_;simp only [dW,Int.reduceBEq,Bool.or_false,Bool.or_true])|(refine sW ?_;simp only [fM,Int.reduceBEq,Bool.or_false,Bool.or_true])|exact h))
theorem aPj {b:Int} (ha:Kd a) (hb:Kd b) (h:K (VS a b) w):aB prog 201 #[i64 a,i64 b] w K:=by
 apply aTx;unfold NQ
 rcases JQ ha with rfl|rfl|rfl|rfl<;>rcases JQ hb with rfl|rfl|rfl|rfl <;>
  (repeat (first|simp only [aS,Int.reduceEq,reduceIte,Bool.false_eq_true,decide_true,decide_false]|(refine xL ?_;simp only [dW,Int.reduceBEq,Bool.or_false,Bool.or_true])|(refine rY ?_;simp only [fM,Int.reduceBEq,Bool.or_false,Bool.or_true])|(refine xY ?_;simp only [qZ,Int.reduceEq,or_self,or_true,or_false,reduceIte])|exact h))
def bIf (a b:Int):Int:=if dW a≠dW b\/(fM a=true/\a≠b) then 11 else if fits a b then 0 else 12
theorem DE {b:Int} (ha:Kd a) (hb:Kd b) (h:K (i64 (bIf a b)) w):aB prog 152 #[i64 a,i64 b] w K:=by
 apply aVw;unfold PJ
 rcases JQ ha with rfl|rfl|rfl|rfl<;>rcases JQ hb with rfl|rfl|rfl|rfl <;>
  (repeat (first|simp only [aIk,aS,Int.reduceEq,not_true_eq_false,not_false_eq_true,ne_eq,reduceIte,Bool.false_eq_true,Bool.not_true,Bool.not_false,decide_true,decide_false,bne_self_eq_false,Bool.bne_false,Bool.bne_true]|(refine sV ?_;simp only [dW,Int.reduceBEq,Bool.or_false,Bool.or_true])|(refine sW ?_;simp only [fM,Int.reduceBEq,Bool.or_false,Bool.or_true])|(refine aPt ha hb ?_;simp only [fits,Int.reduceBEq,Bool.or_false,Bool.or_true,Bool.and_true,Bool.and_false])|exact h))
def Ask (a:Int):Prop:=a=-1\/a=-2\/a=-3\/a=-4\/Kd a
theorem aPz (hk:Kd k) (ha:Ask a) (h:K (.bool (tJ k a)) w):aB prog 204 #[i64 k,i64 a] w K:=by
 apply aTu;unfold NM
 have ha:a=-1\/a=-2\/a=-3\/a=-4\/a=1\/a=2\/a=3\/a=4:=by
  rcases ha with h|h|h|h|h
  iterate 4
   ·omega
  ·have:=JQ h;omega
 rcases JQ hk with rfl|rfl|rfl|rfl<;>rcases ha with rfl|rfl|rfl|rfl|rfl|rfl|rfl|rfl <;>
  (repeat (first|simp only [aS,Int.reduceEq,Int.reduceNeg,reduceIte,Bool.false_eq_true,decide_true,decide_false]|(refine xL ?_;simp only [dW,Int.reduceBEq,Bool.or_false,Bool.or_true])|(refine rY ?_;simp only [fM,Int.reduceBEq,Bool.or_false,Bool.or_true])|exact h))
theorem aDw (hk:Kd k) (ha:Ask a) (h:K (.bool (vK k a)) w):aB prog 207 #[i64 k,i64 a] w K:=by
 apply aTr;unfold NJ
 have ha:a=-1\/a=-2\/a=-3\/a=-4\/a=1\/a=2\/a=3\/a=4:=by
  rcases ha with h|h|h|h|h
  iterate 4
   ·omega
  ·have:=JQ h;omega
 rcases JQ hk with rfl|rfl|rfl|rfl<;>rcases ha with rfl|rfl|rfl|rfl|rfl|rfl|rfl|rfl<;>(repeat (first|simp only [aS,Int.reduceEq,Int.reduceNeg,reduceIte,Bool.false_eq_true,decide_true,decide_false]|exact h))
theorem wN {n lo hi:Int} (h:K (.bool (decide (lo<=n/\n<=hi))) w):aB prog 145 #[i64 n,i64 lo,i64 hi] w K:=by
 apply aWd;unfold PQ;simp only [kN,ge_iff_le];by_cases h1:lo<=n
 ·simp only [h1,true_and,aS,reduceIte,decide_true] at h ⊢;exact h
 ·simp only [h1,false_and,aS,reduceIte,Bool.false_eq_true,decide_false] at h ⊢;exact h
def KT (op:Int):Int:=if op=27 then 2 else if op=1\/op=2\/op=3\/op=23\/op=24\/op=25\/op=33\/op=34\/op=35\/op=36\/op=37\/op=38 then 1 else 0
theorem AM (h:1<=op/\op<=39):op=1\/op=2\/op=3\/op=4\/op=5\/op=6\/op=7\/op=8\/op=9\/op=10\/op=11\/op=12\/op=13\/op=14\/op=15\/op=16\/op=17\/op=18\/op=19\/op=20\/op=21\/op=22\/op=23\/op=24\/op=25\/op=26\/op=27\/op=28\/op=29\/op=30\/op=31\/op=32\/op=33\/op=34\/op=35\/op=36\/op=37\/op=38\/op=39:=by omega
theorem VI (ho:1<=op/\op<=39) (h:K (i64 (KT op)) w):aB prog 144 #[i64 op] w K:=by
 apply aWe;unfold PR;rcases AM ho with rfl|rfl|rfl|rfl|rfl|rfl|rfl|rfl|rfl|rfl|rfl|rfl|rfl|rfl|rfl|rfl|rfl|rfl|rfl|rfl|rfl|rfl|rfl|rfl|rfl|rfl|rfl|rfl|rfl|rfl|rfl|rfl|rfl|rfl|rfl|rfl|rfl|rfl|rfl<;>(simp only [aS,Int.reduceEq,decide_true,decide_false];exact h)
theorem aBn (h:K (.tuple #[i64 (lim op).1,i64 (lim op).2]) w):aB prog 200 #[i64 op] w K:=by
 apply aTy;unfold NR;by_cases ho:op=1\/op=2\/op=3\/op=23\/op=24\/op=25\/op=27\/op=33\/op=34\/op=35\/op=36\/op=37\/op=38
 ·rcases ho with rfl|rfl|rfl|rfl|rfl|rfl|rfl|rfl|rfl|rfl|rfl|rfl|rfl<;>(simp only [aS,Int.reduceEq,Int.reduceNeg,decide_true,decide_false];exact h)
 ·simp only [not_or] at ho;obtain ⟨h1,h2,h3,h4,h5,h6,h7,h8,h9,h10,h11,h12,h13⟩:=ho;have e:lim op=(0,0):=by unfold lim;simp [*]
  rw [e] at h;simp only [h1,h2,h3,h4,h5,h6,h7,h8,h9,h10,h11,h12,h13,aS,Int.reduceNeg,decide_false];exact h
def nT (l:List lC):List Value:=l.flatMap λx=>[i64 x.op,i64 x.a,i64 x.b]
def pE (w:World) (v:Value) (l:List lC):Prop:=aA w v 3 l.length (nT l)
theorem rZ:∀ {l:List lC} {k:Nat} {x:lC},l[k]?=some x->((nT l).drop (k*3)).take 3=[i64 x.op,i64 x.a,i64 x.b]
 | [],_,_,h=>by simp at h
 | y::l,0,x,h=>by simp at h;subst h;simp [nT]
 | y::l,k+1,x,h=>by
  have:=rZ (l:=l) (k:=k) (by simpa using h);simp only [nT,List.flatMap_cons] at this ⊢;rw [show (k+1)*3=k*3+3 by omega,<- List.drop_drop];simpa [List.drop_append] using this
theorem pE.ext {w':World} {v:Value} {l:List lC} (h:pE w v l) (hx:aF w w'):pE w' v l:=aA.ext h hx
def bU {α:Type} (T:World->List Value->α->Prop) (sz:Nat) (w:World) (v:Value) (l:List α):Prop:=
 ∃ cs,aA w v sz l.length cs/\∀ (k:Nat) x,l[k]?=some x->∃ row,(cs.drop (k*sz)).take sz=row/\T w row x
theorem bU.ext {α:Type} {T:World->List Value->α->Prop} (hT:∀ {w w' row x},T w row x->aF w w'->T w' row x) {sz:Nat} {w':World} {v:Value} {l:List α} (h:bU T sz w v l) (hx:aF w w'):bU T sz w' v l:=by
 obtain ⟨cs,h1,h2⟩:=h;refine ⟨cs,h1.ext hx,λk x hk=>?_⟩;obtain ⟨row,h3,h4⟩:=h2 k x hk;exact ⟨row,h3,hT h4 hx⟩
def lK (w:World) (row:List Value) (m:jH):Prop:=∃ pv lv cv,row=[pv,i64 m.result,lv,cv]/\aN w pv m.params/\aN w lv m.locals/\pE w cv m.code
theorem lK.ext {w w':World} {row:List Value} {m:jH} (h:lK w row m) (hx:aF w w'):lK w' row m:=by
 obtain ⟨pv,lv,cv,h1,h2,h3,h4⟩:=h;exact ⟨pv,lv,cv,h1,h2.ext hx,h3.ext hx,h4.ext hx⟩
def vG (w:World) (row:List Value) (x:HH):Prop:=∃ pv,row=[.string x.name,i64 x.exp,pv,i64 x.result]/\aN w pv x.params
theorem vG.ext {w w':World} {row:List Value} {x:HH} (h:vG w row x) (hx:aF w w'):vG w' row x:=by
 obtain ⟨pv,h1,h2⟩:=h;exact ⟨pv,h1,h2.ext hx⟩
def rH (w:World) (v:Value) (l:List jH):Prop:=bU lK 4 w v l
def rI (w:World) (v:Value) (l:List HH):Prop:=bU vG 4 w v l
theorem rH.ext {w':World} {v:Value} {l:List jH} (h:rH w v l) (hx:aF w w'):rH w' v l:=bU.ext (λh k=>h.ext k) h hx
theorem rI.ext {w':World} {v:Value} {l:List HH} (h:rI w v l) (hx:aF w w'):rI w' v l:=bU.ext (λh k=>h.ext k) h hx
structure iP where
 fv:Value
 iv:Value
 mv:Value
 xv:Value
structure kK (w:World) (p:iP) (i:gN):Prop where
 fl:aN w p.fv i.fields
 im:rI w p.iv i.imports
 mt:rH w p.mv i.methods
 ex:aN w p.xv i.exports
def iP.val (p:iP) (i:gN):Value:=.agg #[.string i.name,p.fv,p.iv,p.mv,p.xv]
theorem kK.ext {w':World} {p:iP} {i:gN} (h:kK w p i) (hx:aF w w'):kK w' p i:=⟨h.fl.ext hx,h.im.ext hx,h.mt.ext hx,h.ex.ext hx⟩
theorem bU.sl {T:World->List Value->α->Prop} {v:Value} {l:List α} (h:bU T sz w v l):∃ cs,aA w v sz l.length cs:=⟨_,h.choose_spec.1⟩
theorem ldS {T:World->List Value->α->Prop} {t x:TypeId} {v:Value} {l:List α} {e:α} (h:XA prog t sz) (ht:∃ d z by_,Program.underlying prog x=some d/\lQ d=true/\dA prog x z sz by_) (hs:bU T sz w v l) (hi:l[i]?=some e) (hT:∀ w row e,T w row e->row.length=sz)
  (hk:∀ row,T w row e->K (.agg row.toArray) w):V prog (Instr.indexAt t v (i64 i)) w λp w1=>V prog (Instr.loadAt x p) w1 K:=by
 obtain ⟨cs,h1,h2⟩:=hs;obtain ⟨row,h3,h4⟩:=h2 i e hi;have hlt:i < l.length:=(List.getElem?_eq_some_iff.1 hi).1;exact uU h ht h1 (by omega) (by omega) (by simpa using h3) (hT _ _ _ h4) (hk row h4)
theorem rC (w:World) (row:List Value) (m:jH) (h:lK w row m):row.length=4:=by obtain ⟨_,_,_,rfl,_⟩:=h;rfl
theorem BA (w:World) (row:List Value) (m:HH) (h:vG w row m):row.length=4:=by obtain ⟨_,rfl,_⟩:=h;rfl
theorem sQ {T:World->List Value->α->Prop} {t s f o ft:Nat} {v:Value} {l:List α} {e:α} (h:XA prog t sz) (hf:FA prog s f o) (hl:L1 prog ft) (hs:bU T sz w v l) (hi:l[i]?=some e)
  (hk:∀ row,T w row e->∃ u,row[o]?=some u/\o < sz/\K u w):V prog (Instr.indexAt t v (i64 i)) w λp w1=>V prog (Instr.fieldAt s p f) w1 λq w2=>V prog (Instr.loadAt ft q) w2 K:=by
 obtain ⟨cs,h1,h2⟩:=hs;obtain ⟨row,h3,h4⟩:=h2 i e hi;have hlt:i < l.length:=(List.getElem?_eq_some_iff.1 hi).1;obtain ⟨u,hu,ho,hK⟩:=hk row h4;refine bAx h hf hl h1 (by omega) (by omega) ?_ hK;rw [<- h3,List.getElem?_take,if_pos ho,List.getElem?_drop] at hu;simpa using hu
theorem yO {T:World->List Value->α->Prop} {t ty:Nat} {v:Value} {l:List α} (h:XA prog t sz) (hs:bU T sz w v l) (hk:K (i64 l.length) w):V prog (Builtin.len_ #[t] ty #[v]) w K:=by
 obtain ⟨cs,h1,_⟩:=hs;exact gD h h1 hk
theorem ldI {v:Value} {l:List lC} (hs:pE w v l) (hi:l[i]?=some x) (hk:K (.agg #[i64 x.op,i64 x.a,i64 x.b]) w):V prog (Instr.indexAt 36 v (i64 i)) w λp w1=>V prog (Instr.loadAt 88 p) w1 K:=by
 have hlt:i < l.length:=(List.getElem?_eq_some_iff.1 hi).1;exact uU kS iA hs (by omega) (by omega) (l:=[i64 x.op,i64 x.a,i64 x.b]) (by simpa using rZ hi) rfl hk
def nmL:List Value:=[.string { data:=#[] },.string { data:=#[112,117,115,104] },.string { data:=#[108,111,97,100] },.string { data:=#[115,116,111,114,101] },.string { data:=#[112,111,112] },.string { data:=#[100,117,112] },.string { data:=#[97,100,100] },.string { data:=#[115,117,98] },.string { data:=#[109,117,108] },.string { data:=#[97,110,100] },.string { data:=#[111,114] },.string { data:=#[120,111,114] },.string { data:=#[115,104,108] },.string { data:=#[115,104,114] },.string { data:=#[115,97,114] },.string { data:=#[110,101,103] },.string { data:=#[110,111,116] },.string { data:=#[100,105,118] },.string { data:=#[114,101,109] },.string { data:=#[101,113] },.string { data:=#[108,116] },.string { data:=#[98,101,108,111,119] },.string { data:=#[112,105,99,107] },.string { data:=#[106,117,109,112] },.string { data:=#[106,117,109,112,105,102] },.string { data:=#[110,117,108,108] },.string { data:=#[105,115,110,117,108,108] },.string { data:=#[110,101,119] },.string { data:=#[108,101,110] },.string { data:=#[103,101,116] },.string { data:=#[112,117,116] },.string { data:=#[99,111,112,121] },.string { data:=#[115,97,109,101] },.string { data:=#[103,101,116,102] },.string { data:=#[112,117,116,102] },.string { data:=#[98,117,102] },.string { data:=#[115,101,110,100] },.string { data:=#[99,97,108,108] },.string { data:=#[99,97,108,108,120] },.string { data:=#[114,101,116] }]
theorem aFo (h:∀ v w',aA w' v 1 40 nmL->aF w w'->K v w'):aB prog 191 #[] w K:=by
 apply aUh;unfold OA;exact jS aZk nmL (by kernel_rfl) (by kernel_rfl) (by decide) (by kernel_rfl) λv w' ho hx=>h v w' (aA.of_own ho) hx
theorem bHu {op:Nat} (h1:1<=op) (h2:op<=39):∃ s:ByteArray,nmL[op]?=some (.string s)/\(s.toList == ({ data:=#[] }:ByteArray).toList)=false:=by
 have:∀ k:Fin 40,k.val=0\/(match nmL[k.val]? with|some (.string s)=>s.toList == ({ data:=#[] }:ByteArray).toList|_=>true)=false:=by decide +kernel
 rcases this ⟨op,by omega⟩ with h|h
 ·simp only at h;omega
 ·simp only at h;split at h
  ·rename_i s hs;exact ⟨s,hs,h⟩
  ·cases h
theorem bAk (h:∀ (s:ByteArray) w',((s.toList == ({ data:=#[] }:ByteArray).toList)=decide (¬ (1<=op/\op<=39)))->aF w w'->K (.string s) w'):aB prog 143 #[i64 op] w K:=by
 apply aWf;unfold PS;refine aFo λv w1 hs x1=>?_;refine aY.2 ?_;by_cases h1:op < 1
 ·simp only [h1,aS,reduceIte,decide_true];exact h _ _ (by simp;omega) x1
 ·simp only [h1,aS,reduceIte,Bool.false_eq_true,decide_false];refine gD aDh hs ?_;refine kN.2 ?_;by_cases h2:op>=((40:Nat):Int)
  ·simp only [h2,aS,decide_true];exact h _ _ (by simp;omega) x1
  ·simp only [h2,aS,decide_false];obtain ⟨k,rfl⟩:∃ k:Nat,op=k:=⟨op.toNat,by omega⟩;obtain ⟨s,hs1,hs2⟩:=bHu (op:=k) (by omega) (by omega);refine lV aDh aGi hs (by omega) (by omega) (by simpa using hs1) (h _ _ ?_ x1);rw [hs2];simp;omega
theorem aPh {lv:Value} {l:List Int} {most:Int} (hs:aN w lv l) (h:∀ b,(b=true↔rQ l most)->K (.bool b) w):aB prog 91 #[lv,i64 most] w K:=by
 apply bDt;unfold XW;refine ⟨λv w'=>∃ j:Nat,v=i64 j/\j<=l.length/\w'=w/\rU (l.take j),λv _=>l.length - (RowKit.intOf v).toNat,⟨0,rfl,Nat.zero_le _,rfl,λ_ h=>by simp at h⟩,?_⟩;rintro _ _ ⟨j,rfl,hj,rfl,hk⟩ _;have hno:∀ {k:Int},l[j]?=some k->¬ Kd k->K (.bool false) _:=λhk hn=>h false ⟨λh=>(by cases h),λhr=>absurd (hr.1 _ (List.mem_of_getElem? hk)) hn⟩
 have hcap:l.length<=maxLen:=by
  rcases hs.2 with ⟨_,h0⟩|⟨_,_,_,_,h1,h2,_⟩
  ·rw [h0];exact Nat.zero_le _
  ·omega
 refine gD aQ hs (aY.2 (aD (λhlt=>?_) λhge=>?_))
 ·have hj':j < l.length:=by omega
  obtain ⟨k,hk1⟩:=bC hj';refine lV aQ aH hs (by omega) (by omega) (cG hk1) (aY.2 ?_);by_cases h1:k < 1
  ·simp only [h1,aS,reduceIte,decide_true];exact hno hk1 λh=>by unfold Kd at h;omega
  ·simp only [h1,aS,reduceIte,Bool.false_eq_true,decide_false];refine lV aQ aH hs (by omega) (by omega) (cG hk1) (iR.2 ?_);by_cases h2:k > 4
   ·simp only [h2,aS,decide_true];exact hno hk1 λh=>by unfold Kd at h;omega
   ·simp only [h2,aS,decide_false];refine aU.2 ?_;rw [aC (by omega) (by unfold maxLen at hcap;omega),aR];refine ⟨⟨j+1,rfl,by omega,rfl,λq hq=>?_⟩,by simp only [aL];omega⟩;rw [List.take_add_one,hk1] at hq;rcases List.mem_append.1 hq with hq|hq
    ·exact hk q hq
    ·simp at hq;subst hq;exact ⟨by omega,by omega⟩
 ·have hjl:j=l.length:=by omega
  subst hjl;rw [List.take_length] at hk;refine gD aQ hs (tK.2 ?_);exact h _ (by simp [rQ,hk])
theorem aOb (h:∀ b w',(b=true↔x.right)->aF w w'->K (.bool b) w'):aB prog 92 #[.agg #[i64 x.op,i64 x.a,i64 x.b]] w K:=by
 obtain ⟨op,a,b⟩:=x;apply bDs;unfold XV;refine bx λb1 w1 hb x1=>?_;refine bF hb bJ aH rfl ?_;refine bAk λs w2 hs x2=>?_;have hb:=hb.ext x2;have xx:=x1.trans x2;refine V.ok VA ?_;rw [hs];have no:∀ {w'},aF w w'->¬ lC.right ⟨op,a,b⟩->K (.bool false) w':=λhx hn=>h false _ ⟨λh=>(by cases h),λhr=>absurd hr hn⟩ hx;by_cases ho:1<=op/\op<=39
 ·simp only [ho,and_self,aS,Int.reduceNeg,not_true_eq_false,reduceIte,Bool.false_eq_true,decide_false];refine bF hb bJ aH rfl (dB.2 ?_);by_cases h27:op=27
  ·subst h27;simp only [aS,Int.reduceNeg,not_true_eq_false,ne_eq,reduceIte,Bool.false_eq_true,decide_false];refine bF hb bJ aH rfl ?_;refine VI ho ?_;simp only [KT,reduceIte,aS,Int.reduceEq,Int.reduceNeg,reduceIte,Bool.false_eq_true,decide_false];refine bF hb bJ aH rfl ?_;simp only [aS,Int.reduceEq,Int.reduceNeg,decide_true,decide_false];refine bF hb bE aH rfl ?_;refine wN ?_;by_cases ha:(3:Int)<=a/\a<=4
   ·simp only [ha,and_self,aS,reduceIte,decide_true];refine bF hb sZ aH rfl ?_;refine wN ?_;by_cases hb1:(0:Int)<=b/\b<=2
    ·simp only [hb1,and_self,aS,reduceIte,decide_true];exact h true _ ⟨λ_=>⟨ho,ha.1,ha.2,.inl hb1⟩,λ_=>rfl⟩ xx
    ·simp only [hb1,aS,reduceIte,Bool.false_eq_true,decide_false];refine bF hb sZ aH rfl ?_;refine wN ?_;refine h _ _ ⟨λhd=>⟨ho,ha.1,ha.2,.inr (of_decide_eq_true hd)⟩,λhr=>decide_eq_true (hr.2.2.2.resolve_left hb1)⟩ xx
   ·simp only [ha,aS,reduceIte,Bool.false_eq_true,decide_false];exact no xx λhr=>ha ⟨hr.2.1,hr.2.2.1⟩
  ·simp only [h27,aS,Int.reduceNeg,not_false_eq_true,ne_eq,reduceIte,decide_true];refine bF hb sZ aH rfl (dB.2 ?_)
   have hbr:lC.right ⟨op,a,b⟩->b=0:=λhr=>by
    have:=hr.2.2.2;dsimp only at this
    rwa [if_neg h27] at this
   by_cases hb0:b=0
   ·subst hb0;simp only [aS,Int.reduceNeg,not_true_eq_false,ne_eq,reduceIte,Bool.false_eq_true,decide_false];refine bF hb bJ aH rfl ?_;refine VI ho (aK.2 ?_)
    have fin:∀ {lo hi:Int} {w'},lim op=(lo,hi)->aF w w'->K (.bool (decide (lo<=a/\a<=hi))) w':=λ{lo hi w'} hl hx=>by
     refine h _ _ ⟨λhd=>?_,λhr=>?_⟩ hx
     ·have:=of_decide_eq_true hd;refine ⟨ho,?_,?_,?_⟩
      ·rw [hl];exact this.1
      ·rw [hl];exact this.2
      ·dsimp only;rw [if_neg h27]
     ·have h1:=hr.2.1;have h2:=hr.2.2.1;rw [hl] at h1 h2;exact decide_eq_true ⟨h1,h2⟩
    by_cases hop:op=1\/op=2\/op=3\/op=23\/op=24\/op=25\/op=33\/op=34\/op=35\/op=36\/op=37\/op=38
    ·rcases hop with rfl|rfl|rfl|rfl|rfl|rfl|rfl|rfl|rfl|rfl|rfl|rfl <;>
      (simp only [KT,Int.reduceEq,or_self,or_true,or_false,reduceIte,aS,Int.reduceEq,Int.reduceNeg,reduceIte,Bool.false_eq_true,decide_false]
       refine bF hb (by first|exact cY|exact cX|exact cD|exact cW|exact cL|exact cK|exact cC|exact cV|exact cU|exact cT|exact cJ|exact cI|exact cH|exact bT|exact cS|exact bS|exact dF|exact cR|exact cQ|exact dE|exact dD|exact dJ|exact dC|exact dI|exact dU|exact dT|exact eF|exact eR|exact eE|exact eD|exact eQ|exact eC|exact eO|exact bR|exact dS|exact dR|exact dQ|exact eB|exact dH|exact bW|exact cB|exact eN|exact eA|exact cA|exact dP|exact eV|exact dO|exact fJ|exact eM|exact bA|exact eJ|exact bZ|exact dZ|exact eI|exact fI|exact cP|exact fH|exact fV|exact fP|exact gY|exact iN|exact dN|exact fU|exact iM|exact gX|exact iL|exact iK|exact iJ|exact iI|exact gW|exact bQ|exact fO|exact fT|exact dY|exact dX|exact jY|exact jX|exact kX|exact jF|exact fG|exact bP|exact kB|exact kW|exact gA|exact eG|exact dL|exact fS|exact kV|exact dG|exact qJ|exact pI|exact oH|exact oG|exact lP|exact mV|exact pH|exact lO|exact mC|exact mA|exact lN|exact qI|exact mU|exact lZ|exact qH|exact bJ) (by first|exact gQ|exact iH|exact hY|exact iG|exact kI|exact iF|exact kH|exact iE|exact iD|exact bD|exact jB|exact iC|exact dM|exact aH) rfl ?_;simp only [aS,Int.reduceEq,Int.reduceNeg,decide_true,decide_false]
       refine bF hb (by first|exact cY|exact cX|exact cD|exact cW|exact cL|exact cK|exact cC|exact cV|exact cU|exact cT|exact cJ|exact cI|exact cH|exact bT|exact cS|exact bS|exact dF|exact cR|exact cQ|exact dE|exact dD|exact dJ|exact dC|exact dI|exact dU|exact dT|exact eF|exact eR|exact eE|exact eD|exact eQ|exact eC|exact eO|exact bR|exact dS|exact dR|exact dQ|exact eB|exact dH|exact bW|exact cB|exact eN|exact eA|exact cA|exact dP|exact eV|exact dO|exact fJ|exact eM|exact bA|exact eJ|exact bZ|exact dZ|exact eI|exact fI|exact cP|exact fH|exact fV|exact fP|exact gY|exact iN|exact dN|exact fU|exact iM|exact gX|exact iL|exact iK|exact iJ|exact iI|exact gW|exact bQ|exact fO|exact fT|exact dY|exact dX|exact jY|exact jX|exact kX|exact jF|exact fG|exact bP|exact kB|exact kW|exact gA|exact eG|exact dL|exact fS|exact kV|exact dG|exact qJ|exact pI|exact oH|exact oG|exact lP|exact mV|exact pH|exact lO|exact mC|exact mA|exact lN|exact qI|exact mU|exact lZ|exact qH|exact bJ|exact bE) (by first|exact gQ|exact iH|exact hY|exact iG|exact kI|exact iF|exact kH|exact iE|exact iD|exact bD|exact jB|exact iC|exact dM|exact aH) rfl ?_;exact wN (fin rfl xx))
    ·simp only [not_or] at hop;obtain ⟨n1,n2,n3,n4,n5,n6,n7,n8,n9,n10,n11,n12⟩:=hop;have e0:KT op=0:=by unfold KT;simp [*]
     have el:lim op=(0,0):=by unfold lim;simp [*]
     simp only [e0,aS,Int.reduceNeg,reduceIte,decide_true];refine bF hb bE aH rfl (dB.2 ?_);by_cases ha:a=0
     ·subst ha;simp only [aS,Int.reduceNeg,not_true_eq_false,ne_eq,decide_false];refine bF hb bJ aH rfl ?_;simp only [n1,n2,n3,n4,n5,n6,n7,n8,n9,n10,n11,n12,h27,aS,Int.reduceNeg,decide_false];have:=fin el xx;simpa using this
     ·simp only [ha,aS,Int.reduceNeg,not_false_eq_true,ne_eq,decide_true];refine no xx λhr=>ha ?_;have h1:=hr.2.1;have h2:=hr.2.2.1;rw [el] at h1 h2;dsimp only at h1 h2;omega
   ·simp only [hb0,aS,Int.reduceNeg,not_false_eq_true,ne_eq,reduceIte,decide_true];exact no xx λhr=>hb0 (hbr hr)
 ·simp only [ho,aS,Int.reduceNeg,not_false_eq_true,reduceIte,decide_true];exact no xx λhr=>ho hr.1
def cM (φ:Prop) (w:World) (v:Value) (w':World):Prop:=∃ b,v=.bool b/\(b=true↔φ)/\aF w w'
theorem cM.yes (h:φ) (hx:aF w w'):cM φ w (.bool true) w':=⟨true,rfl,⟨λ_=>h,λ_=>rfl⟩,hx⟩
theorem cM.no (h:¬ φ) (hx:aF w w'):cM φ w (.bool false) w':=⟨false,rfl,⟨λe=>(by cases e),λe=>absurd e h⟩,hx⟩
theorem ldP {t b:Nat} {u:Value} {cs:List Value} (hl:L1 prog t) (hb:bG w b cs) (hu:cs[0]?=some u) (hk:K u w):V prog (Instr.loadAt t (.pointer (some ⟨b,0,none⟩))) w K:=by
 obtain ⟨d,hd,ha⟩:=hl;exact V.ok (iZ hd ha (by have:=hb 0 u hu;simpa using this)) hk
def JL (_:World) (row:List Value) (x:lC):Prop:=row=[i64 x.op,i64 x.a,i64 x.b]
theorem pE.strs {v:Value} {l:List lC} (h:pE w v l):bU JL 3 w v l:=⟨_,h,λ_ _ hk=>⟨_,rZ hk,rfl⟩⟩
theorem VU (w:World) (row:List Value) (x:lC) (h:JL w row x):row.length=3:=by cases h;rfl
theorem JL.ext {row:List Value} (h:JL w row x) (_:aF w w'):JL w' row x:=h
theorem BW {T:World->List Value->α->Prop} {v:Value} {l:List α} (h:bU T sz w v l):l.length<=maxLen:=by
 obtain ⟨cs,h,_⟩:=h;rcases h.2 with ⟨_,h0⟩|⟨_,_,_,_,h1,h2,_⟩
 ·rw [h0];exact Nat.zero_le _
 ·omega
theorem tY {v:Value} {l:List Int} (hs:aN w v l):l.length<=maxLen:=by
 rcases hs.2 with ⟨_,h0⟩|⟨_,_,_,_,h1,h2,_⟩
 ·rw [h0];exact Nat.zero_le _
 ·omega
theorem bBs {lv:Value} {l:List Int} {q:Int->Prop} (hs:aN w lv l) (hf:∀ x∈l,∀ w',aF w w'->qY prog fv #[i64 x] w' (cM (q x) w')) (hk:∀ r w',aF w w'->(0<=r↔∃ x∈l,q x)->K (i64 r) w') :
  aB prog 195 #[lv,fv] w K:=by
 apply aUd;unfold NW;have hcap:=tY hs;refine gD aQ hs ?_;refine ⟨λv w'=>∃ j:Nat,v=i64 j/\j<=l.length/\aF w w'/\∀ x∈l.take j,¬ q x,λv _=>l.length - (RowKit.intOf v).toNat,⟨0,rfl,Nat.zero_le _,aF.refl _,λ_ h=>by simp at h⟩,?_⟩;rintro _ w1 ⟨j,rfl,hj,x1,hno⟩ _;refine aY.2 (aD (λhlt=>?_) λhge=>?_)
 ·obtain ⟨x,hx⟩:=bC (l:=l) (j:=j) (by omega);refine lV aQ aH (hs.ext x1) (by omega) (by omega) (cG hx) ?_;refine (hf x (List.mem_of_getElem? hx) w1 x1).mono λv w2 ⟨b,hv,hb,x2⟩=>?_;subst hv;cases b with
  | true=>rw [bK];exact hk _ _ (x1.trans x2) ⟨λ_=>⟨x,List.mem_of_getElem? hx,hb.1 rfl⟩,λ_=>by omega⟩
  | false=>
   rw [aP];refine aU.2 ?_;rw [aC (by omega) (by unfold maxLen at hcap;omega),aR];refine ⟨⟨j+1,rfl,by omega,x1.trans x2,λy hy=>?_⟩,by simp only [aL];omega⟩;rw [List.take_add_one,hx] at hy;rcases List.mem_append.1 hy with hy|hy
   ·exact hno y hy
   ·simp at hy;subst hy;exact λh=>by have:=hb.2 h;cases this
 ·have hjl:j=l.length:=by omega
  subst hjl;rw [List.take_length] at hno;exact hk _ _ x1 ⟨λh=>by omega,λ⟨x,h1,h2⟩=>absurd h2 (hno x h1)⟩
theorem aYz {lv:Value} {l:List Int} {q:Int->Prop} (hs:aN w lv l) (hf:∀ x∈l,∀ w',aF w w'->qY prog fv #[i64 x] w' (cM (q x) w')):aB prog 156 #[lv,fv] w (cM (∃ x∈l,q x) w):=by
 apply aVs;unfold PF;refine bBs hs hf λr w1 x1 hr=>kN.2 ?_;exact ⟨_,rfl,decide_eq_true_iff.trans hr,x1⟩
theorem GM (h:K (.bool (decide (Kd k))) w):aB prog 158 #[i64 k] w K:=by
 apply aVq;unfold PD;refine kN.2 ?_;unfold Kd at h;by_cases h1:k>=1
 ·have h1':1<=k:=h1;simp only [h1,true_and,aS,reduceIte,decide_true] at h ⊢;exact h
 ·have h1':¬ 1<=k:=h1;simp only [h1,false_and,aS,reduceIte,Bool.false_eq_true,decide_false] at h ⊢;exact h
theorem AB (h:K (.bool (decide (0<=k/\k<=4))) w):aB prog 161 #[i64 k] w K:=by
 apply aVm;unfold PA;by_cases h0:k=0
 ·subst h0;simp only [aS,reduceIte,decide_true];exact h
 ·simp only [h0,aS,reduceIte,Bool.false_eq_true,decide_false];refine GM ?_;have e:(Kd k)↔(0<=k/\k<=4):=by unfold Kd;omega
  simp only [e];exact h
theorem xK {lv:Value} {l:List Int} {most:Int} (hs:aN w lv l):aB prog 107 #[lv,i64 most] w (cM (rQ l most) w):=by
 apply aXq;unfold QY;refine gD aQ hs (tK.2 ?_);by_cases h1:(l.length:Int)<=most
 ·simp only [h1,aS,reduceIte,decide_true];refine (aYz (q:=λk=>¬ Kd k) hs λx _ w' _=>⟨_,_,rfl,?_⟩).mono λv w1 ⟨b,hv,hb,x1⟩=>?_
  ·show aB prog _ #[i64 x] w' _;apply aVr;unfold PE;refine GM (dK.2 ?_);exact ⟨_,rfl,by simp,aF.refl _⟩
  ·subst hv;refine dK.2 ⟨_,rfl,?_,x1⟩;unfold rQ rU;rw [Bool.not_eq_true',Bool.eq_false_iff,ne_eq,hb];constructor
   ·intro h;exact ⟨λk hk=>Classical.byContradiction λhn=>h ⟨k,hk,hn⟩,h1⟩
   ·rintro ⟨h,_⟩ ⟨k,hk,hn⟩;exact hn (h k hk)
 ·simp only [h1,aS,reduceIte,Bool.false_eq_true,decide_false];exact cM.no (λh=>h1 h.2) (aF.refl _)
theorem LS {lv:Value} {l:List HH} {q:HH->Prop} (hs:bU vG 4 w lv l) (hf:∀ x∈l,∀ row w',vG w' row x->aF w w'->qY prog fv #[.agg row.toArray] w' (cM (q x) w')) (hk:∀ r w',aF w w'->(0<=r↔∃ x∈l,q x)->K (i64 r) w') :
  aB prog 196 #[lv,fv] w K:=by
 apply aUc;unfold NV;have hcap:=BW hs;refine yO nK hs ?_;refine ⟨λv w'=>∃ j:Nat,v=i64 j/\j<=l.length/\aF w w'/\∀ x∈l.take j,¬ q x,λv _=>l.length - (RowKit.intOf v).toNat,⟨0,rfl,Nat.zero_le _,aF.refl _,λ_ h=>by simp at h⟩,?_⟩;rintro _ w1 ⟨j,rfl,hj,x1,hno⟩ _;refine aY.2 (aD (λhlt=>?_) λhge=>?_)
 ·obtain ⟨x,hx⟩:=bC (l:=l) (j:=j) (by omega);refine ldS nK IL (bU.ext (λh k=>h.ext k) hs x1) hx BA λrow hrow=>?_;refine (hf x (List.mem_of_getElem? hx) row w1 hrow x1).mono λv w2 ⟨b,hv,hb,x2⟩=>?_;subst hv;cases b with
  | true=>rw [bK];exact hk _ _ (x1.trans x2) ⟨λ_=>⟨x,List.mem_of_getElem? hx,hb.1 rfl⟩,λ_=>by omega⟩
  | false=>
   rw [aP];refine aU.2 ?_;rw [aC (by omega) (by unfold maxLen at hcap;omega),aR];refine ⟨⟨j+1,rfl,by omega,x1.trans x2,λy hy=>?_⟩,by simp only [aL];omega⟩;rw [List.take_add_one,hx] at hy;rcases List.mem_append.1 hy with hy|hy
   ·exact hno y hy
   ·simp at hy;subst hy;exact λh=>by have:=hb.2 h;cases this
 ·have hjl:j=l.length:=by omega
  subst hjl;rw [List.take_length] at hno;exact hk _ _ x1 ⟨λh=>by omega,λ⟨x,h1,h2⟩=>absurd h2 (hno x h1)⟩
theorem aCx {lv:Value} {l:List HH} {q:HH->Prop} {g:Nat} (hs:bU vG 4 w lv l) (hf:∀ x∈l,∀ row w',vG w' row x->aF w w'->aB prog g #[.agg row.toArray] w' (cM (q x) w')) :
  aB prog 108 #[lv,.func (.func g) #[] #[]] w (cM (∀ x∈l,q x) w):=by
 apply aXp;unfold QX;refine bx λb w1 hb x1=>fnK ?_;refine aB.mono (R:=cM (∃ x∈l,¬ q x) w1) ?_ λv w2 ⟨t,hv,ht,x2⟩=>?_
 ·apply aVp;unfold PC;refine LS (q:=λx=>¬ q x) (bU.ext (λh k=>h.ext k) hs x1) (λx hx row w2 hrow x2=>⟨_,_,rfl,?_⟩) λr w2 x2 hr=>kN.2 ⟨_,rfl,decide_eq_true_iff.trans hr,x2⟩;show aB prog _ #[.agg row.toArray,_] w2 _;apply aVn;unfold PB;refine bx λb2 w3 hb2 x3=>?_;refine ldP iF ((hb.ext x2).ext x3) rfl ?_;have hl:=BA w2 row x hrow;have hb2:bG w3 b2 row:=hb2;refine iO hb2 IL hl ?_;refine ⟨_,_,rfl,?_⟩;refine (hf x hx row w3 (hrow.ext x3) ((x1.trans x2).trans x3)).mono λv w4 ⟨t,hv,ht,x4⟩=>?_;subst hv;refine dK.2 ⟨_,rfl,?_,x3.trans x4⟩;rw [Bool.not_eq_true',Bool.eq_false_iff,ne_eq,ht]
 ·subst hv;refine dK.2 ⟨_,rfl,?_,x1.trans x2⟩;rw [Bool.not_eq_true',Bool.eq_false_iff,ne_eq,ht];constructor
  ·intro h x hx;exact Classical.byContradiction λhn=>h ⟨x,hx,hn⟩
  ·rintro h ⟨x,hx,hn⟩;exact hn (h x hx)
theorem LR {lv:Value} {l:List jH} {q:jH->Prop} (hs:bU lK 4 w lv l) (hf:∀ x∈l,∀ row w',lK w' row x->aF w w'->qY prog fv #[.agg row.toArray] w' (cM (q x) w')) (hk:∀ r w',aF w w'->(0<=r↔∃ x∈l,q x)->K (i64 r) w') :
  aB prog 197 #[lv,fv] w K:=by
 apply aUb;unfold NU;have hcap:=BW hs;refine yO iQ hs ?_;refine ⟨λv w'=>∃ j:Nat,v=i64 j/\j<=l.length/\aF w w'/\∀ x∈l.take j,¬ q x,λv _=>l.length - (RowKit.intOf v).toNat,⟨0,rfl,Nat.zero_le _,aF.refl _,λ_ h=>by simp at h⟩,?_⟩;rintro _ w1 ⟨j,rfl,hj,x1,hno⟩ _;refine aY.2 (aD (λhlt=>?_) λhge=>?_)
 ·obtain ⟨x,hx⟩:=bC (l:=l) (j:=j) (by omega);refine ldS iQ oB (bU.ext (λh k=>h.ext k) hs x1) hx rC λrow hrow=>?_;refine (hf x (List.mem_of_getElem? hx) row w1 hrow x1).mono λv w2 ⟨b,hv,hb,x2⟩=>?_;subst hv;cases b with
  | true=>rw [bK];exact hk _ _ (x1.trans x2) ⟨λ_=>⟨x,List.mem_of_getElem? hx,hb.1 rfl⟩,λ_=>by omega⟩
  | false=>
   rw [aP];refine aU.2 ?_;rw [aC (by omega) (by unfold maxLen at hcap;omega),aR];refine ⟨⟨j+1,rfl,by omega,x1.trans x2,λy hy=>?_⟩,by simp only [aL];omega⟩;rw [List.take_add_one,hx] at hy;rcases List.mem_append.1 hy with hy|hy
   ·exact hno y hy
   ·simp at hy;subst hy;exact λh=>by have:=hb.2 h;cases this
 ·have hjl:j=l.length:=by omega
  subst hjl;rw [List.take_length] at hno;exact hk _ _ x1 ⟨λh=>by omega,λ⟨x,h1,h2⟩=>absurd h2 (hno x h1)⟩
theorem aCw {lv:Value} {l:List jH} {q:jH->Prop} {g:Nat} (hs:bU lK 4 w lv l) (hf:∀ x∈l,∀ row w',lK w' row x->aF w w'->aB prog g #[.agg row.toArray] w' (cM (q x) w')) :
  aB prog 110 #[lv,.func (.func g) #[] #[]] w (cM (∀ x∈l,q x) w):=by
 apply aXm;unfold QW;refine bx λb w1 hb x1=>fnK ?_;refine aB.mono (R:=cM (∃ x∈l,¬ q x) w1) ?_ λv w2 ⟨t,hv,ht,x2⟩=>?_
 ·apply aVl;unfold OZ;refine LR (q:=λx=>¬ q x) (bU.ext (λh k=>h.ext k) hs x1) (λx hx row w2 hrow x2=>⟨_,_,rfl,?_⟩) λr w2 x2 hr=>kN.2 ⟨_,rfl,decide_eq_true_iff.trans hr,x2⟩;show aB prog _ #[.agg row.toArray,_] w2 _;apply aVk;unfold OY;refine bx λb2 w3 hb2 x3=>?_;refine ldP iE ((hb.ext x2).ext x3) rfl ?_;have hl:=rC w2 row x hrow;have hb2:bG w3 b2 row:=hb2;refine iO hb2 oB hl ?_;refine ⟨_,_,rfl,?_⟩;refine (hf x hx row w3 (hrow.ext x3) ((x1.trans x2).trans x3)).mono λv w4 ⟨t,hv,ht,x4⟩=>?_;subst hv;refine dK.2 ⟨_,rfl,?_,x3.trans x4⟩;rw [Bool.not_eq_true',Bool.eq_false_iff,ne_eq,ht]
 ·subst hv;refine dK.2 ⟨_,rfl,?_,x1.trans x2⟩;rw [Bool.not_eq_true',Bool.eq_false_iff,ne_eq,ht];constructor
  ·intro h x hx;exact Classical.byContradiction λhn=>h ⟨x,hx,hn⟩
  ·rintro h ⟨x,hx,hn⟩;exact hn (h x hx)
theorem SR {lv:Value} {l:List lC} {q:lC->Prop} (hs:bU JL 3 w lv l) (hf:∀ x∈l,∀ row w',JL w' row x->aF w w'->qY prog fv #[.agg row.toArray] w' (cM (q x) w')) (hk:∀ r w',aF w w'->(0<=r↔∃ x∈l,q x)->K (i64 r) w') :
  aB prog 219 #[lv,fv] w K:=by
 apply aTe;unfold MW;have hcap:=BW hs;refine yO kS hs ?_;refine ⟨λv w'=>∃ j:Nat,v=i64 j/\j<=l.length/\aF w w'/\∀ x∈l.take j,¬ q x,λv _=>l.length - (RowKit.intOf v).toNat,⟨0,rfl,Nat.zero_le _,aF.refl _,λ_ h=>by simp at h⟩,?_⟩;rintro _ w1 ⟨j,rfl,hj,x1,hno⟩ _;refine aY.2 (aD (λhlt=>?_) λhge=>?_)
 ·obtain ⟨x,hx⟩:=bC (l:=l) (j:=j) (by omega);refine ldS kS iA (bU.ext (λh k=>h.ext k) hs x1) hx VU λrow hrow=>?_;refine (hf x (List.mem_of_getElem? hx) row w1 hrow x1).mono λv w2 ⟨b,hv,hb,x2⟩=>?_;subst hv;cases b with
  | true=>rw [bK];exact hk _ _ (x1.trans x2) ⟨λ_=>⟨x,List.mem_of_getElem? hx,hb.1 rfl⟩,λ_=>by omega⟩
  | false=>
   rw [aP];refine aU.2 ?_;rw [aC (by omega) (by unfold maxLen at hcap;omega),aR];refine ⟨⟨j+1,rfl,by omega,x1.trans x2,λy hy=>?_⟩,by simp only [aL];omega⟩;rw [List.take_add_one,hx] at hy;rcases List.mem_append.1 hy with hy|hy
   ·exact hno y hy
   ·simp at hy;subst hy;exact λh=>by have:=hb.2 h;cases this
 ·have hjl:j=l.length:=by omega
  subst hjl;rw [List.take_length] at hno;exact hk _ _ x1 ⟨λh=>by omega,λ⟨x,h1,h2⟩=>absurd h2 (hno x h1)⟩
theorem aIc {lv:Value} {l:List lC} {q:lC->Prop} {g:Nat} (hs:bU JL 3 w lv l) (hf:∀ x∈l,∀ row w',JL w' row x->aF w w'->aB prog g #[.agg row.toArray] w' (cM (q x) w')) :
  aB prog 164 #[lv,.func (.func g) #[] #[]] w (cM (∀ x∈l,q x) w):=by
 apply aVj;unfold OX;refine bx λb w1 hb x1=>fnK ?_;refine aB.mono (R:=cM (∃ x∈l,¬ q x) w1) ?_ λv w2 ⟨t,hv,ht,x2⟩=>?_
 ·apply aUa;unfold NT;refine SR (q:=λx=>¬ q x) (bU.ext (λh k=>h.ext k) hs x1) (λx hx row w2 hrow x2=>⟨_,_,rfl,?_⟩) λr w2 x2 hr=>kN.2 ⟨_,rfl,decide_eq_true_iff.trans hr,x2⟩;show aB prog _ #[.agg row.toArray,_] w2 _;apply aTz;unfold NS;refine bx λb2 w3 hb2 x3=>?_;refine ldP iG ((hb.ext x2).ext x3) rfl ?_;have hl:=VU w2 row x hrow;have hb2:bG w3 b2 row:=hb2;refine iO hb2 iA hl ?_;refine ⟨_,_,rfl,?_⟩;refine (hf x hx row w3 (hrow.ext x3) ((x1.trans x2).trans x3)).mono λv w4 ⟨t,hv,ht,x4⟩=>?_;subst hv;refine dK.2 ⟨_,rfl,?_,x3.trans x4⟩;rw [Bool.not_eq_true',Bool.eq_false_iff,ne_eq,ht]
 ·subst hv;refine dK.2 ⟨_,rfl,?_,x1.trans x2⟩;rw [Bool.not_eq_true',Bool.eq_false_iff,ne_eq,ht];constructor
  ·intro h x hx;exact Classical.byContradiction λhn=>h ⟨x,hx,hn⟩
  ·rintro h ⟨x,hx,hn⟩;exact hn (h x hx)
end Go.Proofs.YtjcmcfidblhnnaaGreatDoor
namespace Go.Tc
def lC.rg (x:lC):Prop:=-9223372036854775808<=x.b/\x.b<=9223372036854775807
def gN.rg (i:gN):Prop:=∀ m∈i.methods,∀ x∈m.code,x.rg
theorem aQj {b:Int} (h0:0<=b) (h1:b<=9223372036854775807):IntKind.i64.wrap (BitVec.ofInt IntKind.i64.bits b &&& ~~~ BitVec.ofInt IntKind.i64.bits 4).toNat<=2↔(0<=b/\b<=2)\/(4<=b/\b<=6):=by
 obtain ⟨n,rfl⟩:∃ n:Nat,b=n:=⟨b.toNat,by omega⟩
 have e:(BitVec.ofInt IntKind.i64.bits (n:Int) &&& ~~~ BitVec.ofInt IntKind.i64.bits 4).toNat=n &&& 18446744073709551611:=by
  have hb:IntKind.i64.bits=64:=rfl;rw [BitVec.toNat_and,BitVec.toNat_not]
  have e1:(BitVec.ofInt IntKind.i64.bits (n:Int)).toNat=n:=by
   rw [hb,BitVec.ofInt_natCast,BitVec.toNat_ofNat];exact Nat.mod_eq_of_lt (by omega)
  have e2:(BitVec.ofInt IntKind.i64.bits 4).toNat=4:=by decide
  rw [e1,e2,hb]
 rw [e];have hle:n &&& 18446744073709551611<=n:=Nat.and_le_left
 have hw:IntKind.i64.wrap ((n &&& 18446744073709551611:Nat):Int)=((n &&& 18446744073709551611:Nat):Int):=by
  simp only [IntKind.wrap_i64];omega
 rw [hw];by_cases h8:n < 8
 ·have:n=0\/n=1\/n=2\/n=3\/n=4\/n=5\/n=6\/n=7:=by omega
  rcases this with rfl|rfl|rfl|rfl|rfl|rfl|rfl|rfl<;>decide
 ·have e3:(n &&& 18446744073709551611) >>> 3=n >>> 3:=by
   rw [Nat.shiftRight_and_distrib];have e4:18446744073709551611 >>> 3=2 ^ 61 - 1:=by decide
   rw [e4,Nat.and_two_pow_sub_one_eq_mod];refine Nat.mod_eq_of_lt ?_;rw [Nat.shiftRight_eq_div_pow];omega
  rw [Nat.shiftRight_eq_div_pow,Nat.shiftRight_eq_div_pow] at e3;constructor
  iterate 2
   ·intro h;omega
end Go.Tc
namespace Go.Proofs.YtjcmcfidblhnnaaGreatDoor
open Tryz
open Go.Vc Go.Tc
variable {w:World} {K:Value->World->Prop}
variable {P:Program} {a op:Int} {x:lC} {w':World} {m:jH} {i:gN} {p:iP}
theorem KN {t:TypeId} {k:IntKind} {b:Int}:(binOp .andNot t (.int k a) (.int k b)).run P w=.ok (.int k (k.wrap (BitVec.ofInt k.bits a &&& ~~~ BitVec.ofInt k.bits b).toNat)) w:=by simp [binOp,Op.intBits]
theorem aEi (hr:x.rg):aB prog 165 #[.agg #[i64 x.op,i64 x.a,i64 x.b]] w (cM x.right w):=by
 obtain ⟨op,a,b⟩:=x;apply aVi;suffices key:∀ R:Value->World->Prop,(∀ v w',cM (lC.right ⟨op,a,b⟩) w v w'->R v w')->EJ (.agg #[i64 op,i64 a,i64 b]) w R from key _ λ_ _ h=>h;intro R hR;unfold EJ;refine bx λb1 w1 hb x1=>?_;refine bF hb bJ aH rfl ?_;refine aBn ?_;refine gS.2 (gR.2 ?_);have no:¬ lC.right ⟨op,a,b⟩->R (.bool false) w1:=λhn=>hR _ _ (cM.no hn x1);refine bF hb bJ aH rfl (aY.2 ?_);by_cases h1:op < 1
 ·simp only [h1,aS,reduceIte,decide_true];exact no λh=>by have:=h.1.1;dsimp only at this;omega
 simp only [h1,aS,reduceIte,Bool.false_eq_true,decide_false];refine bF hb bJ aH rfl (iR.2 ?_);by_cases h2:op > 39
 ·simp only [h2,aS,reduceIte,decide_true];exact no λh=>by have:=h.1.2;dsimp only at this;omega
 simp only [h2,aS,reduceIte,Bool.false_eq_true,decide_false];refine bF hb bE aH rfl (aY.2 ?_);by_cases h3:a < (lim op).1
 ·simp only [h3,aS,reduceIte,decide_true];exact no λh=>by have:=h.2.1;dsimp only at this;omega
 simp only [h3,aS,reduceIte,Bool.false_eq_true,decide_false];refine bF hb bE aH rfl (iR.2 ?_);by_cases h4:a > (lim op).2
 ·simp only [h4,aS,decide_true];exact no λh=>by have:=h.2.2.1;dsimp only at this;omega
 simp only [h4,aS,decide_false];refine bF hb bJ aH rfl (aK.2 ?_);have base:(1<=op/\op<=39)/\(lim op).1<=a/\a<=(lim op).2:=⟨by omega,by omega,by omega⟩;by_cases h5:op=27
 ·simp only [h5,aS,decide_true]
  have hright:lC.right ⟨op,a,b⟩↔(0<=b/\b<=2)\/(4<=b/\b<=6):=by
   unfold lC.right;dsimp only;rw [if_pos h5];exact ⟨λh=>h.2.2.2,λh=>⟨base.1,base.2.1,base.2.2,h⟩⟩
  refine bF hb sZ aH rfl (kN.2 ?_);by_cases h6:b>=0
  ·simp only [h6,aS,reduceIte,decide_true];refine bF hb sZ aH rfl (V.ok KN (tK.2 ?_));exact hR _ _ ⟨_,rfl,decide_eq_true_iff.trans ((aQj h6 hr.2).trans hright.symm),x1⟩
  ·simp only [h6,aS,reduceIte,Bool.false_eq_true,decide_false];exact no λh=>by rw [hright] at h;omega
 ·simp only [h5,aS,decide_false];refine bF hb sZ aH rfl (aK.2 ?_);refine hR _ _ ⟨_,rfl,decide_eq_true_iff.trans ?_,x1⟩;unfold lC.right;dsimp only;rw [if_neg h5];exact ⟨λh=>⟨base.1,base.2.1,base.2.2,h⟩,λh=>h.2.2.2⟩
def uG (w0:World) (nm:ByteArray):Prop:=∀ w,aF w0 w->aB prog 90 #[.string nm] w (cM True w)/\aB prog 106 #[.string nm] w (cM True w)
def kM (w0:World) (i:gN):Prop:=uG w0 i.name/\∀ x∈i.imports,uG w0 x.name
theorem uG.ext {nm:ByteArray} (h:uG w nm) (hx:aF w w'):uG w' nm:=λw2 hx2=>h w2 (hx.trans hx2)
theorem kM.ext {w w':World} {i:gN} (h:kM w i) (hx:aF w w'):kM w' i:=⟨h.1.ext hx,λx hm=>(h.2 x hm).ext hx⟩
theorem cM.T {v:Value} (h:cM True w v w'):v=.bool true/\aF w w':=by
 obtain ⟨b,hv,hb,x⟩:=h;rw [hb.2 trivial] at hv;exact ⟨hv,x⟩
theorem aBw {row:List Value} {x:HH} (hrow:vG w row x) (hn:uG w x.name):aB prog 109 #[.agg row.toArray] w (cM x.right w):=by
 obtain ⟨pv,rfl,hp⟩:=hrow;apply aXo;suffices key:∀ R:Value->World->Prop,(∀ v w',cM x.right w v w'->R v w')->EP (.agg [.string x.name,i64 x.exp,pv,i64 x.result].toArray) w R from key _ λ_ _ h=>h;intro R hR;unfold EP;refine bx λb1 w1 hb x1=>?_;refine bF hb eB aGi rfl ?_;refine (hn w1 x1).2.mono λv w2 hv=>?_;obtain ⟨rfl,x2⟩:=hv.T;have hb:=hb.ext x2;have xx:=x1.trans x2;simp only [aS,reduceIte];refine bF hb dH aH rfl (kN.2 ?_);by_cases h1:x.exp>=0
 case neg=>simp only [h1,aS,reduceIte,Bool.false_eq_true,decide_false];exact hR _ _ (cM.no (λh=>h1 h.1.1) xx)
 simp only [h1,aS,reduceIte,decide_true];refine bF hb dH aH rfl (aY.2 ?_);by_cases h2:x.exp < 4
 case neg=>simp only [h2,aS,reduceIte,Bool.false_eq_true,decide_false];exact hR _ _ (cM.no (λh=>h2 h.1.2) xx)
 simp only [h2,aS,reduceIte,decide_true];refine bF hb bW bD rfl ?_;refine (xK (hp.ext xx)).mono λv w3 ⟨b,hv,hbk,x3⟩=>?_;subst hv;have hb:=hb.ext x3;have xx:=xx.trans x3;cases b with
 | false=>simp only [aS,reduceIte,Bool.false_eq_true];exact hR _ _ (cM.no (λh=>by have:=hbk.2 h.2.1;cases this) xx)
 | true=>
  simp only [aS,reduceIte];refine bF hb cB aH rfl (AB ?_);exact hR _ _ ⟨_,rfl,decide_eq_true_iff.trans ⟨λh=>⟨⟨h1,h2⟩,hbk.1 rfl,h⟩,λh=>h.2.2⟩,xx⟩
theorem aBk {row:List Value} (hrow:lK w row m) (hr:∀ x∈m.code,x.rg):aB prog 111 #[.agg row.toArray] w (cM m.right w):=by
 obtain ⟨pv,lv,cv,rfl,hp,hl,hc⟩:=hrow;have cp:=tY hp;apply aXl;suffices key:∀ R:Value->World->Prop,(∀ v w',cM m.right w v w'->R v w')->EO (.agg [pv,i64 m.result,lv,cv].toArray) w R from key _ λ_ _ h=>h;intro R hR;unfold EO;refine bx λb1 w1 hb x1=>?_;refine bF hb dL bD rfl ?_;refine (xK (hp.ext x1)).mono λv w2 ⟨b,hv,hk1,x2⟩=>?_;subst hv;have hb:=hb.ext x2;have xx:=x1.trans x2;cases b with
 | false=>simp only [aS,reduceIte,Bool.false_eq_true];exact hR _ _ (cM.no (λh=>by have:=hk1.2 h.1;cases this) xx)
 | true=>
 simp only [aS,reduceIte];refine bF hb fS aH rfl (AB ?_);by_cases h2:0<=m.result/\m.result<=4
 case neg=>simp only [h2,aS,reduceIte,Bool.false_eq_true,decide_false];exact hR _ _ (cM.no (λh=>h2 h.2.1) xx)
 simp only [h2,and_self,aS,reduceIte,decide_true];refine bF hb kV bD rfl ?_;refine bF hb dL bD rfl (gD aQ (hp.ext xx) (fQ.2 ?_));rw [aC (by unfold maxLen at cp;omega) (by omega)];refine (xK (hl.ext xx)).mono λv w3 ⟨b,hv,hk3,x3⟩=>?_;subst hv;have hb:=hb.ext x3;have xx:=xx.trans x3;cases b with
 | false=>simp only [aS,reduceIte,Bool.false_eq_true];exact hR _ _ (cM.no (λh=>by have:=hk3.2 h.2.2.1;cases this) xx)
 | true=>
 simp only [aS,reduceIte];refine bF hb dG iY rfl (gD kS (hc.ext xx) (kN.2 ?_));by_cases h4:(m.code.length:Int)>=1
 case neg=>simp only [h4,aS,reduceIte,Bool.false_eq_true,decide_false];exact hR _ _ (cM.no (λh=>h4 (by have:=h.2.2.2.1.1;omega)) xx)
 simp only [h4,aS,reduceIte,decide_true];refine bF hb dG iY rfl (gD kS (hc.ext xx) (tK.2 ?_));by_cases h5:(m.code.length:Int)<=120
 case neg=>simp only [h5,aS,reduceIte,Bool.false_eq_true,decide_false];exact hR _ _ (cM.no (λh=>h5 (by have:=h.2.2.2.1.2;omega)) xx)
 simp only [h5,aS,reduceIte,decide_true];refine bF hb dG iY rfl ?_;refine (aIc (q:=λx=>x.right) (hc.ext xx).strs λx hx row w' hrow _=>?_).mono λv w4 ⟨b,hv,hk6,x4⟩=>?_
 ·cases hrow;exact aEi (hr x hx)
 ·subst hv;refine hR _ _ ⟨b,rfl,?_,xx.trans x4⟩;rw [hk6];exact ⟨λh=>⟨hk1.1 rfl,h2,hk3.1 rfl,⟨by omega,by omega⟩,h⟩,λh=>h.2.2.2.2⟩
theorem aYg (h:1<=i.methods.length):i.methods[0]?=some (i.meth 0):=by
 unfold gN.meth;rw [Int.toNat_zero,List.getD_eq_getElem?_getD,List.getElem?_eq_getElem (by omega)];rfl
theorem aEj (h:kK w p i) (hr:i.rg) (hn:kM w i):aB prog 56 #[p.val i] w (cM i.right w):=by
 apply bEy;suffices key:∀ R:Value->World->Prop,(∀ v w',cM i.right w v w'->R v w')->JO (p.val i) w R from key _ λ_ _ h=>h;intro R hR;unfold JO iP.val;refine bx λb1 w1 hb x1=>?_;refine bF hb kX aGi rfl ?_;refine (hn.1 w1 x1).2.mono λv w2 hv=>?_;obtain ⟨rfl,x2⟩:=hv.T;have hb:=hb.ext x2;have xx:=x1.trans x2;simp only [aS,reduceIte,Bool.false_eq_true,Bool.not_true];refine bF hb jF bD rfl ?_;refine (xK (h.ext xx).fl).mono λv w3 ⟨b,hv,hk1,x3⟩=>?_;subst hv;have hb:=hb.ext x3;have xx:=xx.trans x3;cases b with
 | false=>simp only [aS,reduceIte,Bool.not_false];exact hR _ _ (cM.no (λh=>by have:=hk1.2 h.1;cases this) xx)
 | true=>
 simp only [aS,reduceIte,Bool.false_eq_true,Bool.not_true];refine bF hb fG iC rfl (yO nK (h.ext xx).im (iR.2 ?_));by_cases h2:(i.imports.length:Int) > 4
 ·simp only [h2,aS,reduceIte,decide_true];exact hR _ _ (cM.no (λh=>by have:=h.2.1.1;omega) xx)
 simp only [h2,aS,reduceIte,Bool.false_eq_true,decide_false];refine bF hb fG iC rfl ?_;refine (aCx (q:=λx=>x.right) (h.ext xx).im λx hx row w' hrow xw=>aBw hrow ((hn.2 x hx).ext (xx.trans xw))).mono λv w4 ⟨b,hv,hk3,x4⟩=>?_;subst hv;have hb:=hb.ext x4;have xx:=xx.trans x4;cases b with
 | false=>simp only [aS,Bool.not_false];exact hR _ _ (cM.no (λh=>by have:=hk3.2 h.2.1.2;cases this) xx)
 | true=>
 simp only [aS,Bool.not_true];refine bF hb bP dM rfl (yO iQ (h.ext xx).mt (aY.2 ?_));by_cases h4:(i.methods.length:Int) < 1
 ·simp only [h4,aS,reduceIte,decide_true];exact hR _ _ (cM.no (λh=>by have:=h.2.2.1.1.1;omega) xx)
 simp only [h4,aS,reduceIte,Bool.false_eq_true,decide_false];refine bF hb bP dM rfl (yO iQ (h.ext xx).mt (iR.2 ?_));by_cases h5:(i.methods.length:Int) > 8
 ·simp only [h5,aS,reduceIte,decide_true];exact hR _ _ (cM.no (λh=>by have:=h.2.2.1.1.2;omega) xx)
 simp only [h5,aS,reduceIte,Bool.false_eq_true,decide_false];refine bF hb bP dM rfl ?_;refine (aCw (q:=λx=>x.right) (h.ext xx).mt λx hx row w' hrow _=>aBk hrow (hr x hx)).mono λv w5 ⟨b,hv,hk6,x5⟩=>?_;subst hv;have hb:=hb.ext x5;have xx:=xx.trans x5;cases b with
 | false=>simp only [aS,reduceIte,Bool.not_false];exact hR _ _ (cM.no (λh=>by have:=hk6.2 h.2.2.1.2.1;cases this) xx)
 | true=>
 simp only [aS,reduceIte,Bool.false_eq_true,Bool.not_true];have h0:=aYg (i:=i) (by omega);refine bF hb bP dM rfl ?_;refine sQ (i:=0) iQ dL bD (h.ext xx).mt h0 λrow hrow=>?_;obtain ⟨pv,lv,cv,rfl,hp,_,_⟩:=hrow;refine ⟨pv,rfl,by decide,gD aQ hp (iR.2 ?_)⟩;by_cases h7:((i.meth 0).params.length:Int) > ((0:Nat):Int)
 ·have h7':((i.meth 0).params.length:Int) > 0:=h7;simp only [h7',aS,reduceIte,decide_true];exact hR _ _ (cM.no (λh=>by rw [h.2.2.1.2.2.1] at h7;simp at h7) xx)
 have h7':¬ ((i.meth 0).params.length:Int) > 0:=h7;simp only [h7',aS,reduceIte,Bool.false_eq_true,decide_false];refine bF hb bP dM rfl ?_;refine sQ (i:=0) iQ fS aH (h.ext xx).mt h0 λrow hrow=>?_;obtain ⟨pv,lv,cv,rfl,_,_,_⟩:=hrow;refine ⟨i64 (i.meth 0).result,rfl,by decide,dB.2 ?_⟩;by_cases h8:(i.meth 0).result=0
 case neg=>simp only [h8,aS,not_false_eq_true,ne_eq,decide_true];exact hR _ _ (cM.no (λh=>h8 h.2.2.1.2.2.2) xx)
 simp only [h8,aS,not_true_eq_false,ne_eq,decide_false];refine bF hb kB bD rfl (gD aQ (h.ext xx).ex (tK.2 ?_));by_cases h9:(i.exports.length:Int)<=4
 case neg=>simp only [h9,aS,reduceIte,Bool.false_eq_true,decide_false];exact hR _ _ (cM.no (λh=>h9 (by have:=h.2.2.2.1;omega)) xx)
 simp only [h9,aS,reduceIte,decide_true];refine bF hb kB bD rfl (fnK ?_)
 have fin:aB prog 112 #[p.xv,.func (.func 113) #[] #[.pointer (some ⟨b1,0,none⟩)]] w5 (cM (∀ n∈i.exports,0<=n/\n < (i.methods.length:Int)) w5):=by
  have hb5:=hb;have h5':=h.ext xx;apply aXk;unfold QV;refine bx λb2 w6 hb2 x6=>fnK ?_;refine (aYz (q:=λn=>¬ (0<=n/\n < (i.methods.length:Int))) (h5'.ext x6).ex λn _ w7 x7=>⟨_,_,rfl,?_⟩).mono λv w8 ⟨t,hv,ht,x8⟩=>?_
  ·show aB prog _ #[i64 n,_] w7 _;apply aVh;unfold OW;refine ldP iD (hb2.ext x7) rfl ?_;refine ⟨_,_,rfl,?_⟩;show aB prog _ #[i64 n,_] w7 _;apply aXj;suffices key:∀ R:Value->World->Prop,(∀ b,(b=true↔(0<=n/\n < (i.methods.length:Int)))->R (.bool b) w7)->EN (i64 n) (.pointer (some ⟨b1,0,none⟩)) w7 R from key _ λb hb=>dK.2 ⟨_,rfl,by rw [Bool.not_eq_true',Bool.eq_false_iff,ne_eq,hb],aF.refl _⟩;intro R hR;unfold EN;refine kN.2 ?_;by_cases hn0:n>=0
   ·simp only [hn0,aS,reduceIte,decide_true];refine bF ((hb5.ext x6).ext x7) bP dM rfl (yO iQ ((h5'.ext x6).ext x7).mt (aY.2 ?_));exact hR _ (by simp;omega)
   ·simp only [hn0,aS,reduceIte,Bool.false_eq_true,decide_false];exact hR _ ⟨λh=>(by cases h),λh=>absurd h.1 hn0⟩
  ·subst hv;refine dK.2 ⟨_,rfl,?_,x6.trans x8⟩;rw [Bool.not_eq_true',Bool.eq_false_iff,ne_eq,ht];constructor
   ·intro hh x hx;exact Classical.byContradiction λhn=>hh ⟨x,hx,hn⟩
   ·rintro hh ⟨x,hx,hn⟩;exact hn (hh x hx)
 refine fin.mono λv w6 ⟨b,hv,hk,x6⟩=>?_;subst hv;refine hR _ _ ⟨b,rfl,?_,xx.trans x6⟩;rw [hk];exact ⟨λhh=>⟨hk1.1 rfl,⟨by omega,hk3.1 rfl⟩,⟨⟨by omega,by omega⟩,hk6.1 rfl,List.eq_nil_of_length_eq_zero (by omega),h8⟩,by omega,hh⟩,λhh=>hh.2.2.2.2⟩
theorem K53 {lv:Value} {l:List Int} {most:Int} (hs:aN w lv l) (hk:∀ b,(b=true↔rQ l most)->K (.bool b) w):aB prog 91 #[lv,i64 most] w K:=aPh hs hk
theorem aOc (h:kK w p i) (hn:kM w i):aB prog 44 #[p.val i] w (cM i.right w):=by
 apply bFh;suffices key:∀ R:Value->World->Prop,(∀ v w',cM i.right w v w'->R v w')->JP (p.val i) w R from key _ λ_ _ h=>h;intro R hR;unfold JP iP.val;refine bx λb1 w1 hb x1=>?_;refine bF hb kX aGi rfl ?_;refine (hn.1 w1 x1).1.mono λv w2 hv=>?_;obtain ⟨rfl,x2⟩:=hv.T;have hb:=hb.ext x2;have xx:=x1.trans x2;simp only [aS,reduceIte,Bool.false_eq_true,Bool.not_true];have no:∀ {w'},aF w2 w'->¬ i.right->R (.bool false) w':=λhx hn=>hR _ _ (cM.no hn (xx.trans hx));refine bF hb jF bD rfl (K53 (h.ext xx).fl λb hk1=>?_);cases b with
 | false=>simp only [aS,reduceIte,Bool.not_false];exact no (aF.refl _) λh=>by have:=hk1.2 h.1;cases this
 | true=>
 simp only [aS,reduceIte,Bool.false_eq_true,Bool.not_true];refine bF hb fG iC rfl (yO nK (h.ext xx).im (iR.2 ?_));by_cases h2:(i.imports.length:Int) > 4
 ·simp only [h2,aS,reduceIte,decide_true];exact no (aF.refl _) λh=>by have:=h.2.1.1;omega
 simp only [h2,aS,reduceIte,Bool.false_eq_true,decide_false];refine bF hb bP dM rfl (yO iQ (h.ext xx).mt (aY.2 ?_));by_cases h4:(i.methods.length:Int) < 1
 ·simp only [h4,aS,reduceIte,decide_true];exact no (aF.refl _) λh=>by have:=h.2.2.1.1.1;omega
 simp only [h4,aS,reduceIte,Bool.false_eq_true,decide_false];refine bF hb bP dM rfl (yO iQ (h.ext xx).mt (iR.2 ?_));by_cases h5:(i.methods.length:Int) > 8
 ·simp only [h5,aS,reduceIte,decide_true];exact no (aF.refl _) λh=>by have:=h.2.2.1.1.2;omega
 simp only [h5,aS,reduceIte,Bool.false_eq_true,decide_false];refine bF hb kB bD rfl (gD aQ (h.ext xx).ex (iR.2 ?_));by_cases h9:(i.exports.length:Int) > 4
 ·simp only [h9,aS,decide_true];exact no (aF.refl _) λh=>by have:=h.2.2.2.1;omega
 simp only [h9,aS,decide_false];have hw2:=h.ext xx;refine ⟨λv w'=>∃ j:Nat,v=i64 j/\j<=i.imports.length/\aF w2 w'/\∀ x∈i.imports.take j,x.right,λv _=>i.imports.length - (RowKit.intOf v).toNat,⟨0,rfl,Nat.zero_le _,aF.refl _,λ_ h=>by simp at h⟩,?_⟩;rintro _ w3 ⟨j,rfl,hj,x3,hall⟩ _;refine bF (hb.ext x3) fG iC rfl (yO nK (hw2.ext x3).im (aY.2 (aD (λhlt=>?_) λhge=>?_)))
 ·obtain ⟨x,hx⟩:=bC (l:=i.imports) (j:=j) (by omega);have hxm:x∈i.imports:=List.mem_of_getElem? hx;refine bF (hb.ext x3) fG iC rfl ?_;refine ldS nK IL (hw2.ext x3).im hx BA λrow hrow=>?_;obtain ⟨pv,rfl,hp⟩:=hrow;obtain ⟨pa,pc,rfl⟩:=hp.shape;refine wJ aEa rfl rfl λb2 w4 hb2 x4=>?_;refine bF hb2 eB aGi rfl ?_;refine (hn.2 x hxm w4 ((xx.trans x3).trans x4)).1.mono λv w5 hv=>?_;obtain ⟨rfl,x5⟩:=hv.T;have hb2:=hb2.ext x5;have x35:=(x3.trans x4).trans x5;simp only [aS,reduceIte,Bool.false_eq_true,Bool.not_true];have noI:¬ x.right->R (.bool false) w5:=λhn=>no x35 λh=>hn (h.2.1.2 x hxm);refine bF hb2 dH aH rfl (aY.2 ?_);by_cases g1:x.exp < 0
  ·simp only [g1,aS,reduceIte,decide_true];exact noI λh=>by have:=h.1.1;omega
  simp only [g1,aS,reduceIte,Bool.false_eq_true,decide_false];refine bF hb2 dH aH rfl (kN.2 ?_);by_cases g2:x.exp>=4
  ·simp only [g2,aS,reduceIte,decide_true];exact noI λh=>by have:=h.1.2;omega
  simp only [g2,aS,reduceIte,Bool.false_eq_true,decide_false];refine bF hb2 bW bD rfl (K53 (hp.ext (x4.trans x5)) λb hk3=>?_);cases b with
  | false=>simp only [aS,reduceIte,Bool.not_false];exact noI λh=>by have:=hk3.2 h.2.1;cases this
  | true=>
  simp only [aS,reduceIte,Bool.false_eq_true,Bool.not_true];refine bF hb2 cB aH rfl (aY.2 ?_);by_cases g3:x.result < 0
  ·simp only [g3,aS,reduceIte,decide_true];exact noI λh=>by have:=h.2.2.1;omega
  simp only [g3,aS,reduceIte,Bool.false_eq_true,decide_false];refine bF hb2 cB aH rfl (iR.2 ?_);by_cases g4:x.result > 4
  ·simp only [g4,aS,decide_true];exact noI λh=>by have:=h.2.2.2;omega
  simp only [g4,aS,decide_false];refine aU.2 ?_;rw [aC (by omega) (by omega),aR];refine ⟨⟨j+1,rfl,by omega,x35,λy hy=>?_⟩,by simp only [aL];omega⟩;rw [List.take_add_one,hx] at hy;rcases List.mem_append.1 hy with hy|hy
  ·exact hall y hy
  ·simp at hy;subst hy;exact ⟨⟨by omega,by omega⟩,hk3.1 rfl,by omega,by omega⟩
 have hjl:j=i.imports.length:=by omega
 subst hjl;rw [List.take_length] at hall;refine ⟨λv w'=>∃ j:Nat,v=i64 j/\j<=i.methods.length/\aF w2 w'/\∀ x∈i.methods.take j,x.right,λv _=>i.methods.length - (RowKit.intOf v).toNat,⟨0,rfl,Nat.zero_le _,x3,λ_ h=>by simp at h⟩,?_⟩;rintro _ w4 ⟨j,rfl,hj,x4,hallm⟩ _;refine bF (hb.ext x4) bP dM rfl (yO iQ (hw2.ext x4).mt (aY.2 (aD (λhlt=>?_) λhge=>?_)))
 ·obtain ⟨m,hm⟩:=bC (l:=i.methods) (j:=j) (by omega);have hmm:m∈i.methods:=List.mem_of_getElem? hm;refine bF (hb.ext x4) bP dM rfl ?_;refine ldS iQ oB (hw2.ext x4).mt hm rC λrow hrow=>?_;obtain ⟨pv,lv,cv,rfl,hp,hl,hc⟩:=hrow;obtain ⟨pa,pc,rfl⟩:=hp.shape;obtain ⟨la,lc,rfl⟩:=hl.shape;obtain ⟨ca,cc,rfl⟩:=aA.shape hc;refine wJ FN rfl rfl λb2 w5 hb2 x5=>?_;have x45:=x4.trans x5;have noM:∀ {w'},aF w5 w'->¬ m.right->R (.bool false) w':=λhx hn=>no (x45.trans hx) λh=>hn (h.2.2.1.2.1 m hmm);refine bF hb2 dL bD rfl (K53 (hp.ext x5) λb hk3=>?_);cases b with
  | false=>simp only [aS,reduceIte,Bool.not_false];exact noM (aF.refl _) λh=>by have:=hk3.2 h.1;cases this
  | true=>
  simp only [aS,reduceIte,Bool.false_eq_true,Bool.not_true];refine bF hb2 fS aH rfl (aY.2 ?_);by_cases g3:m.result < 0
  ·simp only [g3,aS,reduceIte,decide_true];exact noM (aF.refl _) λh=>by have:=h.2.1.1;omega
  simp only [g3,aS,reduceIte,Bool.false_eq_true,decide_false];refine bF hb2 fS aH rfl (iR.2 ?_);by_cases g4:m.result > 4
  ·simp only [g4,aS,reduceIte,decide_true];exact noM (aF.refl _) λh=>by have:=h.2.1.2;omega
  simp only [g4,aS,reduceIte,Bool.false_eq_true,decide_false];have cp:=tY hp;refine bF hb2 kV bD rfl ?_;refine bF hb2 dL bD rfl (gD aQ (hp.ext x5) (fQ.2 ?_));rw [aC (by unfold maxLen at cp;omega) (by omega)];refine K53 (hl.ext x5) λb hk5=>?_;cases b with
  | false=>simp only [aS,reduceIte,Bool.not_false];exact noM (aF.refl _) λh=>by have:=hk5.2 h.2.2.1;cases this
  | true=>
  simp only [aS,reduceIte,Bool.false_eq_true,Bool.not_true];refine bF hb2 dG iY rfl (gD kS (hc.ext x5) (aY.2 ?_));by_cases g6:(m.code.length:Int) < 1
  ·simp only [g6,aS,reduceIte,decide_true];exact noM (aF.refl _) λh=>by have:=h.2.2.2.1.1;omega
  simp only [g6,aS,reduceIte,Bool.false_eq_true,decide_false];refine bF hb2 dG iY rfl (gD kS (hc.ext x5) (iR.2 ?_));by_cases g7:(m.code.length:Int) > 120
  ·simp only [g7,aS,decide_true];exact noM (aF.refl _) λh=>by have:=h.2.2.2.1.2;omega
  simp only [g7,aS,decide_false];refine ⟨λv w'=>∃ q:Nat,v=i64 q/\q<=m.code.length/\aF w5 w'/\∀ x∈m.code.take q,x.right,λv _=>m.code.length - (RowKit.intOf v).toNat,⟨0,rfl,Nat.zero_le _,aF.refl _,λ_ h=>by simp at h⟩,?_⟩;rintro _ w6 ⟨q,rfl,hq,x6,hallc⟩ _;have hc6:=(hc.ext x5).ext x6;refine bF (hb2.ext x6) dG iY rfl (gD kS hc6 (aY.2 (aD (λhlt2=>?_) λhge2=>?_)))
  ·obtain ⟨x,hx⟩:=bC (l:=m.code) (j:=q) (by omega);have hxm:x∈m.code:=List.mem_of_getElem? hx;refine bF (hb2.ext x6) dG iY rfl (ldI hc6 hx ?_);refine aOb λb w7 hbr x7=>?_;cases b with
   | false=>simp only [aS,Bool.not_false];exact noM (x6.trans x7) λh=>by have:=hbr.2 (h.2.2.2.2 x hxm);cases this
   | true=>
   simp only [aS,Bool.not_true];refine aU.2 ?_;rw [aC (by omega) (by omega),aR];refine ⟨⟨q+1,rfl,by omega,x6.trans x7,λy hy=>?_⟩,by simp only [aL];omega⟩;rw [List.take_add_one,hx] at hy;rcases List.mem_append.1 hy with hy|hy
   ·exact hallc y hy
   ·simp at hy;subst hy;exact hbr.1 rfl
  ·have hql:q=m.code.length:=by omega
   subst hql;rw [List.take_length] at hallc;refine aU.2 ?_;rw [aC (by omega) (by omega),aR];refine ⟨⟨j+1,rfl,by omega,x45.trans x6,λy hy=>?_⟩,by simp only [aL];omega⟩;rw [List.take_add_one,hm] at hy;rcases List.mem_append.1 hy with hy|hy
   ·exact hallm y hy
   ·simp at hy;subst hy;exact ⟨hk3.1 rfl,⟨by omega,by omega⟩,hk5.1 rfl,⟨by omega,by omega⟩,hallc⟩
 have hjl:j=i.methods.length:=by omega
 subst hjl;rw [List.take_length] at hallm;refine ⟨λv w'=>∃ j:Nat,v=i64 j/\j<=i.exports.length/\aF w2 w'/\∀ x∈i.exports.take j,0<=x/\x < (i.methods.length:Int),λv _=>i.exports.length - (RowKit.intOf v).toNat,⟨0,rfl,Nat.zero_le _,x4,λ_ h=>by simp at h⟩,?_⟩;rintro _ w5 ⟨j,rfl,hj,x5,halle⟩ _;have h5':=hw2.ext x5;refine bF (hb.ext x5) kB bD rfl (gD aQ h5'.ex (aY.2 (aD (λhlt=>?_) λhge=>?_)))
 ·obtain ⟨x,hx⟩:=bC (l:=i.exports) (j:=j) (by omega);have hxm:x∈i.exports:=List.mem_of_getElem? hx;have D1:aF w5 w5.drew:=(aF.refl _).drew;have hbS:∀ w',aF w5 w'->bG w' b1 _:=λw' hx=>(hb.ext x5).ext hx;obtain ⟨mcs,hms⟩:=h5'.mt.sl;refine aM.mk' (λw'=>aF w5 w') D1 ?_;refine jM hbS kB bD rfl ?_;refine nR aQ aH h5'.ex (λ_ h=>h) (by omega) (by omega) (cG hx) (aAj ?_);by_cases g1:x < 0
  ·simp only [g1,aS,reduceIte,decide_true];exact no (x5.trans D1) λh=>by have:=(h.2.2.2.2 x hxm).1;omega
  simp only [g1,aS,reduceIte,Bool.false_eq_true,decide_false];refine jM hbS kB bD rfl ?_;refine nR aQ aH h5'.ex (λ_ h=>h) (by omega) (by omega) (cG hx) ?_;refine jM hbS bP dM rfl (rA iQ hms (bJh ?_));by_cases g2:x>=((i.methods.length:Nat):Int)
  ·simp only [g2,aS,decide_true];exact no (x5.trans D1) λh=>by have:=(h.2.2.2.2 x hxm).2;omega
  simp only [g2,aS,decide_false];refine aU.2 ?_;rw [aC (by omega) (by omega),aR];refine ⟨⟨j+1,rfl,by omega,x5.trans D1,λy hy=>?_⟩,by simp only [aL];omega⟩;rw [List.take_add_one,hx] at hy;rcases List.mem_append.1 hy with hy|hy
  ·exact halle y hy
  ·simp at hy;subst hy;exact ⟨by omega,by omega⟩
 have hjl:j=i.exports.length:=by omega
 subst hjl;rw [List.take_length] at halle;have h0:=aYg (i:=i) (by omega);have fin:∀ b,(b=true↔(i.meth 0).params=[]/\(i.meth 0).result=0)->R (.bool b) w5:=λb hbb=>hR _ _ ⟨b,rfl,hbb.trans ⟨λhh=>⟨hk1.1 rfl,⟨by omega,hall⟩,⟨⟨by omega,by omega⟩,hallm,hh.1,hh.2⟩,by omega,halle⟩,λhh=>hh.2.2.1.2.2⟩,xx.trans x5⟩;refine bF (hb.ext x5) bP dM rfl ?_;refine sQ (i:=0) iQ dL bD h5'.mt h0 λrow hrow=>?_;obtain ⟨pv,lv,cv,rfl,hp,_,_⟩:=hrow;refine ⟨pv,rfl,by decide,gD aQ hp (aK.2 ?_)⟩;by_cases h7:(((i.meth 0).params.length:Nat):Int)=0
 case neg=>
  simp only [h7,aS,reduceIte,Bool.false_eq_true,decide_false];exact fin _ ⟨λh=>(by cases h),λh=>by rw [h.1] at h7;simp at h7⟩
 simp only [h7,aS,reduceIte,decide_true];refine bF (hb.ext x5) bP dM rfl ?_;refine sQ (i:=0) iQ fS aH h5'.mt h0 λrow hrow=>?_;obtain ⟨pv,lv,cv,rfl,_,_,_⟩:=hrow;refine ⟨i64 (i.meth 0).result,rfl,by decide,aK.2 ?_⟩;exact fin _ (decide_eq_true_iff.trans ⟨λh=>⟨List.eq_nil_of_length_eq_zero (by omega),h⟩,λh=>h.2⟩)
theorem fD {l:List Int} {a:Nat} (h:a < l.length):l[a]?=some (l.getD a 0):=by
 rw [List.getD_eq_getElem?_getD,List.getElem?_eq_getElem h];rfl
theorem aFz {a:Nat}:m.locs.getD a 0=if a < m.params.length then m.params.getD a 0 else m.locals.getD (a - m.params.length) 0:=by
 unfold jH.locs;simp only [List.getD_eq_getElem?_getD,List.getElem?_append];split<;>rfl
theorem IH {row:List Value} (hm:lK w row m) (hr:m.right) (h0:0<=a) (hk:∀ w',aF w w'->K (.tuple #[i64 (m.locs.getD a.toNat 0),.bool (decide (a < (m.locs.length:Int)))]) w') :
  aB prog 146 #[.agg row.toArray,i64 a] w K:=by
 obtain ⟨pv,lv,cv,rfl,hp,hl,hc⟩:=hm;obtain ⟨k,rfl⟩:∃ k:Nat,a=k:=⟨a.toNat,by omega⟩;have c1:=hr.1.2;have c2:=hr.2.2.1.2;have hlen:m.locs.length=m.params.length+m.locals.length:=by simp [jH.locs]
 apply aWc;unfold PP;refine bx λb1 w1 hb x1=>?_;have hk:=hk _ x1;rw [aFz] at hk;simp only [Int.toNat_natCast,hlen] at hk;refine bF hb dL bD rfl (gD aQ (hp.ext x1) (aY.2 (aD (λhlt=>?_) λhge=>?_)))
 ·refine bF hb dL bD rfl ?_;refine lV aQ aH (hp.ext x1) (by omega) (by omega) (cG (fD (by omega))) ?_;rw [if_pos (by omega),decide_eq_true (by omega)] at hk;exact hk
 ·rw [if_neg (by omega)] at hk;refine bF hb dL bD rfl (gD aQ (hp.ext x1) ?_);refine bF hb kV bD rfl (gD aQ (hl.ext x1) (aU.2 ?_));rw [aC (by omega) (by omega)];refine aY.2 (aD (λhlt2=>?_) λhge2=>?_)
  ·refine bF hb kV bD rfl ?_;refine bF hb dL bD rfl (gD aQ (hp.ext x1) (fQ.2 ?_));rw [aC (by omega) (by omega),show (k:Int) - (m.params.length:Int)=((k - m.params.length:Nat):Int) by omega];refine lV aQ aH (hl.ext x1) (by omega) (by omega) (cG (fD (by omega))) ?_;rw [decide_eq_true (by omega)] at hk;exact hk
  ·rw [decide_eq_false (by omega)] at hk;have:m.locals.getD (k - m.params.length) 0=0:=by rw [List.getD_eq_getElem?_getD,List.getElem?_eq_none (by omega)];rfl
   rw [this] at hk;exact hk
theorem gM (h0:0<=a) (h:a < i.methods.length):i.methods[a.toNat]?=some (i.meth a):=by
 unfold gN.meth;rw [List.getD_eq_getElem?_getD,List.getElem?_eq_getElem (by omega)];rfl
theorem sX (h0:0<=a) (h:a < i.imports.length):i.imports[a.toNat]?=some (i.imp a):=by
 unfold gN.imp;rw [List.getD_eq_getElem?_getD,List.getElem?_eq_getElem (by omega)];rfl
theorem aOz {row:List Value} (h:kK w p i) (hm:lK w row m) (hr:m.right) (hx:x.right) :
  aB prog 93 #[p.val i,.agg row.toArray,.agg #[i64 x.op,i64 x.a,i64 x.b]] w (cM (eZ i m x) w):=by
 obtain ⟨op,a,b⟩:=x;obtain ⟨ho,a1,a2,_⟩:=hx;have hm0:=hm;obtain ⟨pv,lv,cv,rfl,hp,hl,hc⟩:=hm;apply bDr;suffices key:∀ R:Value->World->Prop,(∀ v w',cM (eZ i m ⟨op,a,b⟩) w v w'->R v w')->JM (p.val i) (.agg [pv,i64 m.result,lv,cv].toArray) (.agg #[i64 op,i64 a,i64 b]) w R from key _ λ_ _ h=>h;intro R hR;unfold JM iP.val;refine bx λb1 w1 hb1 x1=>?_;refine bx λb2 w2 hb2 x2=>?_;refine bx λb3 w3 hb3 x3=>?_;have hb1:=(hb1.ext x2).ext x3;have hb2:bG w3 b2 [pv,i64 m.result,lv,cv]:=hb2.ext x3;have xx:=(x1.trans x2).trans x3;have h':=h.ext xx;refine bF hb3 bJ aH rfl ?_;by_cases c1:op=2\/op=3
 ·have hs:eZ i m ⟨op,a,b⟩↔a < (m.locs.length:Int):=by unfold eZ;dsimp only;rw [if_pos c1]
  have ha:0<=a:=by rcases c1 with rfl|rfl<;>exact a1
  rcases c1 with rfl|rfl
  all_goals
   simp only [aS,Int.reduceEq,decide_true,decide_false];refine iO hb2 oB rfl ?_;refine bF hb3 (by first|exact cY|exact cX|exact cD|exact cW|exact cL|exact cK|exact cC|exact cV|exact cU|exact cT|exact cJ|exact cI|exact cH|exact bT|exact cS|exact bS|exact dF|exact cR|exact cQ|exact dE|exact dD|exact dJ|exact dC|exact dI|exact dU|exact dT|exact eF|exact eR|exact eE|exact eD|exact eQ|exact eC|exact eO|exact bR|exact dS|exact dR|exact dQ|exact eB|exact dH|exact bW|exact cB|exact eN|exact eA|exact cA|exact dP|exact eV|exact dO|exact fJ|exact eM|exact bA|exact eJ|exact bZ|exact dZ|exact eI|exact fI|exact cP|exact fH|exact fV|exact fP|exact gY|exact iN|exact dN|exact fU|exact iM|exact gX|exact iL|exact iK|exact iJ|exact iI|exact gW|exact bQ|exact fO|exact fT|exact dY|exact dX|exact jY|exact jX|exact kX|exact jF|exact fG|exact bP|exact kB|exact kW|exact gA|exact eG|exact dL|exact fS|exact kV|exact dG|exact qJ|exact pI|exact oH|exact oG|exact lP|exact mV|exact pH|exact lO|exact mC|exact mA|exact lN|exact qI|exact mU|exact lZ|exact qH|exact bJ|exact bE) (by first|exact gQ|exact iH|exact hY|exact iG|exact kI|exact iF|exact kH|exact iE|exact iD|exact bD|exact jB|exact iC|exact dM|exact aH) rfl ?_
   refine IH (hm0.ext xx) hr ha λw4 x4=>?_;refine gS.2 (gR.2 ?_);exact hR _ _ ⟨_,rfl,decide_eq_true_iff.trans hs.symm,xx.trans x4⟩
 by_cases c2:op=33\/op=34
 ·have hs:eZ i m ⟨op,a,b⟩↔a < (i.fields.length:Int):=by unfold eZ;dsimp only;rw [if_neg c1,if_pos c2]
  rcases c2 with rfl|rfl
  all_goals
   simp only [aS,Int.reduceEq,decide_true,decide_false];refine bF hb3 (by first|exact cY|exact cX|exact cD|exact cW|exact cL|exact cK|exact cC|exact cV|exact cU|exact cT|exact cJ|exact cI|exact cH|exact bT|exact cS|exact bS|exact dF|exact cR|exact cQ|exact dE|exact dD|exact dJ|exact dC|exact dI|exact dU|exact dT|exact eF|exact eR|exact eE|exact eD|exact eQ|exact eC|exact eO|exact bR|exact dS|exact dR|exact dQ|exact eB|exact dH|exact bW|exact cB|exact eN|exact eA|exact cA|exact dP|exact eV|exact dO|exact fJ|exact eM|exact bA|exact eJ|exact bZ|exact dZ|exact eI|exact fI|exact cP|exact fH|exact fV|exact fP|exact gY|exact iN|exact dN|exact fU|exact iM|exact gX|exact iL|exact iK|exact iJ|exact iI|exact gW|exact bQ|exact fO|exact fT|exact dY|exact dX|exact jY|exact jX|exact kX|exact jF|exact fG|exact bP|exact kB|exact kW|exact gA|exact eG|exact dL|exact fS|exact kV|exact dG|exact qJ|exact pI|exact oH|exact oG|exact lP|exact mV|exact pH|exact lO|exact mC|exact mA|exact lN|exact qI|exact mU|exact lZ|exact qH|exact bJ|exact bE) (by first|exact gQ|exact iH|exact hY|exact iG|exact kI|exact iF|exact kH|exact iE|exact iD|exact bD|exact jB|exact iC|exact dM|exact aH) rfl ?_
   refine bF hb1 (by first|exact cY|exact cX|exact cD|exact cW|exact cL|exact cK|exact cC|exact cV|exact cU|exact cT|exact cJ|exact cI|exact cH|exact bT|exact cS|exact bS|exact dF|exact cR|exact cQ|exact dE|exact dD|exact dJ|exact dC|exact dI|exact dU|exact dT|exact eF|exact eR|exact eE|exact eD|exact eQ|exact eC|exact eO|exact bR|exact dS|exact dR|exact dQ|exact eB|exact dH|exact bW|exact cB|exact eN|exact eA|exact cA|exact dP|exact eV|exact dO|exact fJ|exact eM|exact bA|exact eJ|exact bZ|exact dZ|exact eI|exact fI|exact cP|exact fH|exact fV|exact fP|exact gY|exact iN|exact dN|exact fU|exact iM|exact gX|exact iL|exact iK|exact iJ|exact iI|exact gW|exact bQ|exact fO|exact fT|exact dY|exact dX|exact jY|exact jX|exact kX|exact jF) (by first|exact gQ|exact iH|exact hY|exact iG|exact kI|exact iF|exact kH|exact iE|exact iD|exact bD) rfl (gD aQ h'.fl (aY.2 ?_));exact hR _ _ ⟨_,rfl,decide_eq_true_iff.trans hs.symm,xx⟩
 by_cases c3:op=37
 ·have hs:eZ i m ⟨op,a,b⟩↔a < (i.methods.length:Int):=by unfold eZ;dsimp only;rw [if_neg c1,if_neg c2,if_pos c3]
  subst c3;simp only [aS,Int.reduceEq,decide_true,decide_false];refine bF hb3 bE aH rfl ?_;refine bF hb1 bP dM rfl (yO iQ h'.mt (aY.2 ?_));exact hR _ _ ⟨_,rfl,decide_eq_true_iff.trans hs.symm,xx⟩
 by_cases c4:op=38
 ·have hs:eZ i m ⟨op,a,b⟩↔a < (i.imports.length:Int):=by unfold eZ;dsimp only;rw [if_neg c1,if_neg c2,if_neg c3,if_pos c4]
  subst c4;simp only [aS,Int.reduceEq,decide_true,decide_false];refine bF hb3 bE aH rfl ?_;refine bF hb1 fG iC rfl (yO nK h'.im (aY.2 ?_));exact hR _ _ ⟨_,rfl,decide_eq_true_iff.trans hs.symm,xx⟩
 by_cases c5:op=23\/op=24
 ·have hs:eZ i m ⟨op,a,b⟩↔a < (m.code.length:Int):=by unfold eZ;dsimp only;rw [if_neg c1,if_neg c2,if_neg c3,if_neg c4,if_pos c5]
  rcases c5 with rfl|rfl
  all_goals
   simp only [aS,Int.reduceEq,decide_true,decide_false];refine bF hb3 (by first|exact cY|exact cX|exact cD|exact cW|exact cL|exact cK|exact cC|exact cV|exact cU|exact cT|exact cJ|exact cI|exact cH|exact bT|exact cS|exact bS|exact dF|exact cR|exact cQ|exact dE|exact dD|exact dJ|exact dC|exact dI|exact dU|exact dT|exact eF|exact eR|exact eE|exact eD|exact eQ|exact eC|exact eO|exact bR|exact dS|exact dR|exact dQ|exact eB|exact dH|exact bW|exact cB|exact eN|exact eA|exact cA|exact dP|exact eV|exact dO|exact fJ|exact eM|exact bA|exact eJ|exact bZ|exact dZ|exact eI|exact fI|exact cP|exact fH|exact fV|exact fP|exact gY|exact iN|exact dN|exact fU|exact iM|exact gX|exact iL|exact iK|exact iJ|exact iI|exact gW|exact bQ|exact fO|exact fT|exact dY|exact dX|exact jY|exact jX|exact kX|exact jF|exact fG|exact bP|exact kB|exact kW|exact gA|exact eG|exact dL|exact fS|exact kV|exact dG|exact qJ|exact pI|exact oH|exact oG|exact lP|exact mV|exact pH|exact lO|exact mC|exact mA|exact lN|exact qI|exact mU|exact lZ|exact qH|exact bJ|exact bE) (by first|exact gQ|exact iH|exact hY|exact iG|exact kI|exact iF|exact kH|exact iE|exact iD|exact bD|exact jB|exact iC|exact dM|exact aH) rfl ?_
   refine bF hb2 (by first|exact cY|exact cX|exact cD|exact cW|exact cL|exact cK|exact cC|exact cV|exact cU|exact cT|exact cJ|exact cI|exact cH|exact bT|exact cS|exact bS|exact dF|exact cR|exact cQ|exact dE|exact dD|exact dJ|exact dC|exact dI|exact dU|exact dT|exact eF|exact eR|exact eE|exact eD|exact eQ|exact eC|exact eO|exact bR|exact dS|exact dR|exact dQ|exact eB|exact dH|exact bW|exact cB|exact eN|exact eA|exact cA|exact dP|exact eV|exact dO|exact fJ|exact eM|exact bA|exact eJ|exact bZ|exact dZ|exact eI|exact fI|exact cP|exact fH|exact fV|exact fP|exact gY|exact iN|exact dN|exact fU|exact iM|exact gX|exact iL|exact iK|exact iJ|exact iI|exact gW|exact bQ|exact fO|exact fT|exact dY|exact dX|exact jY|exact jX|exact kX|exact jF|exact fG|exact bP|exact kB|exact kW|exact gA|exact eG|exact dL|exact fS|exact kV|exact dG) (by first|exact gQ|exact iH|exact hY|exact iG|exact kI|exact iF|exact kH|exact iE|exact iD|exact bD|exact jB|exact iC|exact dM|exact aH|exact kD|exact iY) rfl (gD kS (hc.ext xx) (aY.2 ?_));exact hR _ _ ⟨_,rfl,decide_eq_true_iff.trans hs.symm,xx⟩
 ·have hs:eZ i m ⟨op,a,b⟩:=by unfold eZ;dsimp only;rw [if_neg c1,if_neg c2,if_neg c3,if_neg c4,if_neg c5];trivial
  simp only [not_or] at c1 c2 c5;simp only [c1.1,c1.2,c2.1,c2.2,c3,c4,c5.1,c5.2,aS,decide_false];exact hR _ _ (cM.yes hs xx)
theorem aAn {pc:Nat} (hp:pc<=1000) (hk:∀ v w',w'.ownsRow w.heap.size 3 1 v (fB x pc).length ((fB x pc).map i64)->aF w w'->K v w'):aB prog 95 #[.agg #[i64 x.op,i64 x.a,i64 x.b],i64 pc] w K:=by
 obtain ⟨op,a,b⟩:=x;apply bDp;unfold XT;refine bx λb1 w1 hb x1=>?_;refine bF hb bJ aH rfl (aK.2 (aD (λc1=>?_) λc1=>aK.2 (aD (λc2=>?_) λc2=>aK.2 (aD (λc3=>?_) λc3=>?_))))
 ·refine bF hb bE aH rfl ?_;refine jS bB [i64 a] rfl rfl (by simp) rfl λv w2 ho x2=>hk _ _ ?_ (x1.trans x2);have e:fB ⟨op,a,b⟩ pc=[a]:=by unfold fB;dsimp only;rw [if_pos c1]
  rw [e];exact aX ho x1.size
 ·refine aU.2 ?_;rw [aC (by omega) (by omega)];refine bF hb bE aH rfl ?_;refine jS bB [i64 ((pc:Int)+1),i64 a] rfl rfl (by simp) rfl λv w2 ho x2=>hk _ _ ?_ (x1.trans x2);have e:fB ⟨op,a,b⟩ pc=[(pc:Int)+1,a]:=by unfold fB;dsimp only;rw [if_neg c1,if_pos c2]
  rw [e];exact aX ho x1.size
 ·have e:fB ⟨op,a,b⟩ pc=[]:=by unfold fB;dsimp only;rw [if_neg c1,if_neg c2,if_pos c3]
  refine hk _ _ ?_ x1;rw [e];exact World.ownsRow_nil _ _ _ _
 ·refine aU.2 ?_;rw [aC (by omega) (by omega)];refine jS bB [i64 ((pc:Int)+1)] rfl rfl (by simp) rfl λv w2 ho x2=>hk _ _ ?_ (x1.trans x2);have e:fB ⟨op,a,b⟩ pc=[(pc:Int)+1]:=by unfold fB;dsimp only;rw [if_neg c1,if_neg c2,if_neg c3]
  rw [e];exact aX ho x1.size
def iU (op:Int):List UInt8:=
 if kE op then [105,105] else if op=15\/op=16 then [105] else if op=17\/op=18 then [112,112] else if op=24\/op=27 then [112] else if op=26\/op=28 then [97]
 else if op=29 then [97,112] else if op=30 then [97,112,105] else if op=31\/op=32 then [97,112,97,112,112] else if op=36 then [97,112,112] else []
theorem FS (ho:1<=op/\op<=39) (hk:K (.string ⟨(iU op).toArray⟩) w):aB prog 147 #[i64 op] w K:=by
 apply aWb;unfold PO;rcases AM ho with rfl|rfl|rfl|rfl|rfl|rfl|rfl|rfl|rfl|rfl|rfl|rfl|rfl|rfl|rfl|rfl|rfl|rfl|rfl|rfl|rfl|rfl|rfl|rfl|rfl|rfl|rfl|rfl|rfl|rfl|rfl|rfl|rfl|rfl|rfl|rfl|rfl|rfl|rfl<;>(simp only [aS,Int.reduceEq,decide_true,decide_false];exact hk)
theorem aCt {b:Int} (ho:1<=op/\op<=39) (h:op≠3/\op≠4/\op≠5/\op≠34/\op≠22/\op≠37/\op≠38/\op≠39):(aV i m ⟨op,a,b⟩).length=(iU op).length:=by
 obtain ⟨h1,h2,h3,h4,h5,h6,h7,h8⟩:=h;rcases AM ho with rfl|rfl|rfl|rfl|rfl|rfl|rfl|rfl|rfl|rfl|rfl|rfl|rfl|rfl|rfl|rfl|rfl|rfl|rfl|rfl|rfl|rfl|rfl|rfl|rfl|rfl|rfl|rfl|rfl|rfl|rfl|rfl|rfl|rfl|rfl|rfl|rfl|rfl|rfl<;>first|rfl|contradiction
theorem tX {t ty:TypeId} (ht:P.underlying t=some .string) {s:ByteArray}:(Builtin.len_ #[t] ty #[.string s]).run P w=.ok (i64 s.size) w:=by
 simp [Builtin.len_,run_underlying ht,goInt]
theorem aNx {row:List Value} (h:kK w p i) (hm:lK w row m) (hx:zN i m x) (hk:∀ w',aF w w'->K (i64 (aV i m x).length) w') :
  aB prog 126 #[p.val i,.agg row.toArray,.agg #[i64 x.op,i64 x.a,i64 x.b]] w K:=by
 obtain ⟨op,a,b⟩:=x;obtain ⟨_,_,⟨ho,a1,a2,_⟩,hn⟩:=hx;obtain ⟨pv,lv,cv,rfl,hp,hl,hc⟩:=hm;apply aWv;unfold QH iP.val;refine bx λb1 w1 hb1 x1=>?_;refine bx λb2 w2 hb2 x2=>?_;refine bx λb3 w3 hb3 x3=>?_;have hb1:=(hb1.ext x2).ext x3;have hb2:bG w3 b2 [pv,i64 m.result,lv,cv]:=hb2.ext x3;have xx:=(x1.trans x2).trans x3;have h':=h.ext xx;refine bF hb3 bJ aH rfl ?_;by_cases c1:op=3\/op=4\/op=5\/op=34
 ·rcases c1 with rfl|rfl|rfl|rfl<;>(simp only [aS,Int.reduceEq,decide_true,decide_false];exact hk _ xx)
 by_cases c2:op=22
 ·subst c2;simp only [aS,Int.reduceEq,decide_true,decide_false];exact hk _ xx
 by_cases c3:op=37
 ·subst c3;simp only [aS,Int.reduceEq,decide_true,decide_false];have ha:a < (i.methods.length:Int):=hn;have a1:0<=a:=a1;refine bF hb1 bP dM rfl ?_;refine bF hb3 bE aH rfl ?_;obtain ⟨k,rfl⟩:∃ k:Nat,a=k:=⟨a.toNat,by omega⟩;refine sQ iQ dL bD h'.mt (gM a1 ha) λrow hrow=>?_;obtain ⟨pv,lv,cv,rfl,hp,_,_⟩:=hrow;exact ⟨pv,rfl,by decide,gD aQ hp (hk _ xx)⟩
 by_cases c4:op=38
 ·subst c4;simp only [aS,Int.reduceEq,decide_true,decide_false];have ha:a < (i.imports.length:Int):=hn;have a1:0<=a:=a1;refine bF hb1 fG iC rfl ?_;refine bF hb3 bE aH rfl ?_;obtain ⟨k,rfl⟩:∃ k:Nat,a=k:=⟨a.toNat,by omega⟩;refine sQ nK bW bD h'.im (sX a1 ha) λrow hrow=>?_;obtain ⟨pv,rfl,hp⟩:=hrow;exact ⟨pv,rfl,by decide,gD aQ hp (hk _ xx)⟩
 by_cases c5:op=39
 ·subst c5;simp only [aS,Int.reduceEq,decide_true,decide_false];refine bF hb2 fS aH rfl (dB.2 ?_);have e:aV i m ⟨39,a,b⟩=mF m.result:=rfl;rw [e] at hk;by_cases hr:m.result=0
  ·simp only [hr,aS,not_true_eq_false,ne_eq,decide_false];simp only [mF,hr,reduceIte] at hk;exact hk _ xx
  ·simp only [hr,aS,not_false_eq_true,ne_eq,decide_true];simp only [mF,hr,reduceIte] at hk;exact hk _ xx
 ·simp only [not_or] at c1;obtain ⟨c11,c12,c13,c14⟩:=c1;simp only [c11,c12,c13,c14,c2,c3,c4,c5,aS,decide_false];refine bF hb3 bJ aH rfl (FS ho ?_);have e:=aCt (i:=i) (m:=m) (a:=a) (b:=b) ho ⟨c11,c12,c13,c14,c2,c3,c4,c5⟩;rw [e] at hk;exact V.ok (tX underlying9) (hk _ xx)
theorem KI {r:Int} (h:0<=r/\r<=4):∀ c,(c=1\/c=r)->c<=1->c<=r->c=((mF r).length:Int):=by
 intro c h1 h2 h3;unfold mF;split<;>simp<;>omega
theorem aQb (h:kK w p i) (hx:zN i m x) (hk:∀ w',aF w w'->K (i64 (hgt i m x)) w') :
  aB prog 127 #[p.val i,.agg #[i64 x.op,i64 x.a,i64 x.b]] w K:=by
 obtain ⟨op,a,b⟩:=x;obtain ⟨ir,_,⟨ho,a1,a2,_⟩,hn⟩:=hx;apply aWu;unfold QG iP.val;refine bx λb1 w1 hb1 x1=>?_;refine bx λb3 w3 hb3 x3=>?_;have hb1:=hb1.ext x3;have xx:=x1.trans x3;have h':=h.ext xx;refine bF hb3 bJ aH rfl ?_;by_cases c3:op=37
 ·subst c3;simp only [aS,Int.reduceEq,decide_true,decide_false];have ha:a < (i.methods.length:Int):=hn;have a1:0<=a:=a1;refine bF hb1 bP dM rfl ?_;refine bF hb3 bE aH rfl ?_;have hr:=(ir.2.2.1.2.1 _ (gN.meth_mem a1 ha)).2.1;have e:hgt i m ⟨37,a,b⟩=(mF (i.meth a).result).length:=rfl;rw [e] at hk;obtain ⟨k,rfl⟩:∃ k:Nat,a=k:=⟨a.toNat,by omega⟩;refine sQ iQ fS aH h'.mt (gM a1 ha) λrow hrow=>?_;obtain ⟨pv,lv,cv,rfl,hp,_,_⟩:=hrow;refine ⟨i64 (i.meth (k:Int)).result,rfl,by decide,mn2 λc h1 h2 h3=>?_⟩;rw [KI hr c h1 h2 h3];exact hk _ xx
 by_cases c4:op=38
 ·subst c4;simp only [aS,Int.reduceEq,decide_true,decide_false];have ha:a < (i.imports.length:Int):=hn;have a1:0<=a:=a1;refine bF hb1 fG iC rfl ?_;refine bF hb3 bE aH rfl ?_;have hr:=(ir.2.1.2 _ (gN.imp_mem a1 ha)).2.2;have e:hgt i m ⟨38,a,b⟩=(mF (i.imp a).result).length:=rfl;rw [e] at hk;obtain ⟨k,rfl⟩:∃ k:Nat,a=k:=⟨a.toNat,by omega⟩;refine sQ nK cB aH h'.im (sX a1 ha) λrow hrow=>?_;obtain ⟨pv,rfl,hp⟩:=hrow;refine ⟨i64 (i.imp (k:Int)).result,rfl,by decide,mn2 λc h1 h2 h3=>?_⟩;rw [KI hr c h1 h2 h3];exact hk _ xx
 ·rcases AM ho with rfl|rfl|rfl|rfl|rfl|rfl|rfl|rfl|rfl|rfl|rfl|rfl|rfl|rfl|rfl|rfl|rfl|rfl|rfl|rfl|rfl|rfl|rfl|rfl|rfl|rfl|rfl|rfl|rfl|rfl|rfl|rfl|rfl|rfl|rfl|rfl|rfl|rfl|rfl<;>first|contradiction|(simp only [aS,Int.reduceEq,decide_true,decide_false];exact hk _ xx)
theorem aGz {row:List Value} {tv:Value} {l:List Int} (h:kK w p i) (hm:lK w row m) (hx:zN i m x) (ht:aN w tv l) (hln:l.length=(aV i m x).length) (hk:∀ v w',aN w' v (iV i m x l)->aF w w'->K v w') :
  aB prog 153 #[p.val i,.agg row.toArray,.agg #[i64 x.op,i64 x.a,i64 x.b],tv] w K:=by
 obtain ⟨op,a,b⟩:=x;obtain ⟨ir,mr,⟨ho,a1,a2,_⟩,hn⟩:=hx;have hm0:=hm;obtain ⟨pv,lv,cv,rfl,hp,hl,hc⟩:=hm;apply aVv;unfold PI iP.val;refine bx λb1 w1 hb1 x1=>?_;refine bx λb2 w2 hb2 x2=>?_;refine bx λb3 w3 hb3 x3=>?_;have hb1:=(hb1.ext x2).ext x3;have hb2:bG w3 b2 [pv,i64 m.result,lv,cv]:=hb2.ext x3;have xx:=(x1.trans x2).trans x3;have h':=h.ext xx;refine bF hb3 bJ aH rfl ?_;rcases AM ho with rfl|rfl|rfl|rfl|rfl|rfl|rfl|rfl|rfl|rfl|rfl|rfl|rfl|rfl|rfl|rfl|rfl|rfl|rfl|rfl|rfl|rfl|rfl|rfl|rfl|rfl|rfl|rfl|rfl|rfl|rfl|rfl|rfl|rfl|rfl|rfl|rfl|rfl|rfl<;>simp only [aS,Int.reduceEq,decide_true,decide_false]
 ·refine jS bB [i64 (1)] rfl rfl (by simp) rfl λv w4 ho x4=>hk _ _ (aA.of_own ho) (xx.trans x4)
 ·have ha:a < (m.locs.length:Int):=hn;have a1:0<=a:=a1;refine iO hb2 oB rfl ?_;refine bF hb3 bE aH rfl ?_;refine IH (hm0.ext xx) mr a1 λw4 x4=>gS.2 (gR.2 ?_);refine jS bB [i64 (m.locs.getD a.toNat 0)] rfl rfl (by simp) rfl λv w5 ho x5=>hk _ _ (aA.of_own ho) ((xx.trans x4).trans x5)
 iterate 2
  ·exact hk _ _ (aA.nil _ _) xx
 ·have hl1:l.length=1:=hln;have D1:aF w3 w3.drew:=(aF.refl _).drew;refine aM.mk' (λw'=>aF w3 w') D1 ?_;refine nR aQ aH (ht.ext xx) (λ_ h=>h) (by omega) (by omega) (cG (j:=0) (fD (by omega))) ?_;refine nR aQ aH (ht.ext xx) (λ_ h=>h) (by omega) (by omega) (cG (j:=0) (fD (by omega))) ?_;refine jS bB [i64 (cE l 0),i64 (cE l 0)] rfl rfl (by simp) rfl λv w4 ho x4=>⟨D1.trans x4,hk _ _ (aA.of_own ho) ((xx.trans D1).trans x4)⟩
 iterate 9
  ·have hl1:l.length=2:=hln;have D1:aF w3 w3.drew:=(aF.refl _).drew;refine aM.mk' (λw'=>aF w3 w') D1 ?_;refine nR aQ aH (ht.ext xx) (λ_ h=>h) (by omega) (by omega) (cG (j:=0) (fD (by omega))) ?_;refine nR aQ aH (ht.ext xx) (λ_ h=>h) (by omega) (by omega) (cG (j:=1) (fD (by omega))) ?_;refine BH ⟨D1,?_⟩;refine jS bB [i64 (qZ (cE l 0) (cE l 1))] rfl rfl (by simp) rfl λv w4 ho x4=>⟨D1.trans x4,hk _ _ (aA.of_own ho) ((xx.trans D1).trans x4)⟩
 iterate 2
  ·have hl1:l.length=1:=hln;refine lV aQ aH (ht.ext xx) (by omega) (by omega) (cG (j:=0) (fD (by omega))) ?_;refine jS bB [i64 (cE l 0)] rfl rfl (by simp) rfl λv w4 ho x4=>hk _ _ (aA.of_own ho) (xx.trans x4)
 iterate 2
  ·refine jS bB [i64 (1)] rfl rfl (by simp) rfl λv w4 ho x4=>hk _ _ (aA.of_own ho) (xx.trans x4)
 iterate 3
  ·have hl1:l.length=2:=hln;have D1:aF w3 w3.drew:=(aF.refl _).drew;refine aM.mk' (λw'=>aF w3 w') D1 ?_;refine nR aQ aH (ht.ext xx) (λ_ h=>h) (by omega) (by omega) (cG (j:=0) (fD (by omega))) ?_;refine nR aQ aH (ht.ext xx) (λ_ h=>h) (by omega) (by omega) (cG (j:=1) (fD (by omega))) ?_;refine BH ⟨D1,?_⟩;refine jS bB [i64 (qZ (cE l 0) (cE l 1))] rfl rfl (by simp) rfl λv w4 ho x4=>⟨D1.trans x4,hk _ _ (aA.of_own ho) ((xx.trans D1).trans x4)⟩
 ·have hl1:l.length=3:=hln;have e:∀ v w',aN w' v [zV l]->aF w w'->K v w':=hk;unfold zV at e;refine lV aQ aH (ht.ext xx) (by omega) (by omega) (cG (j:=1) (fD (by omega))) ?_;refine sW ?_;change aI (.bool (fM (cE l 1))) _ _;cases hz:fM (cE l 1)
  ·rw [hz] at e;refine aP.2 ?_;have D1:aF w3 w3.drew:=(aF.refl _).drew;refine aM.mk' (λw'=>aF w3 w') D1 ?_;refine nR aQ aH (ht.ext xx) (λ_ h=>h) (by omega) (by omega) (cG (j:=0) (fD (by omega))) ?_;refine nR aQ aH (ht.ext xx) (λ_ h=>h) (by omega) (by omega) (cG (j:=1) (fD (by omega))) ?_;refine nR aQ aH (ht.ext xx) (λ_ h=>h) (by omega) (by omega) (cG (j:=2) (fD (by omega))) ?_;refine BH ⟨D1,BH ⟨D1,?_⟩⟩;refine jS bB [i64 (qZ (cE l 0) (qZ (cE l 1) (cE l 2)))] rfl rfl (by simp) rfl λv w4 ho x4=>⟨D1.trans x4,e _ _ (aA.of_own ho) ((xx.trans D1).trans x4)⟩
  ·rw [hz] at e;refine bK.2 ?_;refine lV aQ aH (ht.ext xx) (by omega) (by omega) (cG (j:=1) (fD (by omega))) ?_;refine jS bB [i64 (cE l 1)] rfl rfl (by simp) rfl λv w4 ho x4=>e _ _ (aA.of_own ho) (xx.trans x4)
 iterate 2
  ·exact hk _ _ (aA.nil _ _) xx
 ·refine bF hb3 bE aH rfl ?_;refine jS bB [i64 (a)] rfl rfl (by simp) rfl λv w4 ho x4=>hk _ _ (aA.of_own ho) (xx.trans x4)
 ·refine jS bB [i64 (1)] rfl rfl (by simp) rfl λv w4 ho x4=>hk _ _ (aA.of_own ho) (xx.trans x4)
 ·refine bF hb3 bE aH rfl ?_;refine jS bB [i64 (a)] rfl rfl (by simp) rfl λv w4 ho x4=>hk _ _ (aA.of_own ho) (xx.trans x4)
 ·refine jS bB [i64 (1)] rfl rfl (by simp) rfl λv w4 ho x4=>hk _ _ (aA.of_own ho) (xx.trans x4)
 ·have hl1:l.length=2:=hln;refine lV aQ aH (ht.ext xx) (by omega) (by omega) (cG (j:=0) (fD (by omega))) ?_;refine bHt ?_;refine jS bB [i64 (ofK (cE l 0))] rfl rfl (by simp) rfl λv w4 ho x4=>hk _ _ (aA.of_own ho) (xx.trans x4)
 iterate 2
  ·exact hk _ _ (aA.nil _ _) xx
 ·have hl1:l.length=5:=hln;have e:∀ v w',aN w' v (if cE l 0=4\/cE l 2=4 then [2] else [1])->aF w w'->K v w':=hk;refine lV aQ aH (ht.ext xx) (by omega) (by omega) (cG (j:=0) (fD (by omega))) ?_;change V _ (do eqGuard .eql _ _ _ (i64 (cE l 0)) _;binOp .eql _ (i64 (cE l 0)) _) _ _;refine aK.2 ?_;by_cases z0:cE l 0=4
  ·simp only [z0,true_or,aS,reduceIte,decide_true] at e ⊢;refine jS bB [i64 (2)] rfl rfl (by simp) rfl λv w4 ho x4=>e _ _ (aA.of_own ho) (xx.trans x4)
  ·simp only [z0,aS,reduceIte,Bool.false_eq_true,decide_false];refine lV aQ aH (ht.ext xx) (by omega) (by omega) (cG (j:=2) (fD (by omega))) ?_;change V _ (do eqGuard .eql _ _ _ (i64 (cE l 2)) _;binOp .eql _ (i64 (cE l 2)) _) _ _;refine aK.2 ?_;by_cases z2:cE l 2=4
   ·simp only [z2,or_true,aS,reduceIte,decide_true] at e ⊢;refine jS bB [i64 (2)] rfl rfl (by simp) rfl λv w4 ho x4=>e _ _ (aA.of_own ho) (xx.trans x4)
   ·simp only [z0,z2,or_self,aS,reduceIte,decide_false] at e ⊢;refine jS bB [i64 (1)] rfl rfl (by simp) rfl λv w4 ho x4=>e _ _ (aA.of_own ho) (xx.trans x4)
 ·have ha:a < (i.fields.length:Int):=hn;have a1:0<=a:=a1;refine bF hb1 jF bD rfl ?_;refine bF hb3 bE aH rfl ?_;obtain ⟨k,rfl⟩:∃ k:Nat,a=k:=⟨a.toNat,by omega⟩;refine lV aQ aH h'.fl (by omega) (by omega) (cG (fD (by omega))) ?_;refine jS bB [i64 (i.fields.getD k 0)] rfl rfl (by simp) rfl λv w4 ho x4=>hk _ _ (aA.of_own ho) (xx.trans x4)
 ·exact hk _ _ (aA.nil _ _) xx
 ·have a1:1<=a:=a1;have a2:a<=2:=a2;refine bF hb3 bE aH rfl (aU.2 ?_);rw [aC (by dsimp only;omega) (by dsimp only;omega)];refine fQ.2 ?_;rw [aC (by dsimp only;omega) (by dsimp only;omega)];refine jS bB [i64 (3+a - 1)] rfl rfl (by simp) rfl λv w4 ho x4=>hk _ _ (aA.of_own ho) (xx.trans x4)
 ·exact hk _ _ (aA.nil _ _) xx
 ·have ha:a < (i.methods.length:Int):=hn;have a1:0<=a:=a1;refine bF hb1 bP dM rfl ?_;refine bF hb3 bE aH rfl ?_;have e:∀ v w',aN w' v (mF (i.meth a).result)->aF w w'->K v w':=hk;obtain ⟨k,rfl⟩:∃ k:Nat,a=k:=⟨a.toNat,by omega⟩;refine sQ iQ fS aH h'.mt (gM a1 ha) λrow hrow=>?_;obtain ⟨pv2,lv2,cv2,rfl,_,_,_⟩:=hrow;refine ⟨i64 (i.meth (k:Int)).result,rfl,by decide,dB.2 ?_⟩;by_cases hr:(i.meth (k:Int)).result=0
  ·simp only [hr,aS,not_true_eq_false,ne_eq,decide_false];refine e _ _ ?_ xx;rw [mF,if_pos hr];exact aA.nil _ _
  ·simp only [hr,aS,not_false_eq_true,ne_eq,decide_true];refine jS bB [i64 (i.meth (k:Int)).result] rfl rfl (by simp) rfl λv w4 ho x4=>e _ _ ?_ (xx.trans x4);rw [mF,if_neg hr];exact aA.of_own ho
 ·have ha:a < (i.imports.length:Int):=hn;have a1:0<=a:=a1;refine bF hb1 fG iC rfl ?_;refine bF hb3 bE aH rfl ?_;have e:∀ v w',aN w' v (mF (i.imp a).result)->aF w w'->K v w':=hk;obtain ⟨k,rfl⟩:∃ k:Nat,a=k:=⟨a.toNat,by omega⟩;refine sQ nK cB aH h'.im (sX a1 ha) λrow hrow=>?_;obtain ⟨pv2,rfl,_⟩:=hrow;refine ⟨i64 (i.imp (k:Int)).result,rfl,by decide,dB.2 ?_⟩;by_cases hr:(i.imp (k:Int)).result=0
  ·simp only [hr,aS,not_true_eq_false,ne_eq,decide_false];refine e _ _ ?_ xx;rw [mF,if_pos hr];exact aA.nil _ _
  ·simp only [hr,aS,not_false_eq_true,ne_eq,decide_true];refine jS bB [i64 (i.imp (k:Int)).result] rfl rfl (by simp) rfl λv w4 ho x4=>e _ _ ?_ (xx.trans x4);rw [mF,if_neg hr];exact aA.of_own ho
 ·exact hk _ _ (aA.nil _ _) xx
end Go.Proofs.YtjcmcfidblhnnaaGreatDoor
namespace Go.Tc
def oQ:List UInt8->List Int->Bool
 | c::p,k::l=>(if c=97 then !fM k else !dW k)||oQ p l
 | _,_=>false
def qF:List UInt8->List Int->Bool
 | c::p,k::l=>(c == 112&&(k == 2||k == 4))||qF p l
 | _,_=>false
def FG (c:UInt8):Int:=if c=97 then -4 else if c=112 then -3 else -2
theorem bHp:∀ {p:List UInt8} {l:List Int},(∀ c∈p,c=97\/c=112\/c=105)->rU l->((oQ p l||qF p l)=false↔jR (p.map FG) l=true/\fZ (p.map FG) l=false)
 | [],_,_,_=>by simp [oQ,qF,jR,fZ]
 | _::_,[],_,_=>by simp [oQ,qF,jR,fZ]
 | c::p,k::l,hp,hl=>by
  have ih:=bHp (p:=p) (l:=l) (λc hc=>hp c (by simp [hc])) λk hk=>hl k (by simp [hk]);have hk:Kd k:=hl k (by simp);have ek:k=1\/k=2\/k=3\/k=4:=by obtain ⟨h1,h2⟩:=hk;omega
  simp only [oQ,qF,jR,fZ,List.map_cons];generalize oQ p l=A at ih ⊢;generalize qF p l=B at ih ⊢;generalize jR (p.map FG) l=C at ih ⊢;generalize fZ (p.map FG) l=D at ih ⊢
  rcases hp c (by simp) with rfl|rfl|rfl<;>rcases ek with rfl|rfl|rfl|rfl <;>
   (simp [FG,tJ,vK,dW,fM];try (revert ih;cases A<;>cases B<;>cases C<;>cases D<;>simp))
def AC (a b:Int):Int:=if dW a≠dW b\/(fM a=true/\a≠b) then 11 else if (a == b||(a == 1&&b == 2)) then 0 else 12
def SU:List Int->List Int->Bool
 | a::t,k::l=>(AC k a == 11)||SU t l
 | _,_=>false
def SS:List Int->List Int->Bool
 | a::t,k::l=>(AC k a == 12)||SS t l
 | _,_=>false
theorem aGr {k a:Int} (hk:Kd k) (ha:Kd a):((AC k a == 11)||(AC k a == 12))=false↔tJ k a=true/\vK k a=false:=by
 have ek:k=1\/k=2\/k=3\/k=4:=by obtain ⟨h1,h2⟩:=hk;omega
 have ea:a=1\/a=2\/a=3\/a=4:=by obtain ⟨h1,h2⟩:=ha;omega
 rcases ek with rfl|rfl|rfl|rfl<;>rcases ea with rfl|rfl|rfl|rfl<;>decide
theorem inA:∀ {t l:List Int},rU t->rU l->((SU t l||SS t l)=false↔jR t l=true/\fZ t l=false)
 | [],_,_,_=>by simp [SU,SS,jR,fZ]
 | _::_,[],_,_=>by simp [SU,SS,jR,fZ]
 | a::t,k::l,ht,hl=>by
  have ih:=inA (t:=t) (l:=l) (λc hc=>ht c (by simp [hc])) λk hk=>hl k (by simp [hk]);have h1:=aGr (hl k (by simp)) (ht a (by simp));simp only [SU,SS,jR,fZ];generalize SU t l=A at ih ⊢;generalize SS t l=B at ih ⊢;generalize jR t l=C at ih ⊢;generalize fZ t l=D at ih ⊢;generalize (AC k a == 11)=E at h1 ⊢;generalize (AC k a == 12)=F at h1 ⊢;generalize tJ k a=G at h1 ⊢;generalize vK k a=H at h1 ⊢;revert ih h1;cases A<;>cases B<;>cases C<;>cases D<;>cases E<;>cases F<;>cases G<;>cases H<;>simp
theorem DO:∀ {t l:List Int} {j:Nat} {a k:Int},t[j]?=some a->l[j]?=some k->SU (t.take (j+1)) (l.take (j+1))=(SU (t.take j) (l.take j)||AC k a == 11)
 | [],_,_,_,_,h,_=>by simp at h
 | _::_,[],_,_,_,_,h=>by simp at h
 | a::t,k::l,0,_,_,h1,h2=>by simp at h1 h2;subst h1 h2;simp [SU]
 | a::t,k::l,j+1,_,_,h1,h2=>by
  have:=DO (t:=t) (l:=l) (j:=j) (by simpa using h1) (by simpa using h2);simp only [List.take_succ_cons,SU] at this ⊢;rw [this,Bool.or_assoc]
theorem DN:∀ {t l:List Int} {j:Nat} {a k:Int},t[j]?=some a->l[j]?=some k->SS (t.take (j+1)) (l.take (j+1))=(SS (t.take j) (l.take j)||AC k a == 12)
 | [],_,_,_,_,h,_=>by simp at h
 | _::_,[],_,_,_,_,h=>by simp at h
 | a::t,k::l,0,_,_,h1,h2=>by simp at h1 h2;subst h1 h2;simp [SS]
 | a::t,k::l,j+1,_,_,h1,h2=>by
  have:=DN (t:=t) (l:=l) (j:=j) (by simpa using h1) (by simpa using h2);simp only [List.take_succ_cons,SS] at this ⊢;rw [this,Bool.or_assoc]
theorem FU:∀ {p:List UInt8} {l:List Int} {j:Nat} {c:UInt8} {k:Int},p[j]?=some c->l[j]?=some k->oQ (p.take (j+1)) (l.take (j+1))=(oQ (p.take j) (l.take j)||(if c=97 then !fM k else !dW k))
 | [],_,_,_,_,h,_=>by simp at h
 | _::_,[],_,_,_,_,h=>by simp at h
 | a::t,k::l,0,_,_,h1,h2=>by simp at h1 h2;subst h1 h2;simp [oQ]
 | a::t,k::l,j+1,_,_,h1,h2=>by
  have:=FU (p:=t) (l:=l) (j:=j) (by simpa using h1) (by simpa using h2);simp only [List.take_succ_cons,oQ] at this ⊢;rw [this,Bool.or_assoc]
theorem FT:∀ {p:List UInt8} {l:List Int} {j:Nat} {c:UInt8} {k:Int},p[j]?=some c->l[j]?=some k->qF (p.take (j+1)) (l.take (j+1))=(qF (p.take j) (l.take j)||(c == 112&&(k == 2||k == 4)))
 | [],_,_,_,_,h,_=>by simp at h
 | _::_,[],_,_,_,_,h=>by simp at h
 | a::t,k::l,0,_,_,h1,h2=>by simp at h1 h2;subst h1 h2;simp [qF]
 | a::t,k::l,j+1,_,_,h1,h2=>by
  have:=FT (p:=t) (l:=l) (j:=j) (by simpa using h1) (by simpa using h2);simp only [List.take_succ_cons,qF] at this ⊢;rw [this,Bool.or_assoc]
end Go.Tc
namespace Go.Proofs.YtjcmcfidblhnnaaGreatDoor
open Tryz
open Go.Vc Go.Tc
variable {w:World} {K:Value->World->Prop}
abbrev Wr (w:World) (g:Nat) (kf lf:Bool):Prop:=bO w g [.bool kf,.bool lf] 248
theorem xX {g:Nat} {kf lf:Bool} {e:Int} (hb:Wr w g kf lf) (hk:∀ w',Wr w' g (kf||e == 11) (lf||e == 12)->(∀ a,aF a w->a.heap.size<=g->aF a w')->K (.tuple #[]) w') :
  aB prog 151 #[.pointer (some ⟨g,0,none⟩),i64 e] w K:=by
 apply aVx;unfold PK;refine ⟨.inl ⟨_,rfl⟩,?_⟩;refine bF hb.boxed dY oD rfl ?_
 cases kf<;>cases lf <;>
  (simp only [aS,reduceIte,Bool.false_eq_true]
   refine ⟨.inl ⟨_,rfl⟩,?_⟩;refine FK (by first|exact cY|exact cX|exact cD|exact cW|exact cL|exact cK|exact cC|exact cV|exact cU|exact cT|exact cJ|exact cI|exact cH|exact bT|exact cS|exact bS|exact dF|exact cR|exact cQ|exact dE|exact dD|exact dJ|exact dC|exact dI|exact dU|exact dT|exact eF|exact eR|exact eE|exact eD|exact eQ|exact eC|exact eO|exact bR|exact dS|exact dR|exact dQ|exact eB|exact dH|exact bW|exact cB|exact eN|exact eA|exact cA|exact dP|exact eV|exact dO|exact fJ|exact eM|exact bA|exact eJ|exact bZ|exact dZ|exact eI|exact fI|exact cP|exact fH|exact fV|exact fP|exact gY|exact iN|exact dN|exact fU|exact iM|exact gX|exact iL|exact iK|exact iJ|exact iI|exact gW|exact bQ|exact fO|exact fT|exact dY) kP hb (n:=2) rfl (by decide) rfl ⟨.inl ⟨_,rfl⟩,?_⟩;have hb1:=hb.set 0;refine bF (hb1 _).boxed (by first|exact cY|exact cX|exact cD|exact cW|exact cL|exact cK|exact cC|exact cV|exact cU|exact cT|exact cJ|exact cI|exact cH|exact bT|exact cS|exact bS|exact dF|exact cR|exact cQ|exact dE|exact dD|exact dJ|exact dC|exact dI|exact dU|exact dT|exact eF|exact eR|exact eE|exact eD|exact eQ|exact eC|exact eO|exact bR|exact dS|exact dR|exact dQ|exact eB|exact dH|exact bW|exact cB|exact eN|exact eA|exact cA|exact dP|exact eV|exact dO|exact fJ|exact eM|exact bA|exact eJ|exact bZ|exact dZ|exact eI|exact fI|exact cP|exact fH|exact fV|exact fP|exact gY|exact iN|exact dN|exact fU|exact iM|exact gX|exact iL|exact iK|exact iJ|exact iI|exact gW|exact bQ|exact fO|exact fT|exact dY|exact dX) (by first|exact gQ|exact iH|exact hY|exact iG|exact kI|exact iF|exact kH|exact iE|exact iD|exact bD|exact jB|exact iC|exact dM|exact aH|exact kD|exact iY|exact oD) rfl ?_
   simp only [aS,reduceIte,Bool.false_eq_true];refine ⟨.inl ⟨_,rfl⟩,?_⟩;refine FK (by first|exact cY|exact cX|exact cD|exact cW|exact cL|exact cK|exact cC|exact cV|exact cU|exact cT|exact cJ|exact cI|exact cH|exact bT|exact cS|exact bS|exact dF|exact cR|exact cQ|exact dE|exact dD|exact dJ|exact dC|exact dI|exact dU|exact dT|exact eF|exact eR|exact eE|exact eD|exact eQ|exact eC|exact eO|exact bR|exact dS|exact dR|exact dQ|exact eB|exact dH|exact bW|exact cB|exact eN|exact eA|exact cA|exact dP|exact eV|exact dO|exact fJ|exact eM|exact bA|exact eJ|exact bZ|exact dZ|exact eI|exact fI|exact cP|exact fH|exact fV|exact fP|exact gY|exact iN|exact dN|exact fU|exact iM|exact gX|exact iL|exact iK|exact iJ|exact iI|exact gW|exact bQ|exact fO|exact fT|exact dY|exact dX) kP (hb1 _) (n:=2) rfl (by decide) rfl ?_;exact hk _ ((hb1 _).set 1 _) λa ha hg=>(ha.setCell hg _).setCell hg _)
end Go.Proofs.YtjcmcfidblhnnaaGreatDoor
namespace Go.Tc
theorem vT:∀ {a b acc:List Int} {j:Nat} {x y k:Int},a[j]?=some x->b[j]?=some y->lT (a.take j) (b.take j)=some acc->AA x y=some k->lT (a.take (j+1)) (b.take (j+1))=some (acc++[k])
 | [],_,_,_,_,_,_,h,_,_,_=>by simp at h
 | _::_,[],_,_,_,_,_,_,h,_,_=>by simp at h
 | a::l,b::m,acc,0,x,y,k,h1,h2,h3,h4=>by
  simp at h1 h2;subst h1 h2;simp [lT] at h3;subst h3;simp [lT,h4]
 | a::l,b::m,acc,j+1,x,y,k,h1,h2,h3,h4=>by
  simp only [List.take_succ_cons,lT,Option.bind_eq_some_iff,Option.map_eq_some_iff] at h3;obtain ⟨q,hq,r,hr,rfl⟩:=h3;have:=vT (a:=l) (b:=m) (by simpa using h1) (by simpa using h2) hr h4;simp only [List.take_succ_cons,lT] at this ⊢;rw [hq,this];rfl
theorem DA:∀ {a b:List Int} {j:Nat} {x y:Int},a[j]?=some x->b[j]?=some y->AA x y=none->lT a b=none
 | [],_,_,_,_,h,_,_=>by simp at h
 | _::_,[],_,_,_,_,h,_=>by simp at h
 | a::l,b::m,0,x,y,h1,h2,h4=>by
  simp at h1 h2;subst h1 h2;simp [lT,h4]
 | a::l,b::m,j+1,x,y,h1,h2,h4=>by
  have:=DA (a:=l) (b:=m) (by simpa using h1) (by simpa using h2) h4;simp [lT,this]
theorem DB:∀ {a b:List Int},a.length≠b.length->lT a b=none
 | [],[],h=>absurd rfl h
 | [],_::_,_=>rfl
 | _::_,[],_=>rfl
 | a::l,b::m,h=>by
  have:=DB (a:=l) (b:=m) (by simpa using h);simp [lT,this]
end Go.Tc
namespace Go.Proofs.YtjcmcfidblhnnaaGreatDoor
open Tryz
open Go.Vc Go.Tc
variable {w:World} {K:Value->World->Prop}
theorem RJ {av bv:Value} {a b:List Int} (ha:aN w av a) (hb:aN w bv b) (hk:∀ w',aF w w'->K (.bool (decide (a=b))) w'):aB prog 97 #[av,bv] w K:=by
 have ca:=tY ha;apply bDn;unfold XR;refine gD aQ ha (gD aQ hb (dB.2 (aD (λhne=>?_) λheq=>?_)))
 ·have:¬ a=b:=λe=>hne (by rw [e]);rw [decide_eq_false this] at hk;exact hk _ (aF.refl _)
 have hl:a.length=b.length:=by omega
 refine ⟨λv w'=>∃ j:Nat,v=i64 j/\j<=a.length/\aF w w'/\a.take j=b.take j,λv _=>a.length - (RowKit.intOf v).toNat,⟨0,rfl,Nat.zero_le _,aF.refl _,rfl⟩,?_⟩;rintro _ w1 ⟨j,rfl,hj,x1,hjs⟩ _;refine gD aQ (ha.ext x1) (aY.2 (aD (λhlt=>?_) λhge=>?_))
 ·obtain ⟨x,hx⟩:=bC (l:=a) (j:=j) (by omega);obtain ⟨y,hy⟩:=bC (l:=b) (j:=j) (by omega);have D1:aF w1 w1.drew:=(aF.refl _).drew;refine aM.mk' (λw'=>aF w1 w') D1 ?_;refine nR aQ aH (ha.ext x1) (λ_ h=>h) (by omega) (by omega) (cG hx) ?_;refine nR aQ aH (hb.ext x1) (λ_ h=>h) (by omega) (by omega) (cG hy) ?_;refine aE.ok (λw' _=>rM) (aD (λhne=>?_) λheq=>?_)
  ·have:¬ a=b:=λe=>hne (by subst e;rw [hx] at hy;cases hy;rfl);rw [decide_eq_false this] at hk;exact hk _ (x1.trans D1)
  ·have:x=y:=by simpa using heq
   subst this;refine aU.2 ?_;rw [aC (by omega) (by unfold maxLen at ca;omega),aR];exact ⟨⟨j+1,rfl,by omega,x1.trans D1,by rw [List.take_add_one,List.take_add_one,hx,hy,hjs]⟩,by simp only [aL];omega⟩
 ·have hjl:j=a.length:=by omega
  subst hjl
  have:a=b:=by
   rw [List.take_length,hl,List.take_length] at hjs;exact hjs
  rw [decide_eq_true this] at hk;exact hk _ x1
theorem aCy {av bv:Value} {a b:List Int} (ha:aN w av a) (hb:aN w bv b) (ka:rU a) (kb:rU b) (hl8:a.length<=1000)
  (yes:∀ j v w',lT a b=some j->w'.ownsRow w.heap.size 3 1 v j.length (j.map i64)->aF w w'->K (.tuple #[v,.bool true]) w') (no:∀ w',lT a b=none->aF w w'->K (.tuple #[aZ,.bool false]) w') :
  aB prog 96 #[av,bv] w K:=by
 apply bDo;unfold XS;refine gD aQ ha (gD aQ hb (dB.2 (aD (λhne=>?_) λheq=>?_)))
 ·exact no _ (DB λe=>hne (by rw [e])) (aF.refl _)
 have hl:a.length=b.length:=by omega
 refine ⟨λov v w'=>∃ (j:Nat) (acc:List Int),v=i64 j/\j<=a.length/\aF w w'/\lT (a.take j) (b.take j)=some acc/\acc.length=j/\w'.ownsRow w.heap.size 3 1 ov j (acc.map i64),λ_ v _=>a.length - (RowKit.intOf v).toNat,
  ⟨0,[],rfl,Nat.zero_le _,aF.refl _,rfl,rfl,World.ownsRow_nil _ _ _ _⟩,?_⟩
 rintro ov _ w1 ⟨j,acc,rfl,hj,x1,hacc,hal,ho⟩ _;refine gD aQ (ha.ext x1) (aY.2 (aD (λhlt=>?_) λhge=>?_))
 ·obtain ⟨x,hx⟩:=bC (l:=a) (j:=j) (by omega);obtain ⟨y,hy⟩:=bC (l:=b) (j:=j) (by omega);have D1:aF w1 w1.drew:=(aF.refl _).drew;have xd:=x1.trans D1;refine aM.mk' (λw'=>aF w1 w') D1 ?_;refine nR aQ aH (ha.ext x1) (λ_ h=>h) (by omega) (by omega) (cG hx) ?_;refine nR aQ aH (hb.ext x1) (λ_ h=>h) (by omega) (by omega) (cG hy) ?_;refine aPk (ka x (List.mem_of_getElem? hx)) (kb y (List.mem_of_getElem? hy)) ⟨D1,?_⟩;unfold VS;cases hk:AA x y with
  | none=>
   refine aE.ok (λw' _=>nB) (aE.ok (λw' _=>nA) (dK.2 (bK.2 ?_)));exact no _ (DA hx hy hk) xd
  | some k=>
   refine aE.ok (λw' _=>nB) (aE.ok (λw' _=>nA) (dK.2 (aP.2 ?_)));refine jS bB [i64 k] rfl rfl (by simp) rfl λv2 w2 ho2 x2=>?_;have x12:=D1.trans x2;refine TS bB (x12.own ho) (aA.of_own ho2) rfl (by omega) (by unfold maxLen;omega) (xd.trans x2).size λv3 w3 ho3 hg3=>?_;refine aU.2 ?_;rw [aC (by omega) (by omega),aR];refine ⟨⟨j+1,acc++[k],rfl,by omega,(xd.trans x2).grown hg3 λq hq=>((x12.own ho).lt q hq).1,vT hx hy hacc hk,by simp [hal],by simpa using ho3⟩,by simp only [aL];omega⟩
 ·have hjl:j=a.length:=by omega
  subst hjl;rw [List.take_length,hl,List.take_length] at hacc;refine yes acc ov _ hacc ?_ x1;have:=ho;rw [<- hal] at this;exact this
end Go.Proofs.YtjcmcfidblhnnaaGreatDoor
namespace Go.Vc
section
variable {P:Program} {w:World} {S:World->Prop} {L:Value->Prop}
theorem vP {t:TypeId} (ht:P.underlying t=some .string) {s:ByteArray} {j:Nat} {c:UInt8} (h:s[j]?=some c):(Instr.index t (.string s) (i64 j)).run P w=.ok (.int .u8 c.toNat) w:=by
 simp [Instr.index,asIntOf,run_underlying ht,h]
end
end Go.Vc
namespace Go.Tc
theorem aOo {i:gN} {m:jH} {op a b:Int} (ho:1<=op/\op<=39):(∀ c∈Go.Proofs.YtjcmcfidblhnnaaGreatDoor.iU op,c=97\/c=112\/c=105)/\(Go.Proofs.YtjcmcfidblhnnaaGreatDoor.iU op).length<=(aV i m ⟨op,a,b⟩).length/\(¬ (op=3\/op=34\/op=22\/op=37\/op=38\/op=39\/op=4\/op=5)->aV i m ⟨op,a,b⟩=(Go.Proofs.YtjcmcfidblhnnaaGreatDoor.iU op).map FG):=by
 have:op=1\/op=2\/op=3\/op=4\/op=5\/op=6\/op=7\/op=8\/op=9\/op=10\/op=11\/op=12\/op=13\/op=14\/op=15\/op=16\/op=17\/op=18\/op=19\/op=20\/op=21\/op=22\/op=23\/op=24\/op=25\/op=26\/op=27\/op=28\/op=29\/op=30\/op=31\/op=32\/op=33\/op=34\/op=35\/op=36\/op=37\/op=38\/op=39:=by omega
 rcases this with rfl|rfl|rfl|rfl|rfl|rfl|rfl|rfl|rfl|rfl|rfl|rfl|rfl|rfl|rfl|rfl|rfl|rfl|rfl|rfl|rfl|rfl|rfl|rfl|rfl|rfl|rfl|rfl|rfl|rfl|rfl|rfl|rfl|rfl|rfl|rfl|rfl|rfl|rfl<;>refine ⟨by decide,?_,?_⟩<;>first|exact Nat.zero_le _|exact Nat.le_refl _|exact λ_=>rfl|exact λh=>absurd (by omega) h
end Go.Tc
namespace Go.Proofs.YtjcmcfidblhnnaaGreatDoor
open Tryz
open Go.Vc Go.Tc
variable {w:World} {K:Value->World->Prop}
variable {A B S:Bool} {i:gN} {m:jH} {a k0 k1 k2:Int}
theorem ySF {S:World->Prop} {L:Value->Prop} {α:Type} {T:World->List Value->α->Prop} {sz:Nat} {t s f o ft:Nat} {v:Value} {l:List α} {i:Nat} {e:α} (h:XA prog t sz) (hf:FA prog s f o) (hl:L1 prog ft) (hs:bU T sz w v l) (hx:∀ w',S w'->aF w w') (hi:l[i]?=some e)
  (hk:∀ row,T w row e->∃ u,row[o]?=some u/\o < sz/\L u):aE prog S (Instr.indexAt t v (i64 i)) λp=>aE prog S (Instr.fieldAt s p f) λq=>aE prog S (Instr.loadAt ft q) L:=by
 obtain ⟨cs,h1,h2⟩:=hs;obtain ⟨row,h3,h4⟩:=h2 i e hi;have hlt:i < l.length:=(List.getElem?_eq_some_iff.1 hi).1;obtain ⟨u,hu,ho,hK⟩:=hk row h4;obtain ⟨e',z,b',hte,hinf⟩:=h;obtain ⟨d,hd,ha⟩:=hl;obtain ⟨b,off,cap,rfl,hcell⟩:=h1.there (by omega)
 have hu':cs[i*sz+o]?=some u:=by
  rw [<- h3,List.getElem?_take,if_pos ho,List.getElem?_drop] at hu;exact hu
 have hc:=hcell _ _ hu';rw [<- Nat.add_assoc] at hc;refine aE.ok (λw' _=>jO hte hinf (by omega) (by omega)) (aE.ok (λw' _=>hf.ex w' b _) (aE.ok (λw' hw=>iZ hd ha ?_) hK));have:=(hx w' hw).cell hc;simpa using this
theorem MO (l:List Int):(l.map i64).all cO=true:=List.all_eq_true.2 λv hv=>by obtain ⟨x,_,rfl⟩:=List.mem_map.1 hv;rfl
theorem aOu {l:List Int} (h:l.length=1):l=[cE l 0]:=by
 match l,h with
 | [a],_=>rfl
theorem bAg {l:List Int} (h:l.length=3):l=[cE l 0,cE l 1,cE l 2]:=by
 match l,h with
 | [a,b,c],_=>rfl
theorem lH {l:List Int} {j:Nat} (h:j < l.length):l[j]?=some (cE l j):=fD h
def uH (i:gN) (m:jH) (x:lC) (l:List Int):Prop:=mG x (aV i m x) l=true/\kA x (aV i m x) l=false
theorem DP {op b:Int} {l:List Int} (h:op≠22/\op≠30/\op≠31/\op≠36):uH i m ⟨op,a,b⟩ l↔jR (aV i m ⟨op,a,b⟩) l=true/\fZ (aV i m ⟨op,a,b⟩) l=false:=by
 unfold uH mG kA;dsimp only;rw [if_neg h.1,if_neg h.1,if_neg h.2.1,if_neg h.2.2.1,if_neg h.2.2.2];simp
theorem SX {D z:Bool} (h:(A||B)=false↔D=true/\S=false):(A||(B||z))=false↔D=true/\(S||z)=false:=by
 revert h;cases A<;>cases B<;>cases D<;>cases S<;>cases z<;>simp
theorem bBv (h0:Kd k0) (h1:Kd k1) (h2:Kd k2):((!dW k0||(dW k1 != dW k2)||(fM k1&&(k1 != k2)))||(fM k1&&DD k0))=false ↔
  (jR [-2,-1,-1] [k0,k1,k2]&&(dW k1&&dW k2||fM k1&&k1 == k2))=true/\(fM k1&&k0 == 2)=false:=by
 rcases JQ h0 with rfl|rfl|rfl|rfl<;>rcases JQ h1 with rfl|rfl|rfl|rfl<;>rcases JQ h2 with rfl|rfl|rfl|rfl<;>decide
theorem bBu (h0:Kd k0) (_:Kd k1) (h2:Kd k2) (h:(A||B)=false↔jR [-4,-3,-2] [k0,k1,k2]=true/\S=false) :
  (A||(B||(decide (k0=3)&&DD k2)))=false↔jR [-4,-3,-2] [k0,k1,k2]=true/\(S||(k0 == 3&&k2 == 2))=false:=by
 rw [SX h];rcases JQ h0 with rfl|rfl|rfl|rfl<;>rcases JQ h2 with rfl|rfl|rfl|rfl<;>cases S<;>simp [jR,tJ,fM,dW,DD]
theorem KZ (h:i.right) (h0:0<=a) (ha:a < i.methods.length):rU (i.meth a).params:=(h.2.2.1.2.1 _ (gN.meth_mem h0 ha)).1.1
theorem VX (h:i.right) (h0:0<=a) (ha:a < i.imports.length):rU (i.imp a).params:=(h.2.1.2 _ (gN.imp_mem h0 ha)).2.1.1
theorem bCe {p:iP} {row:List Value} {x:lC} {sv:Value} {s:List Int} (h:kK w p i) (hm:lK w row m) (hx:zN i m x) (hs:aN w sv s) (ks:rU s) (h8:s.length<=8)
  (yes:∀ out v w',BE i m x s=some out->w'.ownsRow w.heap.size 3 1 v out.length (out.map i64)->aF w w'->K (.tuple #[v,i64 0]) w') (no:∀ e w',BE i m x s=none->e≠0->aF w w'->K (.tuple #[aZ,i64 e]) w') :
  aB prog 94 #[p.val i,.agg row.toArray,.agg #[i64 x.op,i64 x.a,i64 x.b],sv] w K:=by
 obtain ⟨op,a,b⟩:=x;have hx0:=hx;obtain ⟨ir,mr,⟨ho,a1,a2,_⟩,hn⟩:=hx;dsimp only at ho a1 a2;have hm0:=hm;obtain ⟨pv,lv,cv,rfl,hp,hl,hc⟩:=hm;apply bDq;unfold XU iP.val;refine bx λb1 w1 hb1 x1=>?_;refine bx λb2 w2 hb2 x2=>?_;refine bx λb3 w3 hb3 x3=>?_;have hb1:=(hb1.ext x2).ext x3;have hb2:bG w3 b2 [pv,i64 m.result,lv,cv]:=hb2.ext x3;have xx:=(x1.trans x2).trans x3;refine iO hb1 lF rfl (iO hb2 oB rfl (iO hb3 iA rfl ?_));refine aNx (h.ext xx) (hm0.ext xx) hx0 λw4 x4=>?_;have xx4:=xx.trans x4;refine gD aQ (hs.ext xx4) (aY.2 (aD (λhlt=>?_) λhge=>?_))
 ·refine no 10 _ ?_ (by decide) xx4;unfold BE;dsimp only;rw [if_pos (.inl (by omega))]
 refine gD aQ (hs.ext xx4) (fQ.2 ?_);rw [aC (by omega) (by omega),show (s.length:Int) - ((aV i m ⟨op,a,b⟩).length:Int)=((s.length - (aV i m ⟨op,a,b⟩).length:Nat):Int) by omega];obtain ⟨tv,trun,tsl⟩:=aAz underlying23 bY (hs.ext xx4) (lo:=some (.int .i64 ((s.length - (aV i m ⟨op,a,b⟩).length:Nat):Int))) (hi':=none) (a:=s.length - (aV i m ⟨op,a,b⟩).length) (b:=s.length) (.inr rfl) (.inl ⟨rfl,rfl⟩) (by omega) (Nat.le_refl _);refine V.ok (trun _) ?_;refine gD aQ (hs.ext xx4) (fQ.2 ?_);rw [aC (by omega) (by omega),show (s.length:Int) - ((aV i m ⟨op,a,b⟩).length:Int)=((s.length - (aV i m ⟨op,a,b⟩).length:Nat):Int) by omega];obtain ⟨uv,urun,usl⟩:=aAz underlying23 bY (hs.ext xx4) (lo:=none) (hi':=some (.int .i64 ((s.length - (aV i m ⟨op,a,b⟩).length:Nat):Int))) (a:=0) (b:=s.length - (aV i m ⟨op,a,b⟩).length) (.inl ⟨rfl,rfl⟩) (.inr rfl) (by omega) (by omega);refine V.ok (urun _) ?_
 have hu4:aA w4 uv 1 (s.length - (aV i m ⟨op,a,b⟩).length) ((s.take (s.length - (aV i m ⟨op,a,b⟩).length)).map i64):=by
  have:=usl _ (hs.ext xx4);simpa [List.map_take] using this
 have ht4:aN w4 tv (s.drop (s.length - (aV i m ⟨op,a,b⟩).length)):=by
  have:=tsl _ (hs.ext xx4);unfold aN;rw [List.length_drop,List.map_drop];have e2:((s.map i64).drop (s.length - (aV i m ⟨op,a,b⟩).length)).take (s.length - (s.length - (aV i m ⟨op,a,b⟩).length))=(s.map i64).drop (s.length - (aV i m ⟨op,a,b⟩).length):=List.take_of_length_le (by simp)
  rwa [e2] at this
 refine gD aQ hu4 ?_;refine iO (hb1.ext x4) lF rfl (iO (hb3.ext x4) iA rfl ?_);refine aQb (h.ext xx4) hx0 λw5 x5=>aU.2 ?_;have xx5:=xx4.trans x5
 have hh2:hgt i m ⟨op,a,b⟩<=2:=by
  unfold hgt;rcases AM ho with rfl|rfl|rfl|rfl|rfl|rfl|rfl|rfl|rfl|rfl|rfl|rfl|rfl|rfl|rfl|rfl|rfl|rfl|rfl|rfl|rfl|rfl|rfl|rfl|rfl|rfl|rfl|rfl|rfl|rfl|rfl|rfl|rfl|rfl|rfl|rfl|rfl|rfl|rfl<;>first|exact Nat.zero_le _|exact Nat.le_succ 1|exact Nat.le_refl _|exact Nat.le_succ_of_le (CK _)
 rw [aC (by omega) (by omega)];refine iR.2 (aD (λhgt8=>?_) λhle8=>?_)
 ·refine no 10 _ ?_ (by decide) xx5;unfold BE;dsimp only;rw [if_pos (.inr (by omega))]
 have hdo:∀ {l},l=s.drop (s.length - (aV i m ⟨op,a,b⟩).length)->BE i m ⟨op,a,b⟩ s=if mG ⟨op,a,b⟩ (aV i m ⟨op,a,b⟩) l=true/\kA ⟨op,a,b⟩ (aV i m ⟨op,a,b⟩) l=false then some (s.take (s.length - (aV i m ⟨op,a,b⟩).length)++iV i m ⟨op,a,b⟩ l) else none:=by
  rintro _ rfl;unfold BE;dsimp only;rw [if_neg (by omega)]
 have hkl:rU (s.drop (s.length - (aV i m ⟨op,a,b⟩).length)):=λk hk=>ks k (List.mem_of_mem_drop hk);have hll:(s.drop (s.length - (aV i m ⟨op,a,b⟩).length)).length=(aV i m ⟨op,a,b⟩).length:=by rw [List.length_drop];omega
 have ht5:=ht4.ext x5;generalize hL:s.drop (s.length - (aV i m ⟨op,a,b⟩).length)=l at ht5 hkl hll;have hdo:=hdo hL.symm;refine pP bCn [] rfl rfl ?_;refine bxK λw6 hW0 x6=>?_;have x36:=(x4.trans x5).trans x6;have hb1:=hb1.ext x36;have hb2:=hb2.ext x36;have hb3:=hb3.ext x36;have xx6:=xx5.trans x6;have hg0:w5.heap.size<=w5.heap.size:=Nat.le_refl _;generalize hg:w5.heap.size=g at hW0 hg0;have hW0:Wr w6 g false false:=hW0;have f1:=(h.ext xx5);have f2:=hm0.ext xx5;have fb1:∀ {w'},aF w5 w'->bG w' b1 [.string i.name,p.fv,p.iv,p.mv,p.xv]:=λhx=>(((‹bG w3 b1 _›).ext x4).ext x5).ext hx;have fb2:∀ {w'},aF w5 w'->bG w' b2 [pv,i64 m.result,lv,cv]:=λhx=>(((‹bG w3 b2 [pv,i64 m.result,lv,cv]›).ext x4).ext x5).ext hx;have fb3:∀ {w'},aF w5 w'->bG w' b3 [i64 op,i64 a,i64 b]:=λhx=>(((‹bG w3 b3 _›).ext x4).ext x5).ext hx;have hgs:w5.heap.size<=g:=by omega
 refine bF hb3 bJ aH rfl (FS ho ?_);obtain ⟨pc1,pc2,pc3⟩:=aOo (i:=i) (m:=m) (a:=a) (b:=b) ho;refine ⟨λv w'=>∃ j:Nat,v=i64 j/\j<=(iU op).length/\aF w5 w'/\Wr w' g (oQ ((iU op).take j) (l.take j)) (qF ((iU op).take j) (l.take j)),λv _=>(iU op).length - (RowKit.intOf v).toNat,⟨0,rfl,Nat.zero_le _,x6,hW0⟩,?_⟩;rintro _ w7 ⟨j,rfl,hj,x7,hW⟩ _;refine V.ok (tX underlying9) (aY.2 (aD (λhlt=>?_) λhge=>?_))
 ·have hlt':j < (iU op).length:=by simpa [ByteArray.size] using hlt
  obtain ⟨c,hc1⟩:∃ c,(iU op)[j]?=some c:=⟨_,List.getElem?_eq_getElem hlt'⟩;have hk1:=lH (l:=l) (j:=j) (by omega);have hkd:=hkl _ (List.mem_of_getElem? hk1);have eK:=FU hc1 hk1;have eL:=FT hc1 hk1;generalize oQ ((iU op).take j) (l.take j)=A at hW eK;generalize qF ((iU op).take j) (l.take j)=B at hW eL
  have hsc:(⟨(iU op).toArray⟩:ByteArray)[j]?=some c:=by
   rw [List.getElem?_eq_some_iff] at hc1;obtain ⟨hq,he⟩:=hc1;rw [getElem?_pos _ _ (by simpa [ByteArray.size] using hq)];exact congrArg some he
  refine V.ok (vP underlying9 hsc) (aK.2 ?_)
  have go:∀ {w'} {A' B'},aF w5 w'->Wr w' g A' B'->A'=oQ ((iU op).take (j+1)) (l.take (j+1))->B'=qF ((iU op).take (j+1)) (l.take (j+1))->V prog (binOp .add 3 (i64 j) (i64 1)) w' λt w2=>
    (∃ j:Nat,t=i64 j/\j<=(iU op).length/\aF w5 w2/\Wr w2 g (oQ ((iU op).take j) (l.take j)) (qF ((iU op).take j) (l.take j)))/\(iU op).length - (RowKit.intOf t).toNat < (iU op).length - (RowKit.intOf (i64 (j:Int))).toNat:=by
   intro w' A' B' hx hw e1 e2;subst e1 e2;refine aU.2 ?_;have:(iU op).length<=8:=by omega
   rw [aC (by omega) (by omega),aR];exact ⟨⟨j+1,rfl,by omega,hx,hw⟩,by simp only [aL];omega⟩
  by_cases h97:c=97
  ·subst h97;simp only [show (((97:UInt8).toNat:Nat):Int)=97 from rfl,aS,decide_true];refine ⟨.inl ⟨_,rfl⟩,bF hW.boxed dY oD rfl ?_⟩;rw [if_pos rfl] at eK;simp only [show ((97:UInt8) == 112)=false from rfl,Bool.false_and,Bool.or_false] at eL
   have st:∀ v,v=oQ ((iU op).take (j+1)) (l.take (j+1))->V prog (Instr.fieldAt 248 (.pointer (some ⟨g,0,none⟩)) 0) w7 λt76 w43=>U prog (Instr.storeAt 4 t76 (.bool v)) w43 λ_ w44=>V prog (binOp .add 3 (i64 j) (i64 1)) w44 λt w2=>
    (∃ j:Nat,t=i64 j/\j<=(iU op).length/\aF w5 w2/\Wr w2 g (oQ ((iU op).take j) (l.take j)) (qF ((iU op).take j) (l.take j)))/\(iU op).length - (RowKit.intOf t).toNat < (iU op).length - (RowKit.intOf (i64 (j:Int))).toNat:=by
    rintro v hv;refine FK dY kP hW (n:=2) rfl (by decide) rfl ?_;exact go (x7.setCell hgs _) (hW.set 0 _) hv eL.symm
   cases A with
   | true=>simp only [aS,reduceIte];exact ⟨.inl ⟨_,rfl⟩,st _ (by rw [eK];rfl)⟩
   | false=>
    simp only [aS,reduceIte,Bool.false_eq_true];refine lV aQ aH (ht5.ext x7) (by omega) (by omega) (cG hk1) (sW (dK.2 ?_));exact ⟨.inl ⟨_,rfl⟩,st _ (by rw [eK];rfl)⟩
  ·have hcn:¬ ((c.toNat:Int)=97):=λe=>h97 (by
    apply UInt8.toNat_inj.1;have:c.toNat=97:=by omega
    exact this)
   simp only [hcn,aS,decide_false];rw [if_neg h97] at eK;refine ⟨.inl ⟨_,rfl⟩,bF hW.boxed dY oD rfl ?_⟩
   have second:∀ {w1},aF w5 w1->Wr w1 g (oQ ((iU op).take (j+1)) (l.take (j+1))) B->∀ v,v=qF ((iU op).take (j+1)) (l.take (j+1))->V prog (Instr.fieldAt 248 (.pointer (some ⟨g,0,none⟩)) 1) w1 λt76 w43=>U prog (Instr.storeAt 4 t76 (.bool v)) w43 λ_ w44=>V prog (binOp .add 3 (i64 j) (i64 1)) w44 λt w2=>
    (∃ j:Nat,t=i64 j/\j<=(iU op).length/\aF w5 w2/\Wr w2 g (oQ ((iU op).take j) (l.take j)) (qF ((iU op).take j) (l.take j)))/\(iU op).length - (RowKit.intOf t).toNat < (iU op).length - (RowKit.intOf (i64 (j:Int))).toNat:=by
    rintro w1 hx hw v hv;refine FK dX kP hw (n:=2) rfl (by decide) rfl ?_;exact go (hx.setCell hgs _) (hw.set 1 _) rfl hv
   have kpart:∀ v,v=oQ ((iU op).take (j+1)) (l.take (j+1))->aF w5 (w7.setCell ⟨g,0,none⟩ (.bool v))/\Wr (w7.setCell ⟨g,0,none⟩ (.bool v)) g (oQ ((iU op).take (j+1)) (l.take (j+1))) B:=by
    rintro _ rfl;exact ⟨x7.setCell hgs _,hW.set 0 _⟩
   have hch:c=112\/c=105:=by
    rcases pc1 c (List.mem_of_getElem? hc1) with h1|h1|h1
    ·exact absurd h1 h97
    ·exact .inl h1
    ·exact .inr h1
   cases A with
   | true=>
    simp only [aS,reduceIte];refine ⟨.inl ⟨_,rfl⟩,?_⟩;refine FK dY kP hW (n:=2) rfl (by decide) rfl ⟨.inl ⟨_,rfl⟩,?_⟩;obtain ⟨kx,kw⟩:=kpart true (by rw [eK];rfl);refine bF kw.boxed dX oD rfl ?_;cases B with
    | true=>simp only [aS,reduceIte];exact ⟨.inl ⟨_,rfl⟩,second kx kw _ (by rw [eL];rfl)⟩
    | false=>
     simp only [aS,reduceIte,Bool.false_eq_true];refine V.ok (vP underlying9 hsc) (aK.2 ?_);rcases hch with rfl|rfl
     ·simp only [show (((112:UInt8).toNat:Nat):Int)=112 from rfl,aS,reduceIte,decide_true];refine lV aQ aH (ht5.ext kx) (by omega) (by omega) (cG hk1) (AZ ?_);exact ⟨.inl ⟨_,rfl⟩,second kx kw _ (by rw [eL];rfl)⟩
     ·simp only [show (((105:UInt8).toNat:Nat):Int)=105 from rfl,aS,Int.reduceEq,reduceIte,Bool.false_eq_true,decide_false];exact ⟨.inl ⟨_,rfl⟩,second kx kw _ (by rw [eL];rfl)⟩
   | false=>
    simp only [aS,reduceIte,Bool.false_eq_true];refine lV aQ aH (ht5.ext x7) (by omega) (by omega) (cG hk1) (sV (dK.2 ?_));refine ⟨.inl ⟨_,rfl⟩,?_⟩;refine FK dY kP hW (n:=2) rfl (by decide) rfl ⟨.inl ⟨_,rfl⟩,?_⟩;obtain ⟨kx,kw⟩:=kpart (!dW (cE l j)) (by rw [eK];rfl);refine bF kw.boxed dX oD rfl ?_;cases B with
    | true=>simp only [aS,reduceIte];exact ⟨.inl ⟨_,rfl⟩,second kx kw _ (by rw [eL];rfl)⟩
    | false=>
     simp only [aS,reduceIte,Bool.false_eq_true];refine V.ok (vP underlying9 hsc) (aK.2 ?_);rcases hch with rfl|rfl
     ·simp only [show (((112:UInt8).toNat:Nat):Int)=112 from rfl,aS,reduceIte,decide_true];refine lV aQ aH (ht5.ext kx) (by omega) (by omega) (cG hk1) (AZ ?_);exact ⟨.inl ⟨_,rfl⟩,second kx kw _ (by rw [eL];rfl)⟩
     ·simp only [show (((105:UInt8).toNat:Nat):Int)=105 from rfl,aS,Int.reduceEq,reduceIte,Bool.false_eq_true,decide_false];exact ⟨.inl ⟨_,rfl⟩,second kx kw _ (by rw [eL];rfl)⟩
 have hjl:j=(iU op).length:=by
  have:¬ j < (iU op).length:=λhh=>hge (by simpa [ByteArray.size] using hh);omega
 subst hjl;rw [List.take_length] at hW;have J:∀ {w' kf lf},aF w5 w'->Wr w' g kf lf->((kf||lf)=false↔uH i m ⟨op,a,b⟩ l)->∃ kf lf,Wr w' g kf lf/\aF w5 w'/\((kf||lf)=false↔uH i m ⟨op,a,b⟩ l):=λh1 h2 h3=>⟨_,_,h2,h1,h3⟩
 have rd:∀ {w' n u K},aF w5 w'->n < l.length->u=i64 (cE l n)->K u w'->V prog (Instr.indexAt 23 tv (i64 (n:Nat))) w' λp w1=>V prog (Instr.loadAt 3 p) w1 K:=λ{w' n u K} hx hn hu hK=>by
  subst hu;exact lV aQ aH (ht5.ext hx) (by omega) (by omega) (cG (lH hn)) hK
 refine ⟨λw'=>∃ kf lf,Wr w' g kf lf/\aF w5 w'/\((kf||lf)=false↔uH i m ⟨op,a,b⟩ l),?_,?_⟩
 ·refine bF (fb3 x7) bJ aH rfl ?_;by_cases c3:op=3
  ·subst c3;have a1:0<=a:=a1;have hna:a < (m.locs.length:Int):=hn;have hl1:l.length=1:=hll;have hkd:=sS (IC mr) (k:=a.toNat) (by omega);have hk0:=nZ hkl (n:=0) (by omega);simp only [aS,Int.reduceEq,decide_true,decide_false];refine iO (fb2 x7) oB rfl ?_;refine bF (fb3 x7) bE aH rfl ?_;refine IH (f2.ext x7) mr a1 λw8 x8=>gS.2 (gR.2 ?_);refine rd (n:=0) (x7.trans x8) (by omega) rfl ?_;refine DE hk0 hkd ?_;refine xX (bO.ext hW x8) λw9 hW9 hx9=>J (hx9 _ (x7.trans x8) hgs) hW9 ?_;rw [DP ⟨by decide,by decide,by decide,by decide⟩,aOu hl1];have:=inA (t:=[m.locs.getD a.toNat 0]) (l:=[cE l 0]) (by intro k hk;rw [List.mem_singleton] at hk;subst hk;exact hkd) (by intro k hk;rw [List.mem_singleton] at hk;subst hk;exact hk0);simp only [SU,SS,Bool.or_false] at this;exact this
  by_cases c34:op=34
  ·subst c34;have a1:0<=a:=a1;have hna:a < (i.fields.length:Int):=hn;have hl1:l.length=1:=hll;have hkd:=sS ir.1.1 (k:=a.toNat) (by omega);have hk0:=nZ hkl (n:=0) (by omega);simp only [aS,Int.reduceEq,decide_true,decide_false];have D1:aF w7 w7.drew:=(aF.refl _).drew;have xd:=x7.trans D1;refine aM.mk' (λw'=>aF w5 w') xd ?_;refine nR aQ aH ht5 (λ_ h=>h) (by omega) (by omega) (cG (j:=0) (lH (by omega))) ?_;refine jM (λw' hw=>fb1 hw) jF bD rfl ?_;refine jM (λw' hw=>fb3 hw) bE aH rfl ?_;obtain ⟨ka,hka⟩:∃ ka:Nat,a=ka:=⟨a.toNat,by omega⟩;have hfi:i.fields[ka]?=some (i.fields.getD a.toNat 0):=by rw [hka,Int.toNat_natCast];exact fD (by omega)
   refine nR aQ aH f1.fl (λ_ h=>h) a1 hna (by rw [hka];exact cG hfi) ?_;refine DE hk0 hkd ⟨xd,?_⟩;refine xX (bO.ext hW D1) λw9 hW9 hx9=>J (hx9 _ xd hgs) hW9 ?_;rw [DP ⟨by decide,by decide,by decide,by decide⟩,aOu hl1];have:=inA (t:=[i.fields.getD a.toNat 0]) (l:=[cE l 0]) (by intro k hk;rw [List.mem_singleton] at hk;subst hk;exact hkd) (by intro k hk;rw [List.mem_singleton] at hk;subst hk;exact hk0);simp only [SU,SS,Bool.or_false] at this;exact this
  by_cases c22:op=22
  ·subst c22;have hl3:l.length=3:=hll;have hk0:=nZ hkl (n:=0) (by omega);have hk1:=nZ hkl (n:=1) (by omega);have hk2:=nZ hkl (n:=2) (by omega)
   have hgood:uH i m ⟨22,a,b⟩ l↔(jR [-2,-1,-1] [cE l 0,cE l 1,cE l 2]&&(dW (cE l 1)&&dW (cE l 2)||fM (cE l 1)&&cE l 1 == cE l 2))=true/\(fM (cE l 1)&&cE l 0 == 2)=false:=by
    have e:uH i m ⟨22,a,b⟩ l=((jR [-2,-1,-1] l&&(dW (cE l 1)&&dW (cE l 2)||fM (cE l 1)&&cE l 1 == cE l 2))=true/\(fM (cE l 1)&&cE l 0 == 2)=false):=rfl;rw [e,<- bAg hl3]
   have hf:=(bBv hk0 hk1 hk2).trans hgood.symm;have hW:Wr w7 g false false:=hW;simp only [aS,Int.reduceEq,decide_true,decide_false];have D1:aF w7 w7.drew:=(aF.refl _).drew;have xd:=x7.trans D1;have hWd:Wr w7.drew g false false:=bO.ext hW D1;refine aM.mk' (λw'=>aF w5 w'/\Wr w' g false false) ⟨xd,hWd⟩ ⟨.inl ⟨_,rfl⟩,?_⟩;refine jM (λw' hw=>(bO.boxed hw.2)) dY oD rfl ?_;simp only [aS,reduceIte,Bool.false_eq_true];have yr:∀ {n L},n < l.length->L (i64 (cE l n))->aE prog (λw'=>aF w5 w'/\Wr w' g false false) (Instr.indexAt 23 tv (i64 (n:Nat))) λp=>aE prog (λw'=>aF w5 w'/\Wr w' g false false) (Instr.loadAt 3 p) L:=λ{n L} hn hL=>nR aQ aH ht5 (λ_ h=>h.1) (by omega) (by omega) (cG (lH hn)) hL;refine yr (n:=0) (by omega) (sV ⟨⟨xd,hWd⟩,aE.ok (λw' _=>uY) ?_⟩)
   have leak:∀ (kf:Bool) {w'},kf=(!dW (cE l 0)||(dW (cE l 1) != dW (cE l 2))||(fM (cE l 1)&&(cE l 1 != cE l 2)))->w'=w7.drew.setCell ⟨g,0,none⟩ (.bool kf)->(aF w5 w'/\Wr w' g kf false):=by
    rintro kf _ _ rfl;exact ⟨xd.setCell hgs _,bO.set hWd 0 _⟩
   have fin:∀ (kf lf:Bool) {w'},kf=(!dW (cE l 0)||(dW (cE l 1) != dW (cE l 2))||(fM (cE l 1)&&(cE l 1 != cE l 2)))->lf=(fM (cE l 1)&&DD (cE l 0))->aF w5 w'->Wr w' g kf false ->
     V prog (Instr.fieldAt 248 (.pointer (some ⟨g,0,none⟩)) 1) w' λt204 w117=>U prog (Instr.storeAt 4 t204 (.bool lf)) w117 λ_ w118=>∃ kf lf,Wr w118 g kf lf/\aF w5 w118/\((kf||lf)=false↔uH i m ⟨22,a,b⟩ l):=by
    intro kf lf w' e1 e2 hx hw;refine FK dX kP hw (n:=2) rfl (by decide) rfl ?_;exact J (hx.setCell hgs _) (hw.set 1 _) (by rw [e1,e2];exact hf)
   have rest:∀ (kf:Bool),kf=(!dW (cE l 0)||(dW (cE l 1) != dW (cE l 2))||(fM (cE l 1)&&(cE l 1 != cE l 2)))->aE prog (λw'=>aF w5 w'/\Wr w' g false false) (Instr.fieldAt 248 (.pointer (some ⟨g,0,none⟩)) 0) λt185=>U prog (Instr.storeAt 4 t185 (.bool kf)) w7.drew λ_ w101=>
     Go.Vc.bL (.pointer (some ⟨g,0,none⟩))/\V prog (Instr.fieldAt 248 (.pointer (some ⟨g,0,none⟩)) 1) w101 λt189 w103=>V prog (Instr.loadAt 4 t189) w103 λt190 w104=>
     gd t190 false (λK=>K tv w104) w104 λt192 w105=>gd t190 false (λK=>V prog (Instr.indexAt 23 t192 (i64 1)) w105 K) w105 λt193 w106=>gd t190 false (λK=>V prog (Instr.loadAt 3 t193) w106 K) w106 λt194 w107=>gd t190 false (λK=>aB prog 148 #[t194] w107 K) w107 λt195 w108=>
     gd t190 false (λK=>K t195 w108) w108 λt196 w109=>gd t196 true (λK=>K tv w109) w109 λt197 w110=>gd t196 true (λK=>V prog (Instr.indexAt 23 t197 (i64 0)) w110 K) w110 λt198 w111=>gd t196 true (λK=>V prog (Instr.loadAt 3 t198) w111 K) w111 λt199 w112=>
     gd t196 true (λK=>aB prog 150 #[t199] w112 K) w112 λt200 w113=>gd t190 false (λK=>aG t196 t200 (.bool false) λv=>K v w113) w113 λt201 w114=>aG t190 (.bool true) t201 λt202=>
     Go.Vc.bL (.pointer (some ⟨g,0,none⟩))/\V prog (Instr.fieldAt 248 (.pointer (some ⟨g,0,none⟩)) 1) w114 λt204 w117=>U prog (Instr.storeAt 4 t204 t202) w117 λ_ w118=>∃ kf lf,Wr w118 g kf lf/\aF w5 w118/\((kf||lf)=false↔uH i m ⟨22,a,b⟩ l):=by
    intro kf e1;refine aE.ok (λw' _=>(dY:FA prog 248 0 0).ex w' g 0) ?_;refine bGy kP hWd (n:=2) rfl (o:=0) (by decide) rfl ⟨.inl ⟨_,rfl⟩,?_⟩;obtain ⟨lx,lw⟩:=leak kf e1 rfl;refine bF lw.boxed dX oD rfl ?_;simp only [aS,reduceIte,Bool.false_eq_true];refine rd (n:=1) lx (by omega) rfl (sW ?_);cases hz:fM (cE l 1) with
    | false=>simp only [aS,reduceIte,Bool.false_eq_true];exact ⟨.inl ⟨_,rfl⟩,fin kf _ e1 (by rw [hz];rfl) lx lw⟩
    | true=>
     simp only [aS,reduceIte];refine rd (n:=0) lx (by omega) rfl (AZ ?_);exact ⟨.inl ⟨_,rfl⟩,fin kf _ e1 (by rw [hz];rfl) lx lw⟩
   cases i0:dW (cE l 0) with
   | false=>
    simp only [aS,reduceIte,Bool.not_false];exact ⟨⟨xd,hWd⟩,⟨xd,hWd⟩,⟨xd,hWd⟩,.inl ⟨_,rfl⟩,rest _ (by rw [i0];rfl)⟩
   | true=>
    simp only [aS,reduceIte,Bool.false_eq_true,Bool.not_true];refine yr (n:=1) (by omega) (yr (n:=2) (by omega) ?_);refine sV ⟨⟨xd,hWd⟩,sV ⟨⟨xd,hWd⟩,aE.ok (λw' _=>aEr) ?_⟩⟩;cases i12:(dW (cE l 1) != dW (cE l 2)) with
    | true=>
     simp only [aS,reduceIte];exact ⟨⟨xd,hWd⟩,.inl ⟨_,rfl⟩,rest _ (by rw [i0,i12];rfl)⟩
    | false=>
     simp only [aS,reduceIte,Bool.false_eq_true];refine yr (n:=1) (by omega) (sW ⟨⟨xd,hWd⟩,?_⟩);cases a1':fM (cE l 1) with
     | false=>simp only [aS,reduceIte,Bool.false_eq_true];exact ⟨.inl ⟨_,rfl⟩,rest _ (by rw [i0,i12,a1'];rfl)⟩
     | true=>
      simp only [aS,reduceIte];refine yr (n:=1) (by omega) (yr (n:=2) (by omega) (aE.ok (λw' _=>rM) ?_));exact ⟨.inl ⟨_,rfl⟩,rest _ (by rw [i0,i12,a1'];by_cases hq:cE l 1=cE l 2<;>simp [hq])⟩
  have hP:=bHp (p:=iU op) (l:=l) pc1 hkl
  have st1:∀ (kf lf:Bool) {w'},((kf||lf)=false↔uH i m ⟨op,a,b⟩ l)->(∃ lf0,Wr w' g kf lf0)->aF w5 w' ->
    V prog (Instr.fieldAt 248 (.pointer (some ⟨g,0,none⟩)) 1) w' λt204 w117=>U prog (Instr.storeAt 4 t204 (.bool lf)) w117 λ_ w118=>∃ kf lf,Wr w118 g kf lf/\aF w5 w118/\((kf||lf)=false↔uH i m ⟨op,a,b⟩ l):=by
   rintro kf lf w' hf ⟨lf0,hw⟩ hx;refine FK dX kP hw (n:=2) rfl (by decide) rfl ?_;exact J (hx.setCell hgs _) (hw.set 1 _) hf
  by_cases c30:op=30
  ·subst c30;have hl3:l.length=3:=hll;have hk0:=nZ hkl (n:=0) (by omega);have hk1:=nZ hkl (n:=1) (by omega);have hk2:=nZ hkl (n:=2) (by omega);have e3:l.take (iU 30).length=l:=List.take_of_length_le (by rw [hl3];exact Nat.le_refl _);rw [e3] at hW
   have hgood:uH i m ⟨30,a,b⟩ l↔jR [-4,-3,-2] [cE l 0,cE l 1,cE l 2]=true/\(fZ [-4,-3,-2] [cE l 0,cE l 1,cE l 2]||(cE l 0 == 3&&cE l 2 == 2))=false:=by
    rw [<- bAg hl3];unfold uH mG kA;dsimp only;rw [if_neg (by decide),if_neg (by decide),if_pos rfl,show aV i m ⟨30,a,b⟩=[-4,-3,-2] from rfl,Bool.and_true]
   have hP:(oQ (iU 30) l||qF (iU 30) l)=false↔jR [-4,-3,-2] [cE l 0,cE l 1,cE l 2]=true/\fZ [-4,-3,-2] [cE l 0,cE l 1,cE l 2]=false:=by
    rw [<- bAg hl3];exact hP
   have hz:=(bBu hk0 hk1 hk2 hP).trans hgood.symm;generalize oQ (iU 30) l=A at hW hz;generalize qF (iU 30) l=B at hW hz;simp only [aS,Int.reduceEq,decide_true,decide_false];refine ⟨.inl ⟨_,rfl⟩,bF hW.boxed dX oD rfl ?_⟩;cases B with
   | true=>simp only [aS,reduceIte];exact ⟨.inl ⟨_,rfl⟩,st1 A _ (by simpa using hz) ⟨_,hW⟩ x7⟩
   | false=>
    simp only [aS,reduceIte,Bool.false_eq_true];refine rd (n:=0) x7 (by omega) rfl (aK.2 ?_);by_cases z0:cE l 0=3
    ·simp only [z0,aS,reduceIte,decide_true];refine rd (n:=2) x7 (by omega) rfl (AZ ?_);exact ⟨.inl ⟨_,rfl⟩,st1 A _ (by simpa [z0] using hz) ⟨_,hW⟩ x7⟩
    ·simp only [z0,aS,reduceIte,Bool.false_eq_true,decide_false];exact ⟨.inl ⟨_,rfl⟩,st1 A _ (by simpa [z0] using hz) ⟨_,hW⟩ x7⟩
  by_cases c31:op=31
  ·subst c31;have hl5:l.length=5:=hll;have e3:l.take (iU 31).length=l:=List.take_of_length_le (by rw [hl5];exact Nat.le_refl _);rw [e3] at hW
   have hgood:uH i m ⟨31,a,b⟩ l↔jR [-4,-3,-4,-3,-3] l=true/\(fZ [-4,-3,-4,-3,-3] l||(cE l 0 == 3&&cE l 2 == 4))=false:=by
    unfold uH mG kA;dsimp only;rw [if_neg (by decide),if_neg (by decide),if_neg (by decide),if_pos rfl,show aV i m ⟨31,a,b⟩=[-4,-3,-4,-3,-3] from rfl,Bool.and_true]
   have hP:(oQ (iU 31) l||qF (iU 31) l)=false↔jR [-4,-3,-4,-3,-3] l=true/\fZ [-4,-3,-4,-3,-3] l=false:=hP;have hz:=(SX (z:=(cE l 0 == 3&&cE l 2 == 4)) hP).trans hgood.symm;generalize oQ (iU 31) l=A at hW hz;generalize qF (iU 31) l=B at hW hz;simp only [aS,Int.reduceEq,decide_true,decide_false];refine ⟨.inl ⟨_,rfl⟩,bF hW.boxed dX oD rfl ?_⟩;cases B with
   | true=>simp only [aS,reduceIte];exact ⟨.inl ⟨_,rfl⟩,st1 A _ (by simpa using hz) ⟨_,hW⟩ x7⟩
   | false=>
    simp only [aS,reduceIte,Bool.false_eq_true];refine rd (n:=0) x7 (by omega) rfl (aK.2 ?_);by_cases z0:cE l 0=3
    ·simp only [z0,aS,reduceIte,decide_true];refine rd (n:=2) x7 (by omega) rfl (aK.2 ?_);exact ⟨.inl ⟨_,rfl⟩,st1 A _ (by simpa [z0] using hz) ⟨_,hW⟩ x7⟩
    ·simp only [z0,aS,reduceIte,Bool.false_eq_true,decide_false];exact ⟨.inl ⟨_,rfl⟩,st1 A _ (by simpa [z0] using hz) ⟨_,hW⟩ x7⟩
  by_cases c36:op=36
  ·subst c36;have hl3:l.length=3:=hll;have e3:l.take (iU 36).length=l:=List.take_of_length_le (by rw [hl3];exact Nat.le_refl _);rw [e3] at hW
   have hgood:uH i m ⟨36,a,b⟩ l↔jR [-4,-3,-3] l=true/\(fZ [-4,-3,-3] l||(a == 1&&cE l 0 == 4))=false:=by
    unfold uH mG kA;dsimp only;rw [if_neg (by decide),if_neg (by decide),if_neg (by decide),if_neg (by decide),if_pos rfl,show aV i m ⟨36,a,b⟩=[-4,-3,-3] from rfl,Bool.and_true]
   have hP:(oQ (iU 36) l||qF (iU 36) l)=false↔jR [-4,-3,-3] l=true/\fZ [-4,-3,-3] l=false:=hP;have hz:=(SX (z:=(a == 1&&cE l 0 == 4)) hP).trans hgood.symm;generalize oQ (iU 36) l=A at hW hz;generalize qF (iU 36) l=B at hW hz;simp only [aS,Int.reduceEq,decide_true,decide_false];refine ⟨.inl ⟨_,rfl⟩,bF hW.boxed dX oD rfl ?_⟩;cases B with
   | true=>simp only [aS,reduceIte];exact ⟨.inl ⟨_,rfl⟩,st1 A _ (by simpa using hz) ⟨_,hW⟩ x7⟩
   | false=>
    simp only [aS,reduceIte,Bool.false_eq_true];refine bF (fb3 x7) bE aH rfl (aK.2 ?_);by_cases z0:a=1
    ·subst z0;simp only [aS,reduceIte,decide_true];refine rd (n:=0) x7 (by omega) rfl (aK.2 ?_);exact ⟨.inl ⟨_,rfl⟩,st1 A (decide (cE l 0=4)) (by simpa using hz) ⟨_,hW⟩ x7⟩
    ·simp only [z0,aS,reduceIte,Bool.false_eq_true,decide_false];exact ⟨.inl ⟨_,rfl⟩,st1 A _ (by simpa [z0] using hz) ⟨_,hW⟩ x7⟩
  by_cases c37:op=37
  ·subst c37;have a1:0<=a:=a1;obtain ⟨ka,rfl⟩:∃ ka:Nat,a=ka:=⟨a.toNat,by omega⟩;have hna:(ka:Int) < (i.methods.length:Int):=hn;have hlp:l.length=(i.meth (ka:Int)).params.length:=hll;have hkp:rU (i.meth (ka:Int)).params:=KZ ir a1 hna;have hW:Wr w7 g false false:=hW;have e3:aV i m ⟨37,(ka:Int),b⟩=(i.meth (ka:Int)).params:=rfl;simp only [aS,Int.reduceEq,decide_true,decide_false];refine ⟨λv w'=>∃ j:Nat,v=i64 j/\j<=l.length/\aF w5 w'/\Wr w' g (SU ((i.meth (ka:Int)).params.take j) (l.take j)) (SS ((i.meth (ka:Int)).params.take j) (l.take j)),λv _=>l.length - (RowKit.intOf v).toNat,⟨0,rfl,Nat.zero_le _,x7,hW⟩,?_⟩;rintro _ w8 ⟨j,rfl,hj,x8,hW8⟩ _;rw [e3];refine aY.2 (aD (λhlt=>?_) λhge=>?_)
   ·have hk1:=lH (l:=l) (j:=j) (by omega);obtain ⟨q,hq⟩:=bC (l:=(i.meth (ka:Int)).params) (j:=j) (by omega);have D1:aF w8 w8.drew:=(aF.refl _).drew;have xd:=x8.trans D1;refine aM.mk' (λw'=>aF w5 w') xd ?_;refine nR aQ aH ht5 (λ_ h=>h) (by omega) (by omega) (cG hk1) ?_;refine jM (λw' hw=>fb1 hw) bP dM rfl ?_;refine jM (λw' hw=>fb3 hw) bE aH rfl ?_;have hmi:=gM a1 hna;rw [Int.toNat_natCast] at hmi;refine ySF iQ dL bD f1.mt (λ_ h=>h) hmi λrow hrow=>?_;obtain ⟨pv9,lv9,cv9,rfl,hp9,_,_⟩:=hrow;refine ⟨pv9,rfl,by decide,?_⟩;refine nR aQ aH hp9 (λ_ h=>h) (by omega) (by omega) (cG hq) ?_;refine DE (hkl _ (List.mem_of_getElem? hk1)) (hkp _ (List.mem_of_getElem? hq)) ⟨xd,?_⟩;refine xX (bO.ext hW8 D1) λw9 hW9 hx9=>⟨hx9 _ xd hgs,aU.2 ?_⟩;rw [aC (by omega) (by omega),aR];refine ⟨⟨j+1,rfl,by omega,hx9 _ xd hgs,?_⟩,by simp only [aL];omega⟩;rw [DO hq hk1,DN hq hk1];exact hW9
   ·have hjl:j=l.length:=by omega
    subst hjl;rw [List.take_length,hlp,List.take_length] at hW8;refine J x8 hW8 ?_;rw [DP ⟨by decide,by decide,by decide,by decide⟩,e3];exact inA hkp hkl
  by_cases c38:op=38
  ·subst c38;have a1:0<=a:=a1;obtain ⟨ka,rfl⟩:∃ ka:Nat,a=ka:=⟨a.toNat,by omega⟩;have hna:(ka:Int) < (i.imports.length:Int):=hn;have hlp:l.length=(i.imp (ka:Int)).params.length:=hll;have hkp:rU (i.imp (ka:Int)).params:=VX ir a1 hna;have hW:Wr w7 g false false:=hW;have e3:aV i m ⟨38,(ka:Int),b⟩=(i.imp (ka:Int)).params:=rfl;simp only [aS,Int.reduceEq,decide_true,decide_false];refine ⟨λv w'=>∃ j:Nat,v=i64 j/\j<=l.length/\aF w5 w'/\Wr w' g (SU ((i.imp (ka:Int)).params.take j) (l.take j)) (SS ((i.imp (ka:Int)).params.take j) (l.take j)),λv _=>l.length - (RowKit.intOf v).toNat,⟨0,rfl,Nat.zero_le _,x7,hW⟩,?_⟩;rintro _ w8 ⟨j,rfl,hj,x8,hW8⟩ _;rw [e3];refine aY.2 (aD (λhlt=>?_) λhge=>?_)
   ·have hk1:=lH (l:=l) (j:=j) (by omega);obtain ⟨q,hq⟩:=bC (l:=(i.imp (ka:Int)).params) (j:=j) (by omega);have D1:aF w8 w8.drew:=(aF.refl _).drew;have xd:=x8.trans D1;refine aM.mk' (λw'=>aF w5 w') xd ?_;refine nR aQ aH ht5 (λ_ h=>h) (by omega) (by omega) (cG hk1) ?_;refine jM (λw' hw=>fb1 hw) fG iC rfl ?_;refine jM (λw' hw=>fb3 hw) bE aH rfl ?_;have hmi:=sX a1 hna;rw [Int.toNat_natCast] at hmi;refine ySF nK bW bD f1.im (λ_ h=>h) hmi λrow hrow=>?_;obtain ⟨pv9,rfl,hp9⟩:=hrow;refine ⟨pv9,rfl,by decide,?_⟩;refine nR aQ aH hp9 (λ_ h=>h) (by omega) (by omega) (cG hq) ?_;refine DE (hkl _ (List.mem_of_getElem? hk1)) (hkp _ (List.mem_of_getElem? hq)) ⟨xd,?_⟩;refine xX (bO.ext hW8 D1) λw9 hW9 hx9=>⟨hx9 _ xd hgs,aU.2 ?_⟩;rw [aC (by omega) (by omega),aR];refine ⟨⟨j+1,rfl,by omega,hx9 _ xd hgs,?_⟩,by simp only [aL];omega⟩;rw [DO hq hk1,DN hq hk1];exact hW9
   ·have hjl:j=l.length:=by omega
    subst hjl;rw [List.take_length,hlp,List.take_length] at hW8;refine J x8 hW8 ?_;rw [DP ⟨by decide,by decide,by decide,by decide⟩,e3];exact inA hkp hkl
  by_cases c39:op=39
  ·subst c39;have hW:Wr w7 g false false:=hW;have e3:aV i m ⟨39,a,b⟩=mF m.result:=rfl;simp only [aS,Int.reduceEq,decide_true,decide_false];rw [e3] at hll ⊢;by_cases hr:m.result=0
   ·have e4:mF m.result=[]:=by unfold mF;rw [if_pos hr]
    have hll0:l.length=0:=by rw [hll,e4];rfl
    simp only [e4,List.length_nil,Int.natCast_zero,aS,Int.reduceGT,decide_false];refine J x7 hW ?_;rw [DP ⟨by decide,by decide,by decide,by decide⟩,e3,e4];simp [jR,fZ]
   ·have e4:mF m.result=[m.result]:=by unfold mF;rw [if_neg hr]
    have hl1:l.length=1:=by rw [hll,e4];rfl
    have hk0:=nZ hkl (n:=0) (by omega);have hkr:Kd m.result:=by have:=mr.2.1;unfold Kd;omega
    simp only [e4,List.length_cons,List.length_nil,Nat.zero_add,Int.natCast_one,aS,Int.reduceGT,decide_true];have D1:aF w7 w7.drew:=(aF.refl _).drew;have xd:=x7.trans D1;refine aM.mk' (λw'=>aF w5 w') xd ?_;refine nR aQ aH ht5 (λ_ h=>h) (by omega) (by omega) (cG (j:=0) (lH (by omega))) ?_;refine jM (λw' hw=>fb2 hw) fS aH rfl ?_;refine DE hk0 hkr ⟨xd,?_⟩;refine xX (bO.ext hW D1) λw9 hW9 hx9=>J (hx9 _ xd hgs) hW9 ?_;rw [DP ⟨by decide,by decide,by decide,by decide⟩,e3,e4,aOu hl1];have:=inA (t:=[m.result]) (l:=[cE l 0]) (by intro k hk;rw [List.mem_singleton] at hk;subst hk;exact hkr) (by intro k hk;rw [List.mem_singleton] at hk;subst hk;exact hk0);simp only [SU,SS,Bool.or_false] at this;exact this
  simp only [c3,c34,c22,c30,c31,c36,c37,c38,c39,aS,decide_false];refine J x7 hW ?_;rw [DP ⟨c22,c30,c31,c36⟩];by_cases c45:op=4\/op=5
  ·rcases c45 with rfl|rfl
   all_goals
    have hl1:l.length=1:=hll;rw [aOu hl1];simp [oQ,qF,iU,kE,aV,jR,fZ,tJ,vK]
  ·simp only [not_or] at c45;have e5:=pc3 (by omega);have e6:l.take (iU op).length=l:=List.take_of_length_le (by rw [hll,e5];simp);rw [e5,e6];exact hP
 ·rintro w8 ⟨kf,lf,hW8,x8,hgood⟩ _;refine ⟨.inl ⟨_,rfl⟩,bF hW8.boxed dY oD rfl ?_⟩
  have bad:(kf||lf)=true->BE i m ⟨op,a,b⟩ s=none:=λhb=>by
   rw [hdo,if_neg];intro hgd;have:=hgood.2 hgd;rw [hb] at this;cases this
  cases kf with
  | true=>simp only [aS];exact no 11 _ (bad rfl) (by decide) (xx5.trans x8)
  | false=>
  simp only [aS];refine ⟨.inl ⟨_,rfl⟩,bF hW8.boxed dX oD rfl ?_⟩;cases lf with
  | true=>simp only [aS];exact no 12 _ (bad rfl) (by decide) (xx5.trans x8)
  | false=>
  simp only [aS]
  have hd2:BE i m ⟨op,a,b⟩ s=some (s.take (s.length - (aV i m ⟨op,a,b⟩).length)++iV i m ⟨op,a,b⟩ l):=by
   have hgd:mG ⟨op,a,b⟩ (aV i m ⟨op,a,b⟩) l=true/\kA ⟨op,a,b⟩ (aV i m ⟨op,a,b⟩) l=false:=hgood.1 rfl;rw [hdo,if_pos hgd]
  have D1:aF w8 w8.drew:=(aF.refl _).drew;have xd:=x8.trans D1;refine aM.mk' (λw'=>aF w5 w') xd ?_;refine yA (λw' hw=>fb1 hw) lF rfl ?_;refine yA (λw' hw=>fb2 hw) oB rfl ?_;refine yA (λw' hw=>fb3 hw) iA rfl ?_;refine jS bB [] rfl rfl (by simp) rfl λv1 w9 ho9 x9=>⟨xd.trans x9,?_⟩;have hul:(s.take (s.length - (aV i m ⟨op,a,b⟩).length)).length=s.length - (aV i m ⟨op,a,b⟩).length:=by rw [List.length_take];omega
  refine TS bB ho9 (hu4.ext ((x5.trans xd).trans x9)) (MO _) (by omega) (by unfold maxLen;omega) x9.size λv2 w10 ho10 hg10=>?_;have x10:aF w8.drew w10:=x9.grown hg10 λk hk=>(ho9.lt k hk).1;have xd10:=xd.trans x10;refine ⟨xd10,?_⟩;refine aGz (f1.ext xd10) (f2.ext xd10) hx0 (ht5.ext xd10) hll λv3 w11 h11 x11=>⟨xd10.trans x11,?_⟩;have hgl:(iV i m ⟨op,a,b⟩ l).length<=2:=by rw [IX];exact hh2
  refine TS bB (x11.own ho10) h11 (MO _) (by omega) (by unfold maxLen;omega) (x10.trans x11).size λv4 w12 ho12 hg12=>?_;have x12:aF w8.drew w12:=(x10.trans x11).grown hg12 λk hk=>((x11.own ho10).lt k hk).1;refine ⟨xd.trans x12,yes _ v4 w12 hd2 ?_ ((xx5.trans xd).trans x12)⟩;have:=aX ho12 ((xx5.trans xd).size);simp only [List.nil_append] at this;rw [List.length_append,List.map_append,hul];simpa using this
end Go.Proofs.YtjcmcfidblhnnaaGreatDoor
