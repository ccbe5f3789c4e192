/- The reference's walk over a method. -/
import Derived.Test.YtgkkecladbmjkaaGreatDoorZd
import Derived.Lib.AppendZeros
import Derived.Great.FillDense
import Derived.Great.BuildSlice
import Derived.Laws.RangeString
set_option maxHeartbeats 4000000
set_option linter.unusedSimpArgs false
namespace Go.Vc
theorem XN {p:Nat->Prop} (h:∃ n,p n):∃ n,p n/\∀ m,p m->n<=m:=by
 obtain ⟨n,hn⟩:=h;induction n using Nat.strongRecOn with
 | ind n ih=>
  by_cases hm:∃ m,m < n/\p m
  ·obtain ⟨m,h1,h2⟩:=hm;exact ih m h1 h2
  ·refine ⟨n,hn,λm h2=>?_⟩;by_cases hlt:m < n
   ·exact absurd ⟨m,hlt,h2⟩ hm
   ·omega
theorem QV {P:Program} {w:O} {K:Z->O->Prop} {a b c d:Z}:V P (Instr.extract (.tuple #[a,b,c,d]) 0) w K↔K a w:=V.iff (by simp [Instr.extract])
theorem QU {P:Program} {w:O} {K:Z->O->Prop} {a b c d:Z}:V P (Instr.extract (.tuple #[a,b,c,d]) 1) w K↔K b w:=V.iff (by simp [Instr.extract])
theorem QT {P:Program} {w:O} {K:Z->O->Prop} {a b c d:Z}:V P (Instr.extract (.tuple #[a,b,c,d]) 2) w K↔K c w:=V.iff (by simp [Instr.extract])
theorem QS {P:Program} {w:O} {K:Z->O->Prop} {a b c d:Z}:V P (Instr.extract (.tuple #[a,b,c,d]) 3) w K↔K d w:=V.iff (by simp [Instr.extract])
open Classical in
noncomputable def mu (p:Nat->Prop):Nat:=if h:∃ n,p n then Classical.choose (XN h) else 0
theorem tJ {p:Nat->Prop} (h:∃ n,p n):p (mu p):=by
 unfold mu;rw [dif_pos h];exact (Classical.choose_spec (XN h)).1
theorem FT {p:Nat->Prop} {n:Nat} (h:p n):mu p<=n:=by
 unfold mu;rw [dif_pos ⟨n,h⟩];exact (Classical.choose_spec (XN ⟨n,h⟩)).2 n h
end Go.Vc
namespace Go.Tc
theorem yB {n:Nat} {stack:List Int}:∀ {l:List Int} {x:Int} {s:St},kB n stack (l++[x]) s=(kB n stack l s).bind λs'=>lC n s' x stack
 | [],x,s=>by simp [kB]
 | y::l,x,s=>by
  simp only [List.cons_append,kB];cases lC n s y stack with
  | none=>rfl
  | some s1=>exact yB (l:=l)
theorem BN {n:Nat} {stack:List Int}:∀ {l m:List Int} {s:St},kB n stack (l++m) s=(kB n stack l s).bind λs'=>kB n stack m s'
 | [],m,s=>rfl
 | y::l,m,s=>by
  simp only [List.cons_append,kB];cases lC n s y stack with
  | none=>rfl
  | some s1=>exact BN (l:=l)
theorem AY (x:gN) (pc:Nat):(fK x pc).length<=2:=by
 unfold fK;split
 ·exact Nat.le_succ 1
 split
 ·exact Nat.le_refl _
 split
 ·exact Nat.zero_le _
 ·exact Nat.le_succ 1
theorem yC {n j:Nat} {stack l:List Int} {x:Int} {s s':St} (h1:kB n stack (l.take j) s=some s') (h2:l[j]?=some x) (h3:lC n s' x stack=none):kB n stack l s=none:=by
 have e:l=l.take j++x::l.drop (j+1):=by
  have h4:=List.getElem?_eq_some_iff.1 h2;obtain ⟨hlt,rfl⟩:=h4;rw [<- List.drop_eq_getElem_cons hlt,List.take_append_drop]
 rw [e,BN,h1];simp [kB,h3]
theorem xZ {n j:Nat} {stack l:List Int} {x:Int} {s s1 s2:St} (h1:kB n stack (l.take j) s=some s1) (h2:l[j]?=some x) (h3:lC n s1 x stack=some s2):kB n stack (l.take (j+1)) s=some s2:=by
 rw [List.take_add_one,h2];simp only [Option.toList_some];rw [yB,h1];exact h3
end Go.Tc
namespace Go.Proofs.YtgkkecladbmjkaaGreatDoor
open Tryz
open Go.Vc Go.Tc
variable {w:O} {K:Z->O->Prop}
structure Mem (g1 g2 g3 B:Nat) (w:O) (n:Nat) (st:St):Prop where
 s1:∃ vs:List Z,vs.length=n/\dW w g1 vs 42/\∀ k,k < n->∃ v,vs[k]?=some v/\w.ownsRow B 3 1 v (st.s k).length ((st.s k).map i64)
 s2:dW w g2 (st.has.map .bool) 4
 s3:dW w g3 (st.todo.map .bool) 4
 l1:st.st.length=n
 l2:st.has.length=n
 l3:st.todo.length=n
 o:(g1≠g2/\g1≠g3/\g2≠g3)/\g1 < B/\g2 < B/\g3 < B/\B<=w.heap.size
variable {g1 g2 g3 B n:Nat} {st:St}
theorem Mem.ext {w':O} (h:Mem g1 g2 g3 B w n st) (hx:aE w w'):Mem g1 g2 g3 B w' n st:=by
 obtain ⟨⟨vs,h1,h2,h3⟩,h4,h5,l1,l2,l3,o⟩:=h;refine ⟨⟨vs,h1,h2.ext hx,λk hk=>?_⟩,h4.ext hx,h5.ext hx,l1,l2,l3,o.1,o.2.1,o.2.2.1,o.2.2.2.1,Nat.le_trans o.2.2.2.2 hx.size⟩;obtain ⟨v,hv,ho⟩:=h3 k hk;exact ⟨v,hv,hx.own ho⟩
theorem kN {g j:Nat} {u v:Z} {xs:List Z} {e sz m:Nat} (ho:w.ownsRow B e sz v m xs) (hg:g < B):(w.setCell ⟨g,j,none⟩ u).ownsRow B e sz v m xs:=
 (Fr.of_set (S:=λi=>i=g) rfl).own ho λk hk he=>by have:=(ho.lt k hk).1;omega
theorem Mem.setT (h:Mem g1 g2 g3 B w n st) (k:Nat) (b:Bool):Mem g1 g2 g3 B (w.setCell ⟨g3,k,none⟩ (.bool b)) n { st with todo:=st.todo.set k b }:=by
 obtain ⟨⟨vs,h1,h2,h3⟩,h4,h5,l1,l2,l3,o⟩:=h;refine ⟨⟨vs,h1,h2.other (by omega),λq hq=>?_⟩,h4.other (by omega),?_,l1,l2,by simpa using l3,o.1,o.2.1,o.2.2.1,o.2.2.2.1,by simpa using o.2.2.2.2⟩
 ·obtain ⟨v,hv,ho⟩:=h3 q hq;exact ⟨v,hv,kN ho o.2.2.2.1⟩
 ·have:=h5.set k (.bool b)
  rwa [<- List.map_set] at this
theorem Mem.setH (h:Mem g1 g2 g3 B w n st) (k:Nat) (b:Bool):Mem g1 g2 g3 B (w.setCell ⟨g2,k,none⟩ (.bool b)) n { st with has:=st.has.set k b }:=by
 obtain ⟨⟨vs,h1,h2,h3⟩,h4,h5,l1,l2,l3,o⟩:=h;refine ⟨⟨vs,h1,h2.other (by omega),λq hq=>?_⟩,?_,h5.other (by omega),l1,by simpa using l2,l3,o.1,o.2.1,o.2.2.1,o.2.2.2.1,by simpa using o.2.2.2.2⟩
 ·obtain ⟨v,hv,ho⟩:=h3 q hq;exact ⟨v,hv,kN ho o.2.2.1⟩
 ·have:=h4.set k (.bool b)
  rwa [<- List.map_set] at this
theorem Mem.setS (h:Mem g1 g2 g3 B w n st) {k:Nat} {v:Z} {s:List Int} (hv:w.ownsRow B 3 1 v s.length (s.map i64)) (hk:k < n):Mem g1 g2 g3 B (w.setCell ⟨g1,k,none⟩ v) n { st with st:=st.st.set k s }:=by
 obtain ⟨⟨vs,h1,h2,h3⟩,h4,h5,l1,l2,l3,o⟩:=h;refine ⟨⟨vs.set k v,by simpa using h1,h2.set k v,λq hq=>?_⟩,h4.other (by omega),h5.other (by omega),by simpa using l1,l2,l3,o.1,o.2.1,o.2.2.1,o.2.2.2.1,by simpa using o.2.2.2.2⟩
 have e:St.s { st with st:=st.st.set k s } q=if q=k then s else st.s q:=by
  simp only [St.s,jI];by_cases hqk:q=k
  ·rw [if_pos ⟨hqk,by omega⟩,if_pos hqk]
  ·rw [if_neg (λh=>hqk h.1),if_neg hqk]
 rw [e];by_cases hqk:q=k
 ·subst hqk;rw [if_pos rfl];exact ⟨v,by rw [List.getElem?_set_self (by omega)],kN hv o.2.1⟩
 ·rw [if_neg hqk];obtain ⟨u,hu,ho⟩:=h3 q hq;exact ⟨u,by rw [List.getElem?_set_ne (λe=>hqk e.symm)];exact hu,kN ho o.2.1⟩
theorem BO {l:List Bool} {j:Nat} (h:j < l.length):(l.map Value.bool)[(j:Int).toNat]?=some (.bool (l.getD j false)):=by
 simp [List.getD_eq_getElem?_getD,h]
theorem Mem.hs (h:Mem g1 g2 g3 B w n st) (hn:n<=1000):aA w (.slice (some ⟨g2,0,none⟩) n n) 1 n (st.has.map .bool):=h.s2.slice (by simpa using h.l2) (by unfold maxLen;omega)
theorem Mem.ts (h:Mem g1 g2 g3 B w n st) (hn:n<=1000):aA w (.slice (some ⟨g3,0,none⟩) n n) 1 n (st.todo.map .bool):=h.s3.slice (by simpa using h.l3) (by unfold maxLen;omega)
theorem Mem.ss (h:Mem g1 g2 g3 B w n st) (hn:n<=1000) {k:Nat} (hk:k < n):∃ vs v,aA w (.slice (some ⟨g1,0,none⟩) n n) 1 n vs/\vs[(k:Int).toNat]?=some v/\w.ownsRow B 3 1 v (st.s k).length ((st.s k).map i64):=by
 obtain ⟨vs,h1,h2,h3⟩:=h.s1;obtain ⟨v,hv,ho⟩:=h3 k hk;exact ⟨vs,v,h2.slice h1 (by unfold maxLen;omega),by simpa using hv,ho⟩
def nY (w:O) (v:Z) (l:List (List Int)):Prop:=∃ vs,aA w v 1 l.length vs/\∀ k,k < l.length->∃ u,vs[k]?=some u/\aQ w u (l.getD k [])
theorem nY.ext {w':O} {v:Z} {l:List (List Int)} (h:nY w v l) (hx:aE w w'):nY w' v l:=by
 obtain ⟨vs,h1,h2⟩:=h;refine ⟨vs,h1.ext hx,λk hk=>?_⟩;obtain ⟨u,h3,h4⟩:=h2 k hk;exact ⟨u,h3,h4.ext hx⟩
theorem Mem.states (h:Mem g1 g2 g3 B w n st) (hn:n<=1000):nY w (.slice (some ⟨g1,0,none⟩) n n) st.st:=by
 obtain ⟨vs,h1,h2,h3⟩:=h.s1;refine ⟨vs,by rw [h.l1];exact h2.slice h1 (by unfold maxLen;omega),λk hk=>?_⟩;obtain ⟨v,hv,ho⟩:=h3 k (by rw [<- h.l1];exact hk);exact ⟨v,hv,aA.of_own ho⟩
theorem Mem.bools (h:Mem g1 g2 g3 B w n st) (hn:n<=1000):pE w (.slice (some ⟨g2,0,none⟩) n n) st.has:=by
 unfold pE;rw [h.l2];exact h.hs hn
theorem yI {S:O->Prop} {L:Z->Prop} {v:Z} {l:List gN} {i:Nat} {x:gN} (hs:lG w v l) (hx:∀ w',S w'->aE w w') (hi:l[i]?=some x) (hk:L (.agg #[i64 x.op,i64 x.a,i64 x.b])):aC prog S (Instr.indexAt 71 v (i64 i)) λp=>aC prog S (Instr.loadAt 70 p) L:=by
 have hlt:i < l.length:=(List.getElem?_eq_some_iff.1 hi).1;obtain ⟨e,z,b',hte,hinf⟩:=iZ;obtain ⟨d,z',by_,h2,h3,h4⟩:=gU;obtain ⟨b,off,cap,rfl,hcell⟩:=aA.there hs (by omega);refine aC.ok (λw' _=>iG hte hinf (by omega) (by omega)) (aC.ok (λw' hw=>kZ (cs:=[i64 x.op,i64 x.a,i64 x.b]) h2 h3 h4 rfl λj hj=>?_) hk);have hrow:=oD hi;obtain ⟨u,hu⟩:∃ u,([i64 x.op,i64 x.a,i64 x.b]:List Z)[j]?=some u:=⟨_,List.getElem?_eq_getElem hj⟩;rw [hu,Nat.add_assoc];refine (hx w' hw).cell (hcell _ u ?_);rw [<- hrow,List.getElem?_take,List.getElem?_drop] at hu;split at hu
 ·simpa using hu
 ·cases hu
theorem oX {m:gA} {k:Nat} (h:k < m.code.length):m.code[k]?=some (m.ins k):=by
 unfold gA.ins;rw [List.getD_eq_getElem?_getD,List.getElem?_eq_getElem h];rfl
theorem aJz {p:fZ} {i:dN} {k:Nat} (h:gZ w p i) (ir:i.right) (hk:k < i.methods.length)
  (yes:∀ st sv hv w',lK i (i.meth k) (some st)->nY w' sv st.st->pE w' hv st.has->aE w w'->K (.tuple #[sv,hv,i64 0,i64 0]) w')
  (no:∀ pc e w',lK i (i.meth k) none->e≠0->aE w w'->K (.tuple #[cM,cM,i64 pc,i64 e]) w') :
  aB prog 72 #[p.val i,i64 k] w K:=by
 have hm:=iI (i:=i) (a:=(k:Int)) (by omega) (by omega);rw [Int.toNat_natCast] at hm;have mr:(i.meth k).right:=ir.2.2.1.2.1 _ (List.mem_of_getElem? hm);generalize i.meth k=m at hm mr yes no;have hn1:=mr.2.2.2.1.1;have hn2:=mr.2.2.2.1.2;apply aOn;unfold RI fZ.val;refine bx λb1 w1 hb1 x1=>?_;refine bQ hb1 bF fS rfl ?_;refine XP iA lV (h.ext x1).mt hm oI λrow hrow=>?_;have hrow0:=hrow;obtain ⟨pv,lv,cv,rfl,hp,hl,hc⟩:=hrow;obtain ⟨pa,pc,rfl⟩:=hp.shape;obtain ⟨la,lc,rfl⟩:=hl.shape;obtain ⟨ca,cc,rfl⟩:=aA.shape hc;refine pX AE rfl rfl λb2 w2 hb2 x2=>?_;have hb2:fB w2 b2 [.slice pa m.params.length pc,i64 m.result,.slice la m.locals.length lc,.slice ca m.code.length cc]:=hb2;have hc:=hc.ext x2;have hrow0:=hrow0.ext x2;have x12:=x1.trans x2;have h2:=h.ext x12;have hb1:=hb1.ext x2;refine ⟨λv w'=>∃ j:Nat,v=i64 j/\j<=m.code.length/\aE w2 w'/\∀ x∈m.code.take j,fI i m x,λv _=>m.code.length - (RowKit.intOf v).toNat,⟨0,rfl,Nat.zero_le _,aE.refl _,λ_ h=>by simp at h⟩,?_⟩;rintro _ w3 ⟨j,rfl,hj,x3,hnm⟩ _;refine bQ (hb2.ext x3) dU fT rfl (hU iZ (hc.ext x3) (bP.2 (aK (λhlt=>?_) λhge=>?_)))
 ·have hj':j < m.code.length:=by omega
  have hx:=oX hj';have hxm:=List.mem_of_getElem? hx;have D1:aE w3 w3.drew:=(aE.refl _).drew;have xd:=x3.trans D1;refine aJ.mk' (λw'=>aE w2 w') xd ?_;refine yA (λw' hw=>hb1.ext hw) kF rfl ?_;refine yA (λw' hw=>hb2.ext hw) lV rfl ?_;refine gY (λw' hw=>hb2.ext hw) dU fT rfl ?_;refine yI hc (λ_ h=>h) hx ?_;refine (aCb (h2.ext xd) (hrow0.ext xd) mr (mr.2.2.2.2 _ hxm)).mono λv w4 ⟨b,hv,hb,x4⟩=>?_;subst hv;refine ⟨xd.trans x4,aC.ok (λw' _=>uU) ?_⟩;cases b with
  | false=>simp only [aN];exact no _ 9 _ (.inl ⟨⟨_,hxm,λh=>by have:=hb.2 h;cases this⟩,rfl⟩) (by decide) ((x12.trans xd).trans x4)
  | true=>
   simp only [aN];refine mJ (by omega) ?_;refine ⟨⟨j+1,rfl,by omega,xd.trans x4,λy hy=>?_⟩,by simp only [aW];omega⟩;rw [List.take_add_one,hx] at hy;rcases List.mem_append.1 hy with hy|hy
   ·exact hnm y hy
   ·simp at hy;subst hy;exact hb.1 rfl
 have hjl:j=m.code.length:=by omega
 subst hjl;rw [List.take_length] at hnm;have hox:∀ x∈m.code,rT i m x:=λx hx=>⟨ir,mr,mr.2.2.2.2 x hx,hnm x hx⟩;refine bQ (hb2.ext x3) dU fT rfl (hU iZ (hc.ext x3) ?_);refine mkB underlying116 jM rfl (by omega) (by omega) λw4 hB1 x4 z4=>?_;have x34:=x3.trans x4;refine bQ (hb2.ext x34) dU fT rfl (hU iZ (hc.ext x34) ?_);refine mkB underlying117 mP rfl (by omega) (by omega) λw5 hB2 x5 z5=>?_;have x35:=x34.trans x5;refine bQ (hb2.ext x35) dU fT rfl (hU iZ (hc.ext x35) ?_);refine mkB underlying117 mP rfl (by omega) (by omega) λw6 hB3 x6 z6=>?_;have x36:=x35.trans x6
 have hmem:Mem w3.heap.size w4.heap.size w5.heap.size w6.heap.size w6 m.code.length (St.ini m.code.length):=by
  refine ⟨⟨_,by simp,(hB1.ext x5).ext x6,λq hq=>⟨.slice none 0 0,by simp [hq],?_⟩⟩,?_,?_,by simp [St.ini],by simp [St.ini],by simp [St.ini],by omega,by omega,by omega,by omega,Nat.le_refl _⟩
  ·have:(St.ini m.code.length).s q=[]:=by simp [St.ini,St.s,List.getD_eq_getElem?_getD,hq]
   rw [this];exact World.ownsRow_nil _ _ _ _
  ·have:(St.ini m.code.length).has.map Value.bool=List.replicate m.code.length (.bool false):=by simp [St.ini]
   rw [this];exact hB2.ext x6
  ·have:(St.ini m.code.length).todo.map Value.bool=List.replicate m.code.length (.bool false):=by simp [St.ini]
   rw [this];exact hB3
 have hg1:w3.heap.size < w6.heap.size:=by omega
 have hw2:w2.heap.size<=w3.heap.size:=x3.size;have hw3:w3.heap.size+1=w4.heap.size:=by omega
 have hw4:w4.heap.size+1=w5.heap.size:=by omega
 generalize w3.heap.size=g1 at hmem hg1 hw2 hw3;generalize w4.heap.size=g2 at hmem hw3 hw4;generalize w5.heap.size=g3 at hmem hw4;generalize w6.heap.size=B at hmem hg1;refine stB jV mP hmem.s2 (n:=m.code.length) (by simp [St.ini]) (by omega) (by omega) rfl ?_;simp only [show (0:Int).toNat=0 from rfl];have hmem:=hmem.setH 0 true;refine stB jV mP hmem.s3 (n:=m.code.length) (by simp [St.ini]) (by omega) (by omega) rfl ?_;simp only [show (0:Int).toNat=0 from rfl];have hmem:=hmem.setT 0 true;have x38:=(x36.setCell (b:=g2) (o:=0) (by omega) (.bool true)).setCell (b:=g3) (o:=0) (by omega) (.bool true)
 have efirst:({ St.ini m.code.length with has:=(St.ini m.code.length).has.set 0 true,todo:=(St.ini m.code.length).todo.set 0 true }:St)=St.first m.code.length:=by
  simp only [St.ini,St.first,St.mk.injEq,and_true];apply List.ext_getElem?;intro q;by_cases e:q=0
  ·subst e;simp [List.getElem?_replicate]
  ·simp []
 have hmem:Mem g1 g2 g3 B _ m.code.length (St.first m.code.length):=efirst▸hmem;obtain ⟨wf0,inv0⟩:=tQ (i:=i) hn1;generalize ((w6.setCell ⟨g2,0,none⟩ (.bool true)).setCell ⟨g3,0,none⟩ (.bool true))=w8 at hmem x38;have hn:m.code.length<=1000:=by omega
 generalize hnn:m.code.length=n at *;refine ⟨λw'=>∃ st,(Mem g1 g2 g3 B w' n st/\aE w2 w'/\WF m st/\OJ i m st/\∀ r,mA i m st r->mA i m (St.first n) r),λw'=>mu λq=>∃ st,(Mem g1 g2 g3 B w' n st/\aE w2 w'/\WF m st/\OJ i m st/\∀ r,mA i m st r->mA i m (St.first n) r)/\msr n st=q,⟨_,hmem,x38,wf0,inv0,λ_ h=>h⟩,?_⟩;rintro w9 ⟨st0,hst0⟩ _;obtain ⟨st,⟨hM,x9,wf,inv,hR⟩,hmu⟩:=tJ (p:=λq=>∃ st,(Mem g1 g2 g3 B w9 n st/\aE w2 w9/\WF m st/\OJ i m st/\∀ r,mA i m st r->mA i m (St.first n) r)/\msr n st=q) ⟨_,_,hst0,rfl⟩;clear hst0 st0;refine ⟨λv w'=>∃ q:Nat,v=i64 q/\q<=n/\w'=w9/\∀ j,j < q->st.t j=false,λv _=>n - (RowKit.intOf v).toNat,⟨0,rfl,Nat.zero_le _,rfl,λ_ h=>absurd h (Nat.not_lt_zero _)⟩,?_⟩;rintro _ w9' ⟨q,rfl,hq,hw9,hno⟩ _;have hw9:=hw9.symm;subst hw9;have hWk:∀ {r},mA i m st r->lK i m r:=λ{r} hr=>.inr ⟨hnm,by rw [hnn];exact hR r hr⟩;refine hU jV (hM.ts hn) (bP.2 ?_);by_cases hqn:(q:Int) < (n:Int)
 case neg=>
  have hqe:(q:Int)=(n:Int):=by omega
  simp only [hqn,aN];refine hU jV (hM.ts hn) (aO.2 ?_);simp only [hqe,aN];exact yes st _ _ _ (hWk (.done (sN λj hj=>hno j (by rw [hM.l3] at hj;omega)))) (hM.states hn) (hM.bools hn) (x12.trans x9)
 have hqn':q < n:=by omega
 simp only [hqn,aN];refine kP jV jZ (hM.ts hn) (by omega) (by omega) (BO (by rw [hM.l3];exact hqn')) (gG.2 ?_);have ett:st.todo.getD q false=st.t q:=rfl;rw [ett];cases htq:st.t q with
 | false=>
  simp only [aN];refine mJ (by omega) ?_;refine ⟨⟨q+1,rfl,by omega,rfl,λj hj=>?_⟩,by simp only [aW];omega⟩;by_cases hjq:j=q
  ·rw [hjq];exact htq
  ·exact hno j (by omega)
 | true=>
 simp only [aN];refine hU jV (hM.ts hn) (aO.2 ?_);have hne:¬ ((q:Int)=(n:Int)):=by omega
 simp only [hne,aN];have hfirst:kU st.todo=some q:=uK htq λj hj=>hno j hj
 have hhq:st.h q=true:=by
  cases e:st.h q with
  | true=>rfl
  | false=>have:=(wf.no q e).2;rw [htq] at this;cases this
 obtain ⟨hkd,hl8⟩:=wf.kd q hhq;have hxq:=oX (m:=m) (k:=q) (by omega);have ox:=hox _ (List.mem_of_getElem? hxq);refine stB jV mP hM.s3 (n:=n) (by simpa using hM.l3) (by omega) (by omega) rfl ?_;rw [Int.toNat_natCast];have hM1:=hM.setT q false;have x10:=x9.setCell (b:=g3) (o:=q) (by omega) (.bool false);generalize w9.setCell ⟨g3,q,none⟩ (.bool false)=w10 at hM1 x10;have estep:oR i m st q=(tS i m (m.ins q) (st.s q)).bind λstack=>kB n stack (fK (m.ins q) q) { st with todo:=st.todo.set q false }:=by unfold oR;rw [hnn]
 generalize hst1:({ st with todo:=st.todo.set q false }:St)=st1 at hM1 estep;have es1:st1.s q=st.s q:=by rw [<- hst1];rfl
 obtain ⟨vs,v,hvs,hv,hov⟩:=hM1.ss hn hqn';rw [es1] at hov;have D1:aE w10 w10.drew:=(aE.refl _).drew;have xd:=x10.trans D1;refine aJ.mk' (λw'=>aE w10 w') D1 ?_;refine yA (λw' hw=>hb1.ext (x10.trans hw)) kF rfl ?_;refine yA (λw' hw=>hb2.ext (x10.trans hw)) lV rfl ?_;refine gY (λw' hw=>hb2.ext (x10.trans hw)) dU fT rfl ?_;have hcn:lG w2 (.slice ca n cc) m.code:=hc;refine yI hcn (λ_ h=>x10.trans h) hxq ?_;refine lT kQ bJ hvs (λ_ h=>h) (by omega) (by omega) hv ?_;refine aMp (h2.ext xd) (hrow0.ext xd) ox (aA.of_own (D1.own hov)) hkd hl8 (λout v2 w11 hdo ho2 x11=>?_) λe w11 hdo hne x11=>?_
 case refine_2=>
  refine ⟨D1.trans x11,aC.ok (λw' _=>lS) (aC.ok (λw' _=>lR) (dZ.2 ?_))⟩;simp only [hne,aN];refine no q e _ (hWk (.fail hfirst ?_)) hne ((x12.trans xd).trans x11);rw [estep,hdo];rfl
 refine ⟨D1.trans x11,aC.ok (λw' _=>lS) (aC.ok (λw' _=>lR) (dZ.2 ?_))⟩;simp only [aN];obtain ⟨od1,od2,_,_⟩:=uL ox hkd hdo;rw [hdo] at estep;have estep:oR i m st q=kB n out (fK (m.ins q) q) st1:=estep;have xd11:=D1.trans x11;have hM2:=hM1.ext xd11;have x11':=x10.trans xd11;have ho2:=aX ho2 (B':=B) (Nat.le_trans hM1.o.2.2.2.2 D1.size);refine bQ (hb2.ext x11') dU fT rfl ?_;refine ldI (hcn.ext x11') hxq ?_;refine SJ (x:=m.ins q) (pc:=q) (by omega) λtv w12 hot x12'=>?_;have ht0:=xK ox (pc:=q);have hLl:(fK (m.ins q) q).length<=2:=AY _ _;generalize fK (m.ins q) q=L at hot ht0 estep hLl;have hM3:=hM2.ext x12';have hot:=aX hot (B':=B) hM2.o.2.2.2.2;have ho3:=x12'.own ho2;have x13:=x11'.trans x12'
 have wf1:WF m st1:=by
  rw [<- hst1];refine ⟨wf.l1,wf.l2,by simpa using wf.l3,wf.kd,λk hk=>⟨(wf.no k hk).1,?_⟩⟩;simp only [St.t,jI];split
  ·rfl
  ·exact (wf.no k hk).2
 have fail:∀ {j to st' w'} (pc e:Int),kB n out (L.take j) st1=some st'->L[j]?=some to->lC n st' to out=none->e≠0->aE w2 w'->K (.tuple #[cM,cM,i64 pc,i64 e]) w':=by
  intro j to st' w' pc e h1 h2 h3 h4 h5;exact no pc e _ (hWk (.fail hfirst (by rw [estep];exact yC h1 h2 h3))) h4 (x12.trans h5)
 refine ⟨λv w'=>∃ (j:Nat) (st':St),v=i64 j/\j<=L.length/\aE w2 w'/\Mem g1 g2 g3 B w' n st'/\kB n out (L.take j) st1=some st'/\w'.ownsRow B 3 1 tv L.length (L.map i64)/\w'.ownsRow B 3 1 v2 out.length (out.map i64),λv _=>L.length - (RowKit.intOf v).toNat,⟨0,st1,rfl,Nat.zero_le _,x13,hM3,rfl,hot,ho3⟩,?_⟩;rintro _ w13 ⟨j,st',rfl,hj,xx,hM4,hgo,hot4,ho4⟩ _;refine hU aM (aA.of_own hot4) (bP.2 (aK (λhlt=>?_) λhge=>?_))
 case refine_2=>
  have hjL:j=L.length:=by omega
  subst hjL;rw [List.take_length] at hgo;have es:oR i m st q=some st':=by rw [estep];exact hgo
  obtain ⟨s1,s2,s3⟩:=sY hox wf inv hfirst es;have hI:Mem g1 g2 g3 B w13 n st'/\aE w2 w13/\WF m st'/\OJ i m st'/\∀ r,mA i m st' r->mA i m (St.first n) r:=⟨hM4,xx,s1,s2,λr hr=>hR r (.go hfirst es hr)⟩;rw [hnn] at s3;exact ⟨⟨st',hI⟩,Nat.lt_of_le_of_lt (FT ⟨st',hI,rfl⟩) (Nat.lt_of_lt_of_eq s3 hmu)⟩
 obtain ⟨to,hto⟩:=fQ (l:=L) (j:=j) (by omega);have hto0:=ht0 to (List.mem_of_getElem? hto);refine TP aM aF hot4 (by omega) (by omega) (fD hto) ?_;refine bQ (hb2.ext xx) dU fT rfl ?_;refine hU iZ (hc.ext xx) (jU.2 (aK (λhbig=>?_) λhsm=>?_))
 ·rw [hnn] at hbig;exact fail _ 13 hgo hto (by unfold lC;rw [if_pos (by omega)]) (by decide) xx
 rw [hnn] at hsm;obtain ⟨t,rfl⟩:∃ t:Nat,to=t:=⟨to.toNat,by omega⟩;have htn:t < n:=by omega
 have wf':WF m st':=(oZ od1 od2 wf1 (λto ht=>ht0 to (List.mem_of_mem_take ht)) (by rw [hnn];exact hgo)).1
 have next:∀ {w' st''},aE w2 w'->Mem g1 g2 g3 B w' n st''->lC n st' t out=some st''->w'.ownsRow B 3 1 tv L.length (L.map i64)->w'.ownsRow B 3 1 v2 out.length (out.map i64)->V prog (binOp .add 3 (i64 j) (i64 1)) w' λt2 w'=>
   (∃ (j:Nat) (st':St),t2=i64 j/\j<=L.length/\aE w2 w'/\Mem g1 g2 g3 B w' n st'/\kB n out (L.take j) st1=some st'/\w'.ownsRow B 3 1 tv L.length (L.map i64)/\w'.ownsRow B 3 1 v2 out.length (out.map i64))/\L.length - (RowKit.intOf t2).toNat < L.length - (RowKit.intOf (i64 (j:Int))).toNat:=by
  intro w' st'' h1 h2 h3 h4 h5;refine mJ (by omega) ?_;exact ⟨⟨j+1,st'',rfl,by omega,h1,h2,xZ hgo hto h3,h4,h5⟩,by simp only [aW];omega⟩
 refine kP jV jZ (hM4.hs hn) (by omega) (by omega) (BO (by rw [hM4.l2];exact htn)) (gG.2 ?_);have ehh:st'.has.getD t false=st'.h t:=rfl;rw [ehh]
 have hgG:∀ {r},(if st'.h t then (jB (st'.s t) out).bind λj=>if j=st'.s t then some st' else some { st' with st:=st'.st.set t j,todo:=st'.todo.set t true } else some ⟨st'.st.set t out,st'.has.set t true,st'.todo.set t true⟩)=r->lC n st' t out=r:=by
  rintro _ rfl;unfold lC;rw [if_neg (by omega)];simp only [Int.toNat_natCast]
 have hlo1:w2.heap.size<=g1:=hw2;have hlo2:w2.heap.size<=g2:=by omega
 have hlo3:w2.heap.size<=g3:=by omega
 have hBo:=hM4.o;cases hht:st'.h t with
 | false=>
  simp only [aN];obtain ⟨vs4,q1,q2,q3⟩:=hM4.s1
  refine stB kQ jM q2 (n:=n) q1 (by omega) (by omega) (by
   rcases ho4.2 with ⟨rfl,_⟩|⟨_,_,_,rfl,_⟩<;>rfl) ?_
  rw [Int.toNat_natCast];have hM5:=hM4.setS ho4 htn;refine stB jV mP hM5.s2 (n:=n) (by simpa using hM5.l2) (by omega) (by omega) rfl ?_;rw [Int.toNat_natCast];have hM6:=hM5.setH t true;refine stB jV mP hM6.s3 (n:=n) (by simpa using hM6.l3) (by omega) (by omega) rfl ?_;rw [Int.toNat_natCast];have hM7:=hM6.setT t true;refine next (((xx.setCell hlo1 _).setCell hlo2 _).setCell hlo3 _) hM7 (hgG (by rw [hht];rfl)) ?_ ?_
  ·exact kN (kN (kN hot4 hBo.2.1) hBo.2.2.1) hBo.2.2.2.1
  ·exact kN (kN (kN ho4 hBo.2.1) hBo.2.2.1) hBo.2.2.2.1
 | true=>
  simp only [aN];obtain ⟨hkt,hlt8⟩:=wf'.kd t hht;obtain ⟨vs5,v5,hvs5,hv5,hov5⟩:=hM4.ss hn htn;refine kP kQ bJ hvs5 (by omega) (by omega) hv5 ?_;refine UM (aA.of_own hov5) (aA.of_own ho4) hkt od1 (by omega) (λjo v6 w14 hjo ho6 x14=>?_) λw14 hjo x14=>?_
  case refine_2=>
   refine gM.2 (gL.2 (gG.2 ?_));simp only [aN];exact fail _ 14 hgo hto (hgG (by rw [hht,hjo];rfl)) (by decide) (xx.trans x14)
  refine gM.2 (gL.2 (gG.2 ?_));simp only [aN];have hM5:=hM4.ext x14;obtain ⟨vs7,v7,hvs7,hv7,hov7⟩:=hM5.ss hn htn;refine kP kQ bJ hvs7 (by omega) (by omega) hv7 ?_;refine ME (aA.of_own ho6) (aA.of_own hov7) λw15 x15=>gG.2 ?_;have hM6:=hM5.ext x15;have xx15:=(xx.trans x14).trans x15;have hot6:=(x14.trans x15).own hot4;have ho46:=(x14.trans x15).own ho4;have ho6:=aX (x15.own ho6) (B':=B) hBo.2.2.2.2;by_cases hje:jo=st'.s t
  ·simp only [hje,aN];exact next xx15 hM6 (hgG (by rw [hht,hjo];simp [hje])) hot6 ho46
  ·simp only [hje,aN];obtain ⟨vs8,q1,q2,q3⟩:=hM6.s1
   refine stB kQ jM q2 (n:=n) q1 (by omega) (by omega) (by
    rcases ho6.2 with ⟨rfl,_⟩|⟨_,_,_,rfl,_⟩<;>rfl) ?_
   rw [Int.toNat_natCast];have hM7:=hM6.setS ho6 htn;refine stB jV mP hM7.s3 (n:=n) (by simpa using hM7.l3) (by omega) (by omega) rfl ?_;rw [Int.toNat_natCast];have hM8:=hM7.setT t true;refine next ((xx15.setCell hlo1 _).setCell hlo3 _) hM8 (hgG (by rw [hht,hjo];simp [hje])) ?_ ?_
   ·exact kN (kN hot6 hBo.2.1) hBo.2.2.2.1
   ·exact kN (kN ho46 hBo.2.1) hBo.2.2.2.1
theorem sW {p:fZ} {i:dN} (h:gZ w p i) (hn:jL w i) (hk:∀ a b e w',(e=0↔lL i)->aE w w'->K (.tuple #[.agg #[i64 a,i64 b],i64 e]) w'):aB prog 31 #[p.val i] w K:=by
 apply aPc;unfold RU fZ.val;refine bx λb1 w1 hb1 x1=>?_;refine alK vC λw2 hB2 x2=>?_;have x12:=x1.trans x2;have hg:w.heap.size<=w1.heap.size:=x1.size;have hb1:=hb1.ext x2;generalize w1.heap.size=g at hB2 hg;have hB2:dW w2 g [i64 0,i64 0] 76:=hB2;refine lF hb1 kF rfl ?_;refine (aBb (h.ext x12) (hn.ext x12)).mono λv w3 ⟨b,hv,hb,x3⟩=>?_;subst hv;have x13:=x12.trans x3
 have fin:∀ {w':O} {a b e:Int},dW w' g [i64 0,i64 0] 76->aE w w'->(e=0↔lL i)->U prog (Instr.storeAt 76 (.pointer (some ⟨g,0,none⟩)) (.agg #[i64 a,i64 b])) w' λ_ w7=>
   ∃ r1,(loadVar 76 (match (Value.pointer (some ⟨g,0,none⟩)) with|.pointer (some p)=>p|_=>⟨0,0,none⟩)).run prog w7=.ok r1 w7/\(∃ p,(Value.pointer (some ⟨g,0,none⟩))=Value.pointer (some p))/\K (.tuple #[r1,i64 e]) w7:=by
  intro w' a b e hB hx he;refine stA vC hB (l:=[i64 a,i64 b]) rfl rfl rfl rfl λw7 hB7 hc=>?_;exact ⟨_,xC underlying76 rfl vC hB7 rfl,⟨_,rfl⟩,hk a b e _ he (hc.ext _ hx hg)⟩
 cases b with
 | false=>
  simp only [aN];refine kO BT [] rfl rfl ?_;exact fin (hB2.ext x3) x13 ⟨λh=>(by cases h),λh=>by have:=hb.2 h.1;cases this⟩
 | true=>
 simp only [aN];have ir:=hb.1 rfl;have hm8:=ir.2.2.1.1.2;refine ⟨λv w'=>∃ j:Nat,v=i64 j/\j<=i.methods.length/\aE w2 w'/\∀ q,q < j->∃ st,lK i (i.meth q) (some st),λv _=>i.methods.length - (RowKit.intOf v).toNat,⟨0,rfl,Nat.zero_le _,x3,λ_ h=>absurd h (Nat.not_lt_zero _)⟩,?_⟩;rintro _ w4 ⟨j,rfl,hj,x4,hall⟩ _;refine bQ (hb1.ext x4) bF fS rfl (vS iA ((h.ext x12).ext x4).mt (bP.2 (aK (λhlt=>?_) λhge=>?_)))
 ·refine lF (hb1.ext x4) kF rfl ?_;refine aJz ((h.ext x12).ext x4) ir (by omega) (λst sv hv w5 hw _ _ x5=>?_) λpc e w5 hw hne x5=>?_
  ·refine QV.2 (QU.2 (QT.2 (QS.2 (dZ.2 ?_))));simp only [aN];refine mJ (by omega) ?_;refine ⟨⟨j+1,rfl,by omega,x4.trans x5,λq hq=>?_⟩,by simp only [aW];omega⟩;by_cases hqj:q=j
   ·subst hqj;exact ⟨st,hw⟩
   ·exact hall q (by omega)
  ·refine QV.2 (QU.2 (QT.2 (QS.2 (dZ.2 ?_))));simp only [hne,aN];refine kO BT [(0,i64 j),(1,i64 pc)] rfl rfl ?_;refine fin (hB2.ext (x4.trans x5)) ((x12.trans x4).trans x5) ⟨λh=>absurd h hne,λht=>?_⟩;have hmm:=iI (i:=i) (a:=(j:Int)) (by omega) (by omega);obtain ⟨s,hs⟩:=ht.2 _ (List.mem_of_getElem? hmm);have:=hs.det hw;cases this
 ·have hjl:j=i.methods.length:=by omega
  subst hjl;refine kO BT [] rfl rfl ?_;refine fin (hB2.ext x4) (x12.trans x4) ⟨λ_=>⟨ir,λm hm=>?_⟩,λ_=>rfl⟩;obtain ⟨q,hq⟩:=List.getElem?_of_mem hm;have hlt:=(List.getElem?_eq_some_iff.1 hq).1;have hmm:=iI (i:=i) (a:=(q:Int)) (by omega) (by omega);rw [Int.toNat_natCast,hq] at hmm;cases hmm;exact hall q hlt
end Go.Proofs.YtgkkecladbmjkaaGreatDoor
namespace Go.Vc
section
variable {P:Program} {w:O} {K:Z->O->Prop}
theorem FC {t ty e:TypeId} (ht:P.underlying t=some (.slice e)):(Builtin.cap_ #[t] ty #[.slice none 0 0]).run P w=.ok (i64 0) w:=by
 simp [Builtin.cap_,run_underlying ht,goInt]
theorem AV {B e sz n a:Nat} {g cap:Nat} {xs:List Z} (h:w.ownsRow B e sz (.slice (some ⟨g,0,none⟩) n cap) n xs) (ha:a<=n):w.ownsRow B e sz (.slice (some ⟨g,0,none⟩) a cap) a (xs.take (a*sz)):=by
 obtain ⟨hl,h⟩:=h;rcases h with ⟨he,_⟩|⟨g',cap',cur,he,h1,h2,h3,h4,h5,h6⟩
 ·cases he
 ·cases he;have hle:a*sz<=n*sz:=Nat.mul_le_mul_right _ ha;refine ⟨by simp;omega,.inr ⟨g,cap,cur,rfl,h1,h2,by omega,h4,h5,?_⟩⟩;rw [<- h6,List.take_take,Nat.min_eq_left hle]
theorem aUc {t tn ty e:TypeId} {z:Z} {by_:Nat} {kn:IntKind} (ht:P.underlying t=some (.slice e)) (htn:P.underlying tn=some (.int kn)) (hi:fH P e z 1 by_) (hz:z.cells=#[z]) {n:Nat} (h0:0 < n) (h63:n<=maxLen) (hb:n*by_<=281474976710656)
  (hk:∀ g cap w',w'.ownsRow w.heap.size e 1 (.slice (some ⟨g,0,none⟩) n cap) n (List.replicate n z)->aE w w'->K (.slice (some ⟨g,0,none⟩) n cap) w'):V P (Builtin.append_ #[t,tn] ty #[.slice none 0 0,i64 n]) w K:=by
 obtain ⟨i,hi',hz',hn,hby⟩:=info_parts hi;have hr:=Go.Lib.run_append_nil_zeros (P:=P) w t tn ty e i z .i64 kn ht htn hi' hz' n h0 (by omega) (by unfold maxLen at h63;omega) (by rw [hby];exact hb);have hge:=grownCap_ge w n 0 e;have hle:=grownCap_le_maxLen w n 0 e h63;generalize grownCap w n 0 e=cap at hr hge hle;refine V.ok hr (hk _ _ _ ?_ (((aE.refl w).drew).alloc _))
 have e1:(Builtin.zeroCells z.cells n++Builtin.zeroCells z.cells (cap - n)).toList=List.replicate cap z:=by
  rw [hz]
  have:∀ k,(Builtin.zeroCells #[z] k).toList=List.replicate k z:=λk=>List.eq_replicate_iff.2 ⟨by simp [Builtin.zeroCells],λb hb=>by
   simp only [Builtin.zeroCells,Array.toList_map,List.mem_map] at hb;obtain ⟨q,_,rfl⟩:=hb;simp [Nat.mod_one]⟩
  rw [Array.toList_append,this,this,List.replicate_append_replicate]
  congr 1;omega
 have e2:(Builtin.zeroCells z.cells n++Builtin.zeroCells z.cells (cap - n))=(List.replicate cap z).toArray:=by rw [<- e1]
 rw [e2];refine ⟨by simp,.inr ⟨w.heap.size,cap,(List.replicate cap z).toArray,rfl,Nat.le_refl _,?_,hge,hle,by simp,?_⟩⟩
 ·have:=heap_alloc_new w.drew (.cells (List.replicate cap z).toArray e);exact this
 ·simp [List.take_replicate,Nat.min_eq_left hge]
end
end Go.Vc
namespace Go.Proofs.YtgkkecladbmjkaaGreatDoor
open Tryz
open Go.Vc Go.Tc
variable {w:O} {K:Z->O->Prop}
theorem aCp {n:Nat} (hn:n<=1000) (hk:∀ v w',w'.ownsRow w.heap.size 3 1 v 0 []->aE w w'->K v w'):aB prog 232 #[cM,i64 n] w K:=by
 apply aFb;unfold IU;refine ⟨λw'=>w'=w,?_,?_⟩
 ·refine bP.2 (aK (λh=>by omega) λ_=>rfl)
 rintro w3 hw3 _;have hw3:=hw3.symm;subst hw3;refine V.ok (FC underlying42) (V.ok (lU underlying42) (iL.2 ?_));have e0:IntKind.i64.wrap (0 - ((0:Nat):Int))=0:=by decide
 rw [e0];refine iL.2 ?_;rw [aU (by omega),Int.sub_zero];refine jJ.2 (aK (λh=>?_) λh=>?_)
 ·refine V.ok (FC underlying42) ?_;refine V.ok (w':=w) (v:=cM) ?_ ?_
  ·simp [Instr.sliceAt,Instr.slice,run_underlying underlying42,gQ fX,Instr.sliceBounds,Instr.sliceBound,asIntOf]
  refine aUc underlying42 underlying3 fX rfl (by omega) (by unfold maxLen;omega) (by omega) λg cap w1 ho1 x1=>?_;refine V.ok (lU underlying42) ?_;refine V.ok (w':=w1) (v:=.slice (some ⟨g,0,none⟩) 0 cap) ?_ (hk _ _ ?_ x1)
  ·simp [Instr.sliceAt,Instr.slice,run_underlying underlying42,gQ fX,Instr.sliceBounds,Instr.sliceBound,asIntOf,jQ]
  ·have:=AV (a:=0) ho1 (Nat.zero_le _);simpa using this
 ·exact hk _ _ (World.ownsRow_nil _ _ _ _) (aE.refl _)
theorem TZ {v av bv:Z} {a b:List Int} (hv:aA w v 1 2 [av,bv]) (ha:aQ w av a) (hb:aQ w bv b) (la:a.length<=100) (lb:b.length<=100) (hk:∀ v w',w'.ownsRow w.heap.size 3 1 v (a++b).length ((a++b).map i64)->aE w w'->K v w') :
  aB prog 201 #[v] w K:=by
 apply aFs;unfold JF;refine hU kQ hv ?_;refine ⟨λs v w'=>∃ j:Nat,v=i64 j/\w'=w/\((j=0/\s=i64 ((0:Nat):Int))\/(j=1/\s=i64 (a.length:Int))\/(j=2/\s=i64 ((a.length+b.length:Nat):Int))),λ_ v _=>2 - (RowKit.intOf v).toNat,⟨0,rfl,rfl,.inl ⟨rfl,rfl⟩⟩,?_⟩;rintro s _ w1 ⟨j,rfl,hw1,hj⟩ _;have hw1:=hw1.symm;subst hw1;refine bP.2 (aK (λhlt=>?_) λhge=>?_)
 ·rcases hj with ⟨rfl,rfl⟩|⟨rfl,rfl⟩|⟨rfl,rfl⟩
  ·refine kP kQ bJ hv (by omega) (by omega) (u:=av) rfl (hU aM ha (dS.2 ?_));rw [aU (by omega)];refine bP.2 (aK (λh=>by omega) λ_=>dS.2 ?_);exact ⟨⟨1,rfl,rfl,.inr (.inl ⟨rfl,by simp⟩)⟩,by show (2 - 1:Nat) < 2 - 0;decide⟩
  ·refine kP kQ bJ hv (by omega) (by omega) (u:=bv) rfl (hU aM hb (dS.2 ?_));rw [aU (by omega)];refine bP.2 (aK (λh=>by omega) λ_=>dS.2 ?_);exact ⟨⟨2,rfl,rfl,.inr (.inr ⟨rfl,by simp⟩)⟩,by show (2 - 2:Nat) < 2 - 1;decide⟩
  ·omega
 have hs:s=i64 ((a.length+b.length:Nat):Int):=by
  rcases hj with ⟨rfl,rfl⟩|⟨rfl,rfl⟩|⟨rfl,rfl⟩
  iterate 2
   ·exact absurd hge (by simp)
  ·rfl
 subst hs;refine aCp (by omega) λgv w2 ho2 x2=>?_;refine hU kQ (hv.ext x2) ?_;refine ⟨λov v w'=>∃ j:Nat,v=i64 j/\aE w w'/\((j=0/\w'.ownsRow w.heap.size 3 1 ov 0 [])\/(j=1/\w'.ownsRow w.heap.size 3 1 ov a.length (a.map i64))\/(j=2/\w'.ownsRow w.heap.size 3 1 ov (a++b).length ((a++b).map i64))),λ_ v _=>2 - (RowKit.intOf v).toNat,⟨0,rfl,x2,.inl ⟨rfl,ho2⟩⟩,?_⟩;rintro ov _ w3 ⟨j,rfl,x3,hj⟩ _;refine bP.2 (aK (λhlt=>?_) λhge=>?_)
 ·rcases hj with ⟨rfl,ho⟩|⟨rfl,ho⟩|⟨rfl,ho⟩
  ·refine kP kQ bJ (hv.ext x3) (by omega) (by omega) (u:=av) rfl ?_;refine EK aZ ho (ha.ext x3) (zX _) (by omega) (by unfold maxLen;omega) x3.size λv4 w4 ho4 hg4=>?_;refine dS.2 ?_;refine ⟨⟨1,rfl,x3.grown hg4 λk hk=>(ho.lt k hk).1,.inr (.inl ⟨rfl,by simpa using ho4⟩)⟩,by show (2 - 1:Nat) < 2 - 0;decide⟩
  ·refine kP kQ bJ (hv.ext x3) (by omega) (by omega) (u:=bv) rfl ?_;refine EK aZ ho (hb.ext x3) (zX _) (by omega) (by unfold maxLen;omega) x3.size λv4 w4 ho4 hg4=>?_;refine dS.2 ?_;refine ⟨⟨2,rfl,x3.grown hg4 λk hk=>(ho.lt k hk).1,.inr (.inr ⟨rfl,by simpa using ho4⟩)⟩,by show (2 - 2:Nat) < 2 - 1;decide⟩
  ·omega
 ·rcases hj with ⟨rfl,ho⟩|⟨rfl,ho⟩|⟨rfl,ho⟩
  iterate 2
   ·exact absurd hge (by simp)
  ·exact hk _ _ ho x3
end Go.Proofs.YtgkkecladbmjkaaGreatDoor
namespace Go.Vc
section
variable {P:Program} {w:O} {K:Z->O->Prop}
theorem apG {t e by_ ty sz:Nat} {z:Z} (ht:P.underlying t=some (.slice e)) (hi:fH P e z sz by_) (hz:(z.cells.size == sz)=true) (hsz:0 < sz) {B:Nat} {v:Z} {n:Nat} {xs:List Z} (ho:w.ownsRow B e sz v n xs) {x:Z} {m:Nat} {news:List Z} (hs:aA w x sz m news) (h1:news.all gO=true)
  (hb:(n+m)*by_<=140737488355328) (h63:n+m<=maxLen) (hB:B<=w.heap.size)
  (hk:∀ v' w',w'.ownsRow B e sz v' (n+m) (xs++news)->w.grownBy w' v.ownBlock->(v'.ownBlock=v.ownBlock\/v'.ownBlock=some w.heap.size)->K v' w') :
  V P (Builtin.append_ #[t,t] ty #[v,x]) w K:=by
 obtain ⟨i,hi',hz',hn,hby⟩:=info_parts hi;rcases hs.2 with ⟨rfl,rfl⟩|⟨b,off,cap,rfl,_,_,hc⟩
 ·have hnews:news=[]:=by have:=hs.1;simpa using this
  subst hnews;exact V.ok (run_append_owned_none w B t ty e i sz ht hi' v n xs ho) (hk _ _ (by simpa using ho) ⟨rfl,rfl,rfl,Nat.le_refl _,λ_ _ _=>rfl⟩ (.inl rfl))
 ·obtain ⟨v',w',hr,h2,h3,_,h5⟩:=run_append_own_at (P:=P) w B t ty e i z sz by_ ht hi' hz' hn hby (by simpa using hz) hsz v n xs ho ⟨b,off,none⟩ m cap news hs.1
   (λj u hj=>by rw [jQ];exact hc j u hj) (λu hu=>by rw [rC];exact List.all_eq_true.1 h1 u hu) h63 hb hB
  exact V.ok hr (hk v' w' h2 h3 h5)
theorem vM {t e by_ sz:Nat} {z:Z} (ht:P.underlying t=some (.slice e)) (hi:fH P e z sz by_) (hz:(z.cells.size == sz)=true) (hsz:0 < sz) (vs:List Z) {n:Nat} {parts:Array (Nat × Z)} (hn:n=vs.length) (hp:parts.toList=(vs.zipIdx 0).map λx=>(x.2,x.1)) (hc:∀ v∈vs,v.cells.size=sz)
  (h0:0 < n) (hl:n*sz<=16777216) (hk:∀ v w',w'.ownsRow w.heap.size e sz v n (vs.flatMap λv=>v.cells.toList)->aE w w'->K v w'):V P (Instr.buildSlice t n parts) w K:=by
 subst hn;obtain ⟨i,hi',hz',hn,hby⟩:=info_parts hi;have hz2:z.cells.size=sz:=by simpa using hz
 have hl1:vs.length<=vs.length*sz:=Nat.le_mul_of_pos_right _ hsz;have hf:=Go.Great.fill_whole hsz vs ((Array.range (vs.length*sz)).map (z.cells[· % z.cells.size]!)) hc (by simp)
 have hr:=run_buildSlice (P:=P) w t e vs.length parts _ i z ht hi' hz' (by rw [hn];omega) (by rw [hn];omega) (by rw [hn,hp];exact hf);refine V.ok hr (hk _ _ ?_ ((aE.refl w).alloc _))
 have hsize:((vs.flatMap λv=>v.cells.toList).toArray).size=vs.length*sz:=by
  clear hr hf hl hp h0 hl1 hk;simp only [List.size_toArray];induction vs with
  | nil=>simp
  | cons v l ih=>
   have h1:=hc v (by simp);have h2:=ih λu hu=>hc u (by simp [hu]);simp only [List.flatMap_cons,List.length_append,List.length_cons,Array.length_toList,h1,h2,Nat.add_mul];omega
 have:=World.ownsRow_lit (base:=w.heap.size) (e:=e) (size:=sz) w (vs.flatMap λv=>v.cells.toList).toArray vs.length (Nat.le_refl _) (by unfold maxLen;omega) hsize;simpa using this
theorem aCo {t e n by_:Nat} {z:Z} {k:IntKind} (ht:P.underlying t=some (.array n e)) (hi:fH P e z 1 by_) (hd:P.underlying e=some (.int k)) {l:List Int} (hl:l.length=n) {i:Int} (h0:0<=i) (h1:i < n) (hk:∀ z∈l,K (i64 z) w) :
  V P (Instr.index t (.agg (l.map i64).toArray) (i64 i)) w K:=by
 have hlt:i.toNat < l.length:=by omega
 refine V.ok (aQs ht hi ⟨_,hd⟩ h0 h1 (u:=i64 l[i.toNat]) ?_ rfl) (hk _ (List.getElem_mem hlt));simp [hlt]
end
end Go.Vc
namespace Go.Proofs.YtgkkecladbmjkaaGreatDoor
open Tryz
open Go.Vc Go.Tc
variable {w:O} {K:Z->O->Prop}
variable {d n n':Nat} {wb:O} {k:Int}
theorem iS {B e sz:Nat} {v:Z} {xs:List Z} (h:w.ownsRow B e sz v n xs):gO v=true:=by
 rcases h.2 with ⟨rfl,_⟩|⟨_,_,_,rfl,_⟩<;>rfl
theorem gX {n m:Int} (hm:0 < m) (hm2:m<=4611686018427387904) (hk:∀ k,0<=k->k < m->K (i64 k) w):aB prog 11 #[i64 n,i64 m] w K:=by
 apply aAd;unfold EI;refine rm hm λc _ h1 h2=>?_;refine bP.2 (aK (λhlt=>?_) λhge=>?_)
 ·refine dS.2 ?_;rw [aU (by omega)];exact hk _ (by omega) (by omega)
 ·exact hk _ (by omega) h2
def nO (w:O):Prop:=∀ j,j < 12->∃ n,w.cell? ⟨2,j,none⟩=some (i64 n)
structure Mc where
 H:Nat->Prop
 B:Nat
 g:Nat
 nv:Z
 lv:Z
 nums:List Int
 loc:List Int
structure Mo (c:Mc) (wb:O):Prop where
 gB:c.g < c.B/\c.B<=wb.heap.size
 hH:∀ k,c.H k->k < wb.heap.size/\k≠c.g
 nums:∀ w,Fr (λk=>¬ c.H k) wb w->aQ w c.nv c.nums
 loc:∀ w,Fr (λk=>¬ c.H k) wb w->aQ w c.lv c.loc
 bins:∀ w,Fr (λk=>¬ c.H k) wb w->nO w
 ln:c.nums.length<=4611686018427387904
 ll:c.loc.length<=1000000
structure Mk (c:Mc) (wb w:O) (lo n d:Nat):Prop where
 o:Mo c wb
 fr:Fr (λk=>¬ c.H k) wb w
 at_:∃ (cv:Z) (code:List gN) (pos:Nat),dW w c.g [cv,c.nv,i64 pos,c.lv,i64 d] 252/\w.ownsRow c.B 70 3 cv code.length (iJ code)/\lo<=code.length/\code.length<=n/\pos<=n/\(∀ x∈code,x.rg)/\∀ k,cv.ownBlock=some k->¬ c.H k
theorem Mk.mono {c:Mc} {lo lo':Nat} (h:Mk c wb w lo n d) (h1:lo'<=lo) (h2:n<=n'):Mk c wb w lo' n' d:=by
 obtain ⟨o,fr,cv,code,pos,a1,a2,a3,a4,a5,a6⟩:=h;exact ⟨o,fr,cv,code,pos,a1,a2,by omega,by omega,by omega,a6⟩
theorem Mk.up {c:Mc} {lo:Nat} (h:Mk c wb w lo n d) (h2:n<=n'):Mk c wb w 0 n' d:=h.mono (Nat.zero_le _) h2
theorem Mk.ext {c:Mc} {wb w':O} {lo n d:Nat} (h:Mk c wb w lo n d) (hx:aE w w'):Mk c wb w' lo n d:=by
 obtain ⟨o,fr,cv,code,pos,a1,a2,a3⟩:=h;exact ⟨o,fr.trans (Fr.of_ext hx) λ_ _ h=>h,cv,code,pos,a1.ext hx,hx.own a2,a3⟩
theorem Mk.numsAt {c:Mc} {lo:Nat} (h:Mk c wb w lo n d):aQ w c.nv c.nums:=h.o.nums w h.fr
theorem Mk.locAt {c:Mc} {lo:Nat} (h:Mk c wb w lo n d):aQ w c.lv c.loc:=h.o.loc w h.fr
theorem Mk.gH {c:Mc} {lo:Nat} (h:Mk c wb w lo n d):¬ c.H c.g:=λhg=>(h.o.hH _ hg).2 rfl
theorem ldD {c:Mc} {lo:Nat} (h:Mk c wb w lo n d) (hk:K (i64 (d:Nat)) w):V prog (Instr.fieldAt 252 (.pointer (some ⟨c.g,0,none⟩)) 4) w λq w1=>V prog (Instr.loadAt 3 q) w1 K:=by
 obtain ⟨cv,code,pos,a1,_⟩:=h.at_;exact bQ (dW.boxed a1) dP aF rfl hk
theorem stD {c:Mc} {lo d':Nat} {K':O->Prop} (h:Mk c wb w lo n d) (hk:∀ w',Mk c wb w' lo n d'->K' w'):V prog (Instr.fieldAt 252 (.pointer (some ⟨c.g,0,none⟩)) 4) w λq w1=>U prog (Instr.storeAt 3 q (i64 (d':Nat))) w1 λ_ w2=>K' w2:=by
 have hg:=h.gH;obtain ⟨o,fr,cv,code,pos,a1,a2,a3⟩:=h;refine CK dP fX a1 (n:=5) rfl (by decide) rfl (hk _ ⟨o,fr.set hg,cv,code,pos,a1.set 4 _,?_,a3⟩);exact (Fr.of_set (S:=λi=>i=c.g) rfl).own a2 λk hk he=>by have:=(a2.lt k hk).1;have:=o.gB.1;omega
theorem BK (l:List gN) (x:gN):iJ (l++[x])=iJ l++[i64 x.op,i64 x.a,i64 x.b]:=by simp [iJ]
theorem gT {c:Mc} {lo:Nat} {op a b:Int} (h:Mk c wb w lo n d) (hn:n<=1000000) (hk:∀ w',Mk c wb w' 1 (n+1) d->K (.tuple #[]) w') (hb:-9223372036854775808<=b/\b<=9223372036854775807:=by decide) :
  aB prog 132 #[.pointer (some ⟨c.g,0,none⟩),i64 op,i64 a,i64 b] w K:=by
 have hg:=h.gH;obtain ⟨o,fr,cv,code,pos,a1,a2,a3,a4,a5,a6,a7⟩:=h;have hgB:=o.gB;apply SD;unfold zI;refine ⟨.inl ⟨_,rfl⟩,bQ (dW.boxed a1) bH fT rfl ?_⟩;refine kO iK [(0,i64 op),(1,i64 a),(2,i64 b)] rfl rfl ?_;refine vM underlying71 mE rfl (by decide) [.agg #[i64 op,i64 a,i64 b]] rfl rfl (by intro v hv;rw [List.mem_singleton] at hv;subst hv;rfl) (by decide) (by decide) λuv w5 ho5 x5=>?_;refine apG underlying71 mE rfl (by decide) (x5.own a2) (aA.of_own ho5) (by rfl) (by omega) (by unfold maxLen;omega) (Nat.le_trans hgB.2 (fr.trans (Fr.of_ext x5) λ_ _ h=>h).size) λv6 w6 ho6 hg6 hl6=>?_;have a1':dW w6 c.g _ _:=(Fr.of_grown (S:=λk=>cv.ownBlock=some k) hg6 λk hk=>hk).blk (a1.ext x5) λhk=>by have:=(a2.lt _ hk).1;omega
 have fr6:Fr (λk=>¬ c.H k) wb w6:=(fr.trans (Fr.of_ext x5) λ_ _ h=>h).trans (Fr.of_grown (S:=λk=>¬ c.H k) hg6 λk hk=>a7 k hk) λ_ _ h=>h;have e6:iJ code++[Value.agg #[i64 op,i64 a,i64 b]].flatMap (λv=>v.cells.toList)=iJ (code++[⟨op,a,b⟩]):=by rw [BK];rfl
 rw [e6] at ho6;refine ⟨.inl ⟨_,rfl⟩,CK bH vD a1' (n:=5) rfl (by decide) (iS ho6) (hk _ ⟨o,fr6.set hg,v6,code++[⟨op,a,b⟩],pos,a1'.set 0 _,?_,by simp,by simp;omega,by omega,λx hx=>?_,λk hk=>?_⟩)⟩
 ·rw [List.length_append];exact (Fr.of_set (S:=λi=>i=c.g) rfl).own ho6 λk hk he=>by have:=(ho6.lt k hk).1;omega
 ·rcases List.mem_append.1 hx with hx|hx
  ·exact a6 x hx
  ·rw [List.mem_singleton] at hx;subst hx;exact hb
 ·rcases hl6 with h6|h6
  ·rw [h6] at hk;exact a7 k hk
  ·rw [h6] at hk;cases hk;intro hH;have h1:=(o.hH _ hH).1;have h2:=fr.size;have h3:=x5.size;omega
theorem iV {c:Mc} {lo:Nat} (h:Mk c wb w lo n d) (hn:n<=1000000) (hk:∀ z w',Mk c wb w' lo (n+1) d->Fr (λk=>k=c.g) w w'->K (i64 z) w') :
  aB prog 210 #[.pointer (some ⟨c.g,0,none⟩)] w K:=by
 have hg:=h.gH;have hnum:=h.numsAt;have h0:=h;obtain ⟨o,fr,cv,code,pos,a1,a2,a3,a4,a5,a6⟩:=h;have hgB:=o.gB;have hln:=o.ln;apply RW;unfold yY;refine ⟨.inl ⟨_,rfl⟩,bQ (dW.boxed a1) dB bJ rfl (hU aM hnum (aO.2 (aK (λhz=>?_) λhz=>?_)))⟩
 ·exact hk 0 w (h0.mono (Nat.le_refl _) (by omega)) (Fr.refl _ _)
 refine ⟨.inl ⟨_,rfl⟩,bQ (dW.boxed a1) dQ aF rfl (dS.2 ?_)⟩;rw [aU (by omega),eI];refine ⟨.inl ⟨_,rfl⟩,CK dQ fX a1 (n:=5) rfl (by decide) rfl ?_⟩;have hset:Fr (λk=>k=c.g) w (w.setCell ⟨c.g,2,none⟩ (i64 ((pos+1:Nat):Int))):=Fr.of_set rfl
 have hm:Mk c wb (w.setCell ⟨c.g,2,none⟩ (i64 ((pos+1:Nat):Int))) lo (n+1) d:=by
  refine ⟨o,fr.set hg,cv,code,pos+1,a1.set 2 _,?_,a3,by omega,by omega,a6⟩;exact hset.own a2 λk hk he=>by have:=(a2.lt k hk).1;omega
 have a1s:=a1.set 2 (i64 ((pos+1:Nat):Int));generalize w.setCell ⟨c.g,2,none⟩ (i64 ((pos+1:Nat):Int))=w2 at hset hm a1s;have D1:aE w2 w2.drew:=(aE.refl _).drew;have hbx:∀ w',aE w2.drew w'->fB w' c.g [cv,c.nv,i64 ((pos+1:Nat):Int),c.lv,i64 d]:=λw' hx=>dW.boxed (a1s.ext (D1.trans hx));have hnum2:=(hm.ext D1).numsAt;have hlen:0 < c.nums.length:=by omega
 refine aJ.mk' (λw'=>aE w2.drew w') (aE.refl _) ?_;refine ⟨.inl ⟨_,rfl⟩,gY hbx dB bJ rfl ?_⟩;refine ⟨.inl ⟨_,rfl⟩,gY hbx dQ aF rfl ?_⟩;refine ⟨.inl ⟨_,rfl⟩,gY hbx dB bJ rfl (qH aM hnum2 ?_)⟩;refine aC.ok (λw' _=>aQq (by omega)) ?_
 have e1:(((pos+1:Nat):Int)).tmod (c.nums.length:Int)=(((pos+1) % c.nums.length:Nat):Int):=by
  rw [Int.tmod_eq_emod_of_nonneg (by omega)];rfl
 rw [e1];have hlt:=Nat.mod_lt (pos+1) hlen;refine lT aM aF hnum2 (λ_ h=>h) (by omega) (by omega) (fD (jW hlt)) ?_;refine ⟨.inl ⟨_,rfl⟩,gY hbx dQ aF rfl ?_⟩;refine ⟨.inl ⟨_,rfl⟩,gY hbx dB bJ rfl (qH aM hnum2 ?_)⟩;refine aC.ok (λw' _=>WB (by omega)) (aC.ok (λw' _=>AO) ?_);exact hk _ _ (hm.ext D1) (hset.trans (Fr.of_ext D1) λ_ _ h=>h)
theorem tK {c:Mc} {lo:Nat} (h:Mk c wb w lo n d) (hn:n<=1000000) (hk:∀ z b w',Mk c wb w' lo (n+1) d->K (.tuple #[i64 z,.bool b]) w') :
  aB prog 211 #[.pointer (some ⟨c.g,0,none⟩),i64 k] w K:=by
 have hgB:=h.o.gB;have hsz:=h.fr.size;have hll:=h.o.ll;apply RV;unfold yW;refine ⟨λsv v w'=>∃ (j:Nat) (l:List Int),v=i64 j/\j<=c.loc.length/\l.length<=j/\aE w w'/\w'.ownsRow w.heap.size 3 1 sv l.length (l.map i64),λ_ v _=>c.loc.length - (RowKit.intOf v).toNat,⟨0,[],rfl,Nat.zero_le _,Nat.le_refl _,aE.refl _,World.ownsRow_nil _ _ _ _⟩,?_⟩;rintro sv _ w1 ⟨j,l,rfl,hj,hl,x1,ho⟩ _;have h1:=h.ext x1;obtain ⟨o,fr,cv,code,pos,a1,a2,_⟩:=h1;have hloc:=o.loc _ fr;refine ⟨.inl ⟨_,rfl⟩,bQ (dW.boxed a1) dA bJ rfl (hU aM hloc (bP.2 (aK (λhlt=>?_) λhge=>?_)))⟩
 ·refine ⟨.inl ⟨_,rfl⟩,bQ (dW.boxed a1) dA bJ rfl ?_⟩;refine kP aM aF hloc (by omega) (by omega) (fD (jW (l:=c.loc) (j:=j) (by omega))) (aO.2 (aK (λhe=>?_) λhe=>?_))
  ·refine iT aZ [i64 j] rfl rfl (by simp) rfl λv2 w2 ho2 x2=>?_;refine EK aZ (x2.own ho) (aA.of_own ho2) rfl (by omega) (by unfold maxLen;omega) (x1.trans x2).size λv3 w3 ho3 hg3=>?_;refine mJ (by omega) ?_;exact ⟨⟨j+1,l++[(j:Int)],rfl,by omega,by simp;omega,(x1.trans x2).grown hg3 λq hq=>((x2.own ho).lt q hq).1,by simpa using ho3⟩,by simp only [aW];omega⟩
  ·refine mJ (by omega) ?_;exact ⟨⟨j+1,l,rfl,by omega,by omega,x1,ho⟩,by simp only [aW];omega⟩
 refine hU aM (aA.of_own ho) (aO.2 (aK (λhz=>?_) λhz=>?_))
 ·exact hk _ _ _ ((h.ext x1).mono (Nat.le_refl _) (by omega))
 refine iV (h.ext x1) hn λz w2 h2 f2=>?_;have ho2:=f2.own ho λq hq he=>by have:=(ho.lt q hq).1;omega
 refine hU aM (aA.of_own ho2) (gX (by omega) (by omega) λq hq0 hq1=>?_);obtain ⟨r,rfl⟩:∃ r:Nat,q=r:=⟨q.toNat,by omega⟩;refine TP aM aF ho2 (by omega) (by omega) (fD (jW (by omega))) ?_;exact hk _ _ _ h2
theorem rP {c:Mc} {lo:Nat} (h:Mk c wb w lo n d) (hn:n<=900000) (hk:∀ w',Mk c wb w' 0 (n+6) d->K (.tuple #[]) w') :
  aB prog 178 #[.pointer (some ⟨c.g,0,none⟩),i64 k] w K:=by
 apply SB;unfold zF;refine iV h (by omega) λz w1 h1 _=>?_;refine gX (by decide) (by decide) λq hq0 hq1=>?_;have hc:q=0\/q=1\/q=2\/q=3\/q=4\/q=5:=by omega
 rcases hc with rfl|rfl|rfl|rfl|rfl|rfl
 case inl|inr.inl=>
  all_goals
   simp only [aN,Int.reduceEq]
   try intro _
   refine tK h1 (by omega) λz b w2 h2=>?_;refine gM.2 (gL.2 ?_);cases b with
   | true=>
    refine aS.2 ?_;exact gT h2 (by omega) λw3 h3=>hk _ (h3.up (by omega))
   | false=>
    refine aD.2 ?_;exact gT h2 (by omega) λw3 h3=>hk _ (h3.up (by omega))
 case inr.inr.inl|inr.inr.inr.inl=>
  all_goals
   simp only [aN,Int.reduceEq]
   intros
   refine iL.2 ?_;refine dS.2 ?_;exact gT h1 (by omega) λw3 h3=>hk _ (h3.up (by omega))
 ·simp only [aN,Int.reduceEq]
  intros
  refine iL.2 ?_;exact gT h1 (by omega) λw3 h3=>hk _ (h3.up (by omega))
 ·simp only [aN,Int.reduceEq]
  intros
  refine iV h1 (by omega) λz w2 h2 _=>?_;refine gX (by decide) (by decide) λq hq0 hq1=>?_;refine gT h2 (by omega) λw3 h3=>?_;refine V.ok (w':=w3) (v:=.agg (([0,1,2,4,5,6]:List Int).map i64).toArray) (by kernel_rfl) ?_;refine iV h3 (by omega) λz w4 h4 _=>?_;refine gX (by decide) (by decide) λq hq0 hq1=>?_;refine aCo underlying299 fX underlying3 (by decide) hq0 (by simpa using hq1) λu hu=>?_;refine gT h4 (by omega) (λw5 h5=>hk _ (h5.up (by omega))) ?_;simp at hu;omega
end Go.Proofs.YtgkkecladbmjkaaGreatDoor
namespace Go.Vc
theorem aCz {P:Program} {w:O} {K:Z->O->Prop} {t:TypeId} {parts:Array (Nat × Z)} {v:Z} (h:∀ w,(Instr.build t parts).run P w=.ok v w) (hk:K v w):V P (Instr.build t parts) w K:=V.ok (h w) hk
end Go.Vc
namespace Go.Proofs.YtgkkecladbmjkaaGreatDoor
open Tryz
open Go.Vc Go.Tc
variable {w:O} {K:Z->O->Prop}
variable {d k n:Nat} {wb:O}
def rS (d k:Nat):Prop:=∀ {c:Mc} {wb w:O} {lo n:Nat} {K:Z->O->Prop},Mk c wb w lo n d->n+k<=800000->(∀ w',Mk c wb w' 0 (n+k) d->K (.tuple #[]) w')->aB prog 180 #[.pointer (some ⟨c.g,0,none⟩)] w K
def tW (d k:Nat):Prop:=∀ {c:Mc} {wb w:O} {lo n:Nat} {K:Z->O->Prop},Mk c wb w lo n d->n+k<=800000->(∀ w',Mk c wb w' 0 (n+k) d->K (.tuple #[]) w')->aB prog 181 #[.pointer (some ⟨c.g,0,none⟩)] w K
theorem mG (hp:rS d k) (hk2:2<=k) {c:Mc} {lo:Nat} (h:Mk c wb w lo n d) (hn:n+k+1<=800000) (hk:∀ w',Mk c wb w' 0 (n+k+1) d->K (.tuple #[]) w') :
  aB prog 179 #[.pointer (some ⟨c.g,0,none⟩)] w K:=by
 apply aGb;unfold JM;refine iV h (by omega) λz w1 h1 _=>?_;refine gX (by decide) (by decide) λq hq0 hq1=>?_;refine aO.2 (aK (λhe=>?_) λhe=>?_)
 ·exact hp h1 (by omega) λw2 h2=>hk _ (h2.up (by omega))
 ·refine iV h1 (by omega) λz w2 h2 _=>?_;refine gX (by decide) (by decide) λq hq0 hq1=>?_;exact gT h2 (by omega) λw3 h3=>hk _ (h3.up (by omega))
theorem XR {c:Mc} {lo:Nat} {i:Int} (h:Mk c wb w lo n d) (h0:0<=i) (h1:i < 12) (hk:∀ z,K (i64 z) w) :
  V prog (Instr.indexAt 301 (.pointer (some ⟨2,0,none⟩)) (i64 i)) w λp w1=>V prog (Instr.loadAt 3 p) w1 K:=by
 refine V.ok (aQv underlying301 fX h0 (by simpa using h1)) ?_;obtain ⟨op,hop⟩:=h.o.bins _ h.fr i.toNat (by omega);exact V.ok (ML (by rw [Nat.zero_add];exact hop)) (hk _)
theorem vR (h20:20<=k) (hd:d<=3) (hs:d < 3->∃ k',rS (d+1) k'/\tW (d+1) k'/\20<=k'/\k=3*k'+20):rS d k:=by
 intro c wb w lo n K h hn hk;apply aGa;unfold JL;refine ⟨.inl ⟨_,rfl⟩,ldD h (dS.2 ?_)⟩;rw [aU (by omega),eI];refine ⟨.inl ⟨_,rfl⟩,stD h λw1 h1=>?_⟩;refine iV h1 (by omega) λz0 w2 hh0 _=>?_;refine gX (by decide) (by decide) λq hq0 hq1=>?_;refine ⟨λv w'=>∃ z,v=i64 z/\w'=w2/\0<=z/\z < 12/\(d=3->z < 3),?_,?_⟩
 ·refine ⟨.inl ⟨_,rfl⟩,ldD hh0 (jJ.2 (aK (λhg=>?_) λhg=>?_))⟩
  ·refine rm (by decide) λe he h1 h2=>⟨e,rfl,rfl,?_,by omega,λ_=>by omega⟩;rw [he];exact Int.tmod_nonneg _ hq0
  ·exact ⟨q,rfl,rfl,hq0,hq1,λ_=>by omega⟩
 rintro _ _ ⟨z,rfl,rfl,hz0,hz1,hleaf⟩ _;refine ⟨λw'=>Mk c wb w' 0 (n+k) (d+1),?_,?_⟩
 case refine_2=>
  intro w3 h3 _;refine ⟨.inl ⟨_,rfl⟩,ldD h3 (iL.2 ?_)⟩;rw [aU (by omega),show ((d+1:Nat):Int) - 1=((d:Nat):Int) by omega];exact ⟨.inl ⟨_,rfl⟩,stD h3 λw4 h4=>hk _ h4⟩
 have hc:z=0\/z=1\/z=2\/z=3\/z=4\/z=5\/z=6\/z=7\/z=8\/z=9\/z=10\/z=11:=by omega
 have hdeep:3<=z->∃ k',rS (d+1) k'/\tW (d+1) k'/\20<=k'/\k=3*k'+20:=λhz=>hs (by omega);rcases hc with rfl|rfl|rfl|rfl|rfl|rfl|rfl|rfl|rfl|rfl|rfl|rfl
 iterate 2
  ·simp only [aN,Int.reduceEq,Int.reduceNeg]
   intros
   refine aCz (v:=.agg (([0,1,2,3,7,-1,64,1073741824]:List Int).map i64).toArray) (λw=>by kernel_rfl) ?_;refine iV hh0 (by omega) λz w1 hh1 _=>?_;refine gX (by decide) (by decide) λq hq0 hq1=>?_;refine aCo underlying300 fX underlying3 (by decide) hq0 (by simpa using hq1) λu hu=>?_;refine gT hh1 (by omega) λw1 hh2=>?_;exact hh2.up (by omega)
 ·simp only [aN,Int.reduceEq,Int.reduceNeg]
  intros
  refine tK hh0 (by omega) λz b w1 hh1=>?_;refine gM.2 (gL.2 ?_);cases b with
  | true=>
   refine aS.2 ?_;refine gT hh1 (by omega) λw1 hh2=>?_;exact hh2.up (by omega)
  | false=>
   refine aD.2 ?_;refine iV hh1 (by omega) λz w1 hh2 _=>?_;refine rm (by decide) λe _ _ _=>?_;refine gT hh2 (by omega) λw1 hh3=>?_;exact hh3.up (by omega)
 ·simp only [aN,Int.reduceEq,Int.reduceNeg]
  intros
  obtain ⟨k2,hpub,hsec,h21,hk3⟩:=hdeep (by decide);refine tK hh0 (by omega) λz b w1 hh1=>?_;refine gM.2 (gL.2 ?_);cases b with
  | true=>
   refine aS.2 ?_;refine gT hh1 (by omega) λw1 hh2=>?_;exact hh2.up (by omega)
  | false=>
   refine aD.2 ?_;refine iV hh1 (by omega) λz w1 hh2 _=>?_;refine rm (by decide) λe _ _ _=>?_;refine gT hh2 (by omega) λw1 hh3=>?_;exact hh3.up (by omega)
 iterate 3
  ·simp only [aN,Int.reduceEq,Int.reduceNeg]
   intros
   obtain ⟨k2,hpub,hsec,h21,hk3⟩:=hdeep (by decide);refine hpub hh0 (by omega) λw1 hh1=>?_;refine hpub hh1 (by omega) λw1 hh2=>?_;refine iV hh2 (by omega) λz w1 hh3 _=>?_;refine gX (by decide) (by decide) λq hq0 hq1=>?_;refine XR hh3 hq0 hq1 λu=>?_;refine gT hh3 (by omega) λw1 hh4=>?_;exact hh4.up (by omega)
 ·simp only [aN,Int.reduceEq,Int.reduceNeg]
  intros
  obtain ⟨k2,hpub,hsec,h21,hk3⟩:=hdeep (by decide);refine iV hh0 (by omega) λz w1 hh1 _=>?_;refine gX (by decide) (by decide) λq hq0 hq1=>?_;refine dS.2 ?_;refine gT hh1 (by omega) λw1 hh2=>?_;refine gT hh2 (by omega) λw1 hh3=>?_;exact hh3.up (by omega)
 ·simp only [aN,Int.reduceEq,Int.reduceNeg]
  intros
  obtain ⟨k2,hpub,hsec,h21,hk3⟩:=hdeep (by decide);refine hpub hh0 (by omega) λw1 hh1=>?_;refine hpub hh1 (by omega) λw1 hh2=>?_;refine aCz (v:=.agg (([17,18]:List Int).map i64).toArray) (λw=>by kernel_rfl) ?_;refine iV hh2 (by omega) λz w1 hh3 _=>?_;refine gX (by decide) (by decide) λq hq0 hq1=>?_;refine aCo underlying302 fX underlying3 (by decide) hq0 (by simpa using hq1) λu hu=>?_;refine gT hh3 (by omega) λw1 hh4=>?_;exact hh4.up (by omega)
 ·simp only [aN,Int.reduceEq,Int.reduceNeg]
  intros
  obtain ⟨k2,hpub,hsec,h21,hk3⟩:=hdeep (by decide);refine rP hh0 (by omega) λw1 hh1=>?_;refine mG hpub (by omega) hh1 (by omega) λw1 hh2=>?_;refine gT hh2 (by omega) λw1 hh3=>?_;exact hh3.up (by omega)
 ·simp only [aN,Int.reduceEq,Int.reduceNeg]
  intros
  obtain ⟨k2,hpub,hsec,h21,hk3⟩:=hdeep (by decide);refine hpub hh0 (by omega) λw1 hh1=>?_;refine aCz (v:=.agg (([15,16,15]:List Int).map i64).toArray) (λw=>by kernel_rfl) ?_;refine iV hh1 (by omega) λz w1 hh2 _=>?_;refine gX (by decide) (by decide) λq hq0 hq1=>?_;refine aCo underlying303 fX underlying3 (by decide) hq0 (by simpa using hq1) λu hu=>?_;refine gT hh2 (by omega) λw1 hh3=>?_;exact hh3.up (by omega)
 ·simp only [aN,Int.reduceEq,Int.reduceNeg]
  intros
  obtain ⟨k2,hpub,hsec,h21,hk3⟩:=hdeep (by decide);refine iV hh0 (by omega) λz w1 hh1 _=>?_;refine gX (by decide) (by decide) λq hq0 hq1=>?_;refine dS.2 ?_;refine rP hh1 (by omega) λw1 hh2=>?_;refine gT hh2 (by omega) λw1 hh3=>?_;exact hh3.up (by omega)
theorem vP (h20:20<=k) (hd:d<=3) (hs:d < 3->∃ k',rS (d+1) k'/\tW (d+1) k'/\20<=k'/\k=3*k'+20):tW d k:=by
 intro c wb w lo n K h hn hk;apply RZ;unfold zE;refine ⟨.inl ⟨_,rfl⟩,ldD h (dS.2 ?_)⟩;rw [aU (by omega),eI];refine ⟨.inl ⟨_,rfl⟩,stD h λw1 h1=>?_⟩;refine iV h1 (by omega) λz0 w2 hh0 _=>?_;refine gX (by decide) (by decide) λq hq0 hq1=>?_;refine ⟨λv w'=>∃ z,v=i64 z/\w'=w2/\0<=z/\z < 9/\(d=3->z < 2),?_,?_⟩
 ·refine ⟨.inl ⟨_,rfl⟩,ldD hh0 (jJ.2 (aK (λhg=>?_) λhg=>?_))⟩
  ·refine rm (by decide) λe he h1 h2=>⟨e,rfl,rfl,?_,by omega,λ_=>by omega⟩;rw [he];exact Int.tmod_nonneg _ hq0
  ·exact ⟨q,rfl,rfl,hq0,hq1,λ_=>by omega⟩
 rintro _ _ ⟨z,rfl,rfl,hz0,hz1,hleaf⟩ _;refine ⟨λw'=>Mk c wb w' 0 (n+k) (d+1),?_,?_⟩
 case refine_2=>
  intro w3 h3 _;refine ⟨.inl ⟨_,rfl⟩,ldD h3 (iL.2 ?_)⟩;rw [aU (by omega),show ((d+1:Nat):Int) - 1=((d:Nat):Int) by omega];exact ⟨.inl ⟨_,rfl⟩,stD h3 λw4 h4=>hk _ h4⟩
 have hc:z=0\/z=1\/z=2\/z=3\/z=4\/z=5\/z=6\/z=7\/z=8:=by omega
 have hdeep:2<=z->∃ k',rS (d+1) k'/\tW (d+1) k'/\20<=k'/\k=3*k'+20:=λhz=>hs (by omega);rcases hc with rfl|rfl|rfl|rfl|rfl|rfl|rfl|rfl|rfl
 ·simp only [aN,Int.reduceEq]
  intros
  refine tK hh0 (by omega) λz b w1 hh1=>?_;refine gM.2 (gL.2 ?_);cases b with
  | true=>
   refine aS.2 ?_;refine gT hh1 (by omega) λw1 hh2=>?_;exact hh2.up (by omega)
  | false=>
   refine aD.2 ?_;refine gT hh1 (by omega) λw1 hh2=>?_;exact hh2.up (by omega)
 ·simp only [aN,Int.reduceEq]
  intros
  refine iV hh0 (by omega) λz w1 hh1 _=>?_;refine rm (by decide) λe _ _ _=>?_;refine gT hh1 (by omega) λw1 hh2=>?_;exact hh2.up (by omega)
 iterate 2
  ·simp only [aN,Int.reduceEq]
   intros
   obtain ⟨k2,hpub,hsec,h21,hk3⟩:=hdeep (by decide);refine hsec hh0 (by omega) λw1 hh1=>?_;refine hsec hh1 (by omega) λw1 hh2=>?_;refine iV hh2 (by omega) λz w1 hh3 _=>?_;refine gX (by decide) (by decide) λq hq0 hq1=>?_;refine XR hh3 hq0 hq1 λu=>?_;refine gT hh3 (by omega) λw1 hh4=>?_;exact hh4.up (by omega)
 iterate 2
  ·simp only [aN,Int.reduceEq]
   intros
   obtain ⟨k2,hpub,hsec,h21,hk3⟩:=hdeep (by decide);refine rP hh0 (by omega) λw1 hh1=>?_;refine mG hpub (by omega) hh1 (by omega) λw1 hh2=>?_;refine gT hh2 (by omega) λw1 hh3=>?_;exact hh3.up (by omega)
 ·simp only [aN,Int.reduceEq]
  intros
  obtain ⟨k2,hpub,hsec,h21,hk3⟩:=hdeep (by decide);refine hsec hh0 (by omega) λw1 hh1=>?_;refine hsec hh1 (by omega) λw1 hh2=>?_;refine hsec hh2 (by omega) λw1 hh3=>?_;refine gT hh3 (by omega) λw1 hh4=>?_;exact hh4.up (by omega)
 ·simp only [aN,Int.reduceEq]
  intros
  obtain ⟨k2,hpub,hsec,h21,hk3⟩:=hdeep (by decide);refine rP hh0 (by omega) λw1 hh1=>?_;refine mG hpub (by omega) hh1 (by omega) λw1 hh2=>?_;refine iV hh2 (by omega) λz w1 hh3 _=>?_;refine gX (by decide) (by decide) λq hq0 hq1=>?_;refine dS.2 ?_;refine rP hh3 (by omega) λw1 hh4=>?_;refine mG hpub (by omega) hh4 (by omega) λw1 hh5=>?_;refine mG hpub (by omega) hh5 (by omega) λw1 hh6=>?_;refine gT hh6 (by omega) λw1 hh7=>?_;exact hh7.up (by omega)
 ·simp only [aN,Int.reduceEq]
  intros
  obtain ⟨k2,hpub,hsec,h21,hk3⟩:=hdeep (by decide);refine gT hh0 (by omega) λw1 hh1=>?_;exact hh1.up (by omega)
theorem QI:rS 3 20/\tW 3 20:=⟨vR (by omega) (by omega) λh=>by omega,vP (by omega) (by omega) λh=>by omega⟩
theorem QJ:rS 2 80/\tW 2 80:=⟨vR (by omega) (by omega) λ_=>⟨20,QI.1,QI.2,by omega,by omega⟩,vP (by omega) (by omega) λ_=>⟨20,QI.1,QI.2,by omega,by omega⟩⟩
theorem QK:rS 1 260/\tW 1 260:=⟨vR (by omega) (by omega) λ_=>⟨80,QJ.1,QJ.2,by omega,by omega⟩,vP (by omega) (by omega) λ_=>⟨80,QJ.1,QJ.2,by omega,by omega⟩⟩
theorem qB:rS 0 800/\tW 0 800:=⟨vR (by omega) (by omega) λ_=>⟨260,QK.1,QK.2,by omega,by omega⟩,vP (by omega) (by omega) λ_=>⟨260,QK.1,QK.2,by omega,by omega⟩⟩
theorem CA {c:Mc} {lo:Nat} {k:Int} (h:Mk c wb w lo n 0) (hn:n+800<=800000) (hk:∀ w',Mk c wb w' 0 (n+800) 0->K (.tuple #[]) w') :
  aB prog 131 #[.pointer (some ⟨c.g,0,none⟩),i64 k] w K:=by
 apply SE;unfold zJ;refine aO.2 (aK (λh1=>?_) λh1=>aO.2 (aK (λh2=>?_) λh2=>?_))
 ·exact qB.1 h hn hk
 ·exact qB.2 h hn hk
 ·exact rP h (by omega) λw1 h1=>hk _ (h1.up (by omega))
end Go.Proofs.YtgkkecladbmjkaaGreatDoor
namespace Go.Tc
theorem tA {α:Type} {l:List α} {k:Nat} {x:α}:(l.set k x).length=l.length:=List.length_set
end Go.Tc
namespace Go.Proofs.YtgkkecladbmjkaaGreatDoor
open Tryz
open Go.Vc Go.Tc
variable {w:O} {K:Z->O->Prop}
variable {w' w1 wb:O} {cap d g' k n pos:Nat}
def Mc.hold (c:Mc) (b:Nat):Mc:={ c with H:=λk=>c.H k\/k=b }
theorem Mk.stay {c:Mc} {lo b:Nat} (h:Mk c wb w lo n d) (x:aE w w1) (f:Fr (λk=>¬ (c.hold b).H k) w1 w'):Fr (λk=>¬ c.H k) wb w':=
 (h.fr.trans (Fr.of_ext x) λ_ _ h=>h).trans (f.mono (T:=λk=>¬ c.H k) λ_ hk hH=>hk (.inl hH)) λ_ _ h=>h
theorem Mk.hold {c:Mc} {wb w1:O} {lo n d b:Nat} (h:Mk c wb w lo n d) (x:aE w w1) (hb:b=w.heap.size) (hlt:b < w1.heap.size):Mk (c.hold b) w1 w1 lo n d:=by
 have hst:∀ w',Fr (λk=>¬ (c.hold b).H k) w1 w'->Fr (λk=>¬ c.H k) wb w':=λw' f=>h.stay x f;have s1:=h.fr.size;have s2:=x.size;have hgB:=h.o.gB;refine ⟨⟨⟨hgB.1,by show c.B<=_;omega⟩,λk hk=>?_,λw' f=>h.o.nums w' (hst w' f),λw' f=>h.o.loc w' (hst w' f),λw' f=>h.o.bins w' (hst w' f),h.o.ln,h.o.ll⟩,Fr.refl _ _,?_⟩
 ·rcases hk with hk|hk
  ·have:=h.o.hH k hk;exact ⟨by omega,this.2⟩
  ·subst hk;refine ⟨hlt,?_⟩;show k≠c.g;omega
 ·obtain ⟨cv,code,pos,a1,a2,a3,a4,a5,a6,a7⟩:=h.at_;refine ⟨cv,code,pos,a1.ext x,x.own a2,a3,a4,a5,a6,λk hk hH=>?_⟩;rcases hH with hH|hH
  ·exact a7 k hk hH
  ·have:=(a2.lt k hk).2;omega
theorem Mk.back {c:Mc} {lo lo' n' d' b:Nat} (h:Mk c wb w lo n d) (x:aE w w1) (h':Mk (c.hold b) w1 w' lo' n' d'):Mk c wb w' lo' n' d':=by
 obtain ⟨o,fr,cv,code,pos,a1,a2,a3,a4,a5,a6,a7⟩:=h';exact ⟨h.o,h.stay x fr,cv,code,pos,a1,a2,a3,a4,a5,a6,λk hk hH=>a7 k hk (.inl hH)⟩
theorem PR {l:List gN} {x:gN} (h:l[k]?=some x):(iJ l)[k*3+1]?=some (i64 x.a):=by
 have:=oD h
 have e:((iJ l).drop (k*3))[1]?=some (i64 x.a):=by
  rw [<- List.take_append_drop 3 ((iJ l).drop (k*3)),this];rfl
 rwa [List.getElem?_drop] at e
theorem BL:∀ {l:List gN} {k:Nat} {x:gN} {z:Int},l[k]?=some x->(iJ l).set (k*3+1) (i64 z)=iJ (l.set k ⟨x.op,z,x.b⟩)
 | [],_,_,_,h=>by simp at h
 | y::l,0,x,z,h=>by simp at h;subst h;simp [iJ]
 | y::l,k+1,x,z,h=>by
  have:=BL (l:=l) (k:=k) (z:=z) (by simpa using h);simp only [iJ,List.flatMap_cons,List.set_cons_succ] at this ⊢;rw [show (k+1)*3+1=k*3+1+3 by omega];simpa using this
structure Code (c:Mc) (wb w:O) (lo n d:Nat) (g' cap:Nat) (code:List gN) (pos:Nat):Prop where
 o:Mo c wb
 fr:Fr (λk=>¬ c.H k) wb w
 blk:dW w c.g [.slice (some ⟨g',0,none⟩) code.length cap,c.nv,i64 pos,c.lv,i64 d] 252
 own:w.ownsRow c.B 70 3 (.slice (some ⟨g',0,none⟩) code.length cap) code.length (iJ code)
 lo:lo<=code.length
 hi:code.length<=n
 ps:pos<=n
 rg:∀ x∈code,x.rg
 nH:¬ c.H g'
theorem Mk.code {c:Mc} {wb:O} {lo n d:Nat} (h:Mk c wb w lo n d) (h1:1<=lo):∃ g' cap code pos,Code c wb w lo n d g' cap code pos:=by
 obtain ⟨o,fr,cv,code,pos,a1,a2,a3,a4,a5,a6,a7⟩:=h;rcases a2.2 with ⟨_,e⟩|⟨g',cap,cur,rfl,_⟩
 ·exact absurd e (by omega)
 ·exact ⟨g',cap,code,pos,o,fr,a1,a2,a3,a4,a5,a6,a7 _ rfl⟩
theorem Code.toMk {c:Mc} {lo:Nat} {code:List gN} (h:Code c wb w lo n d g' cap code pos):Mk c wb w lo n d:=
 ⟨h.o,h.fr,_,code,pos,h.blk,h.own,h.lo,h.hi,h.ps,h.rg,λk hk=>by cases hk;exact h.nH⟩
theorem Code.ext {c:Mc} {wb w':O} {lo n d g' cap:Nat} {code:List gN} {pos:Nat} (h:Code c wb w lo n d g' cap code pos) (hx:aE w w'):Code c wb w' lo n d g' cap code pos:=
 ⟨h.o,h.fr.trans (Fr.of_ext hx) λ_ _ h=>h,h.blk.ext hx,hx.own h.own,h.lo,h.hi,h.ps,h.rg,h.nH⟩
theorem aIr {c:Mc} {lo:Nat} {code:List gN} {z:Int} {K':O->Prop} (h:Code c wb w lo n d g' cap code pos) (hkl:k < code.length)
  (hk:∀ w' code',code'.length=code.length->Code c wb w' lo n d g' cap code' pos->K' w'):U prog (Instr.storeAt 3 (.pointer (some ⟨g',0+k*3+1,none⟩)) (i64 z)) w λ_ w2=>K' w2:=by
 have hx:code[k]?=some code[k]:=List.getElem?_eq_getElem hkl;obtain ⟨s1,s2⟩:=h.own.stored (k*3+1) (i64 z);have hc:=h.own.cellAt (k*3+1) (by omega);rw [PR hx] at hc;rw [Nat.zero_add];have hgB:=h.o.gB.1;have hgg:c.B<=g':=(h.own.lt g' rfl).1;refine U.ok (mW fX rfl hc (h.own.frozenAt _)) (hk _ (code.set k ⟨code[k].op,z,code[k].b⟩) tA ⟨h.o,h.fr.set h.nH,?_,?_,?_,?_,h.ps,λy hy=>?_,h.nH⟩)
 ·rw [tA];exact h.blk.other (by omega)
 ·rw [tA,<- BL hx];exact s1
 ·rw [tA];exact h.lo
 ·rw [tA];exact h.hi
 ·rcases List.mem_or_eq_of_mem_set hy with hy|rfl
  ·exact h.rg y hy
  ·have:=h.rg code[k] (List.getElem_mem hkl);exact this
theorem aKi {c:Mc} {lo:Nat} {k a b e:Int} (h:Mk c wb w lo n 0) (hn:n+4000<=700000) {tv mv iv:Z} {tl:List Int} {ms:List gA} {is:List uO} (ht:∀ w',Fr (λk=>¬ c.H k) wb w'->aQ w' tv tl) (htl:tl.length<=1000000)
  (hm:∀ w',Fr (λk=>¬ c.H k) wb w'->mI w' mv ms) (hi:∀ w',Fr (λk=>¬ c.H k) wb w'->nV w' iv is) (m0:0 < ms.length/\ms.length<=1000) (m4:∀ m∈ms,m.params.length<=4) (i0:is.length<=1000) (i4:∀ x∈is,x.params.length<=4)
  (hk:∀ w',Mk c wb w' 0 (n+4000) 0->K (.tuple #[]) w') :
  aB prog 130 #[.pointer (some ⟨c.g,0,none⟩),.agg #[i64 k,i64 a,i64 b,i64 e],tv,mv,iv] w K:=by
 apply aHr;unfold LA;refine QG λw1 hB1 x1=>?_;have hh0:=h.hold x1 rfl hB1.lt;have fin:∀ {w' lo' n'},Mk (c.hold w.heap.size) w1 w' lo' n' 0->n'<=n+4000->K (.tuple #[]) w':=λhh hle=>hk _ ((h.back x1 hh).up hle);have bx1:∀ {w'},Fr (λk=>¬ (c.hold w.heap.size).H k) w1 w'->fB w' w.heap.size [i64 k,i64 a,i64 b,i64 e]:=λf=>dW.boxed (f.blk hB1 λhn=>hn (.inr rfl));have ht:=λw' f=>ht w' (h.stay (b:=w.heap.size) x1 f);have hm:=λw' f=>hm w' (h.stay (b:=w.heap.size) x1 f);have hi:=λw' f=>hi w' (h.stay (b:=w.heap.size) x1 f);have hll:=hh0.o.ll;have hgc:(c.hold w.heap.size).g=c.g:=rfl;rw [<- hgc];clear hB1;generalize c.hold w.heap.size=c' at *;generalize w.heap.size=rb at *;clear hgc h hk;refine bQ (bx1 (Fr.refl _ _)) dY aF rfl ?_;refine gX (by decide) (by decide) λq hq0 hq1=>?_;have hc:q=0\/q=1\/q=2\/q=3\/q=4\/q=5\/q=6\/q=7\/q=8\/q=9\/q=10\/q=11\/q=12\/q=13\/q=14\/q=15:=by omega
 rcases hc with rfl|rfl|rfl|rfl|rfl|rfl|rfl|rfl|rfl|rfl|rfl|rfl|rfl|rfl|rfl|rfl
 iterate 3
  ·simp only [aN,Int.reduceEq,Int.reduceNeg]
   intros
   have hloc:=hh0.locAt;obtain ⟨cv,code,pos,a1,_⟩:=hh0.at_;refine ⟨.inl ⟨_,rfl⟩,bQ (dW.boxed a1) dA bJ rfl (hU aM hloc (aO.2 (aK (λhz=>fin hh0 (by omega)) λhz=>?_)))⟩;have D1:aE w1 w1.drew:=(aE.refl _).drew;have hh1:=hh0.ext D1;have hlocd:=hh1.locAt;have hbx:∀ w',aE w1.drew w'->fB w' c'.g [cv,c'.nv,i64 pos,c'.lv,i64 (0:Nat)]:=λw' hx=>dW.boxed (a1.ext (D1.trans hx));refine aJ.mk' (λw'=>aE w1.drew w') (aE.refl _) ?_;refine gY (λw' hx=>(bx1 hh1.fr).ext hx) cU aF rfl ?_;refine ⟨.inl ⟨_,rfl⟩,gY hbx dA bJ rfl (qH aM hlocd ?_)⟩;refine gX (by omega) (by omega) λr hr0 hr1=>⟨aE.refl _,?_⟩;refine ⟨.inl ⟨_,rfl⟩,bQ (hbx _ (aE.refl _)) dA bJ rfl ?_⟩;obtain ⟨r,rfl⟩:∃ r2:Nat,r=r2:=⟨r.toNat,by omega⟩;refine kP aM aF hlocd (by omega) (by omega) (fD (jW (by omega))) ?_;refine CA hh1 (by omega) λw1 hh2=>?_;refine gT hh2 (by omega) λw1 hh3=>?_;exact fin hh3 (by omega)
 iterate 2
  ·simp only [aN,Int.reduceEq,Int.reduceNeg]
   intros
   refine bQ (bx1 hh0.fr) cU aF rfl ?_;refine gX (by decide) (by decide) λq hq0 hq1=>?_;refine dS.2 ?_;refine rP hh0 (by omega) λw1 hh1=>?_;refine mG qB.1 (by omega) hh1 (by omega) λw1 hh2=>?_;refine iL.2 ?_;refine CA hh2 (by omega) λw1 hh3=>?_;refine gT hh3 (by omega) λw1 hh4=>?_;exact fin hh4 (by omega)
 ·simp only [aN,Int.reduceEq,Int.reduceNeg]
  intros
  refine bQ (bx1 hh0.fr) cU aF rfl ?_;refine gX (by decide) (by decide) λq hq0 hq1=>?_;refine dS.2 ?_;refine CA hh0 (by omega) λw1 hh1=>?_;refine gT hh1 (by omega) λw1 hh2=>?_;exact fin hh2 (by omega)
 ·simp only [aN,Int.reduceEq,Int.reduceNeg]
  intros
  refine bQ (bx1 hh0.fr) cU aF rfl ?_;refine gX (by decide) (by decide) λq hq0 hq1=>?_;refine dS.2 ?_;refine bQ (bx1 hh0.fr) dO aF rfl ?_;refine gX (by decide) (by decide) λq hq0 hq1=>?_;refine dS.2 ?_;refine ⟨λv w'=>(∃ z,v=i64 z)/\w'=w1,?_,?_⟩
  ·exact aO.2 (aK (λ_=>⟨⟨_,rfl⟩,rfl⟩) λ_=>⟨⟨_,rfl⟩,rfl⟩)
  rintro _ _ ⟨⟨z,rfl⟩,rfl⟩ _;refine rP hh0 (by omega) λw1 hh1=>?_;refine mG qB.1 (by omega) hh1 (by omega) λw1 hh2=>?_;refine rP hh2 (by omega) λw1 hh3=>?_;refine mG qB.1 (by omega) hh3 (by omega) λw1 hh4=>?_;refine mG qB.1 (by omega) hh4 (by omega) λw1 hh5=>?_;refine gT hh5 (by omega) λw1 hh6=>?_;exact fin hh6 (by omega)
 iterate 2
  ·simp only [aN,Int.reduceEq,Int.reduceNeg]
   intros
   refine bQ (bx1 hh0.fr) cU aF rfl ?_;refine gX (by decide) (by decide) λq hq0 hq1=>?_;refine dS.2 ?_;refine dS.2 ?_;refine iL.2 ?_;refine rP hh0 (by omega) λw1 hh1=>?_;refine mG qB.1 (by omega) hh1 (by omega) λw1 hh2=>?_;refine mG qB.1 (by omega) hh2 (by omega) λw1 hh3=>?_;refine gT hh3 (by omega) λw1 hh4=>?_;exact fin hh4 (by omega)
 iterate 2
  ·simp only [aN,Int.reduceEq,Int.reduceNeg]
   intros
   refine qB.1 hh0 (by omega) λw1 hh1=>?_;refine gT hh1 (by omega) λw1 hh2=>?_;refine bQ (bx1 hh2.fr) cU aF rfl ?_;refine gX (by decide) (by decide) λr hr0 hr1=>?_;by_cases hr:r=0
   case neg=>
    simp only [hr,aN];exact fin hh2 (by omega)
   have htv:=ht _ hh2.fr;subst hr;simp only [aN];refine hU aM htv ?_;by_cases hgt:(tl.length:Int) > 0
   case neg=>
    simp only [hgt,aN];exact fin hh2 (by omega)
   simp only [hgt,aN];obtain ⟨g',cap,code,pos,hcd⟩:=hh2.code (Nat.le_refl _);have D1:aE w1 w1.drew:=(aE.refl _).drew;have hcd:=hcd.ext D1;have hlo:=hcd.lo;have hhi:=hcd.hi;have htv:=htv.ext D1;have hbr:=(bx1 hh2.fr).ext D1;refine aJ.mk' (λw'=>aE w1.drew w') (aE.refl _) ?_;refine ⟨.inl ⟨_,rfl⟩,gY (λw' hx=>dW.boxed (hcd.blk.ext hx)) bH fT rfl ?_⟩;refine ⟨.inl ⟨_,rfl⟩,gY (λw' hx=>dW.boxed (hcd.blk.ext hx)) bH fT rfl (qH iZ (aA.of_own hcd.own) ?_)⟩;refine aC.ok (λw' _=>fJ) ?_;rw [aU (by omega)];refine gY (λw' hx=>hbr.ext hx) dO aF rfl (qH aM htv ?_);refine gX (by omega) (by omega) λr hr0 hr1=>⟨aE.refl _,?_⟩;obtain ⟨r,rfl⟩:∃ r2:Nat,r=r2:=⟨r.toNat,by omega⟩;refine lT aM aF htv (λ_ h=>h) (by omega) (by omega) (fD (jW (by omega))) ?_;refine aC.ok (λw' _=>iG underlying71 mE (by omega) (by omega)) ?_;refine aC.ok (λw' _=>FA.ex aR w' _ _) ?_;rw [show ((code.length:Int) - 1).toNat=code.length - 1 by omega];exact aIr hcd (by omega) λw3 code' _ hc'=>fin hc'.toMk (by omega)
 iterate 2
  ·simp only [aN,Int.reduceEq,Int.reduceNeg]
   intros
   refine bQ (bx1 hh0.fr) cU aF rfl ?_;have hms:=hm _ hh0.fr;refine vS iA hms ?_;refine gX (by omega) (by omega) λr hr0 hr1=>?_;refine ⟨λv w'=>(∃ z:Nat,v=i64 z/\z < ms.length)/\w'=w1,?_,?_⟩
   ·have hr:(∃ z:Nat,i64 r=i64 z/\z < ms.length):=⟨r.toNat,by rw [Int.toNat_of_nonneg hr0],by omega⟩;refine aO.2 ?_;by_cases hz:r=0
    case neg=>
     simp only [hz,aN];exact ⟨hr,by trivial⟩
    simp only [hz,aN];refine bQ (bx1 hh0.fr) dO aF rfl ?_;refine rm (by decide) λe _ _ _=>?_;refine jJ.2 ?_;by_cases he:e > 0
    case neg=>
     simp only [he,aN];rw [hz] at hr;exact ⟨hr,by trivial⟩
    simp only [he,aN];refine vS iA hms (iL.2 ?_);rw [aU (by omega)];exact ⟨⟨ms.length - 1,by congr 1;omega,by omega⟩,rfl⟩
   rintro _ w9 ⟨⟨t,rfl,htl2⟩,hw9⟩ _;have hw9:=hw9.symm;subst hw9;obtain ⟨m,hmt⟩:=fQ htl2;have hm4:=m4 m (List.mem_of_getElem? hmt);refine ⟨λv w'=>∃ j:Nat,v=i64 j/\j<=m.params.length/\Mk c' w1 w' 0 (n+800*j) 0,λv _=>m.params.length - (RowKit.intOf v).toNat,⟨0,rfl,Nat.zero_le _,hh0.up (by omega)⟩,?_⟩;rintro _ w2 ⟨j,rfl,hj,h2⟩ _;refine rI iA dR bJ (hm _ h2.fr) hmt λrow hrow=>?_;obtain ⟨pv,lv,cv,rfl,hp,_,_⟩:=hrow;refine ⟨pv,rfl,by decide,hU aM hp (bP.2 (aK (λhlt=>?_) λhge=>?_))⟩
   ·refine rI iA dR bJ (hm _ h2.fr) hmt λrow hrow=>?_;obtain ⟨pv,lv,cv,rfl,hp,_,_⟩:=hrow;refine ⟨pv,rfl,by decide,?_⟩;refine kP aM aF hp (by omega) (by omega) (fD (jW (by omega))) ?_;refine CA h2 (by omega) λw3 h3=>dS.2 ?_;rw [aU (by omega),eI];exact ⟨⟨j+1,rfl,by omega,h3.up (by omega)⟩,by simp only [aW];omega⟩
   ·refine gT h2 (by omega) λw3 h3=>?_;refine rI iA eX aF (hm _ h3.fr) hmt λrow hrow=>?_;obtain ⟨pv,lv,cv,rfl,hp,_,_⟩:=hrow;refine ⟨_,rfl,by decide,dZ.2 (aK (λhr=>?_) λhr=>?_)⟩
    ·exact gT h3 (by omega) λw4 h4=>fin h4 (by omega)
    ·exact fin h3 (by omega)
 ·simp only [aN,Int.reduceEq,Int.reduceNeg]
  intros
  have his:=hi _ hh0.fr;refine vS lH his (aO.2 (aK (λhz=>fin hh0 (by omega)) λhz=>?_));refine bQ (bx1 hh0.fr) cU aF rfl ?_;refine vS lH his ?_;refine gX (by omega) (by omega) λr hr0 hr1=>?_;obtain ⟨t,rfl⟩:∃ r2:Nat,r=r2:=⟨r.toNat,by omega⟩;obtain ⟨m,hmt⟩:=fQ (l:=is) (j:=t) (by omega);have hm4:=i4 m (List.mem_of_getElem? hmt);refine ⟨λv w'=>∃ j:Nat,v=i64 j/\j<=m.params.length/\Mk c' w1 w' 0 (n+800*j) 0,λv _=>m.params.length - (RowKit.intOf v).toNat,⟨0,rfl,Nat.zero_le _,hh0.up (by omega)⟩,?_⟩;rintro _ w2 ⟨j,rfl,hj,h2⟩ _;refine rI lH bA bJ (hi _ h2.fr) hmt λrow hrow=>?_;obtain ⟨pv,rfl,hp⟩:=hrow;refine ⟨pv,rfl,by decide,hU aM hp (bP.2 (aK (λhlt=>?_) λhge=>?_))⟩
  ·refine rI lH bA bJ (hi _ h2.fr) hmt λrow hrow=>?_;obtain ⟨pv,rfl,hp⟩:=hrow;refine ⟨pv,rfl,by decide,?_⟩;refine kP aM aF hp (by omega) (by omega) (fD (jW (by omega))) ?_;refine CA h2 (by omega) λw3 h3=>dS.2 ?_;rw [aU (by omega),eI];exact ⟨⟨j+1,rfl,by omega,h3.up (by omega)⟩,by simp only [aW];omega⟩
  ·refine gT h2 (by omega) λw3 h3=>?_;refine rI lH bD aF (hi _ h3.fr) hmt λrow hrow=>?_;obtain ⟨pv,rfl,hp⟩:=hrow;refine ⟨_,rfl,by decide,dZ.2 (aK (λhr=>?_) λhr=>?_)⟩
   ·exact gT h3 (by omega) λw4 h4=>fin h4 (by omega)
   ·exact fin h3 (by omega)
 ·simp only [aN,Int.reduceEq,Int.reduceNeg]
  intros
  refine qB.1 hh0 (by omega) λw1 hh1=>?_;refine gT hh1 (by omega) λw1 hh2=>?_;refine gT hh2 (by omega) λw1 hh3=>?_;refine gT hh3 (by omega) λw1 hh4=>?_;exact fin hh4 (by omega)
 ·simp only [aN,Int.reduceEq,Int.reduceNeg]
  intros
  refine bQ (bx1 hh0.fr) cU aF rfl ?_;refine rm (by decide) λe _ _ _=>?_;refine gT hh0 (by omega) λw1 hh1=>?_;refine gT hh1 (by omega) λw1 hh2=>?_;exact fin hh2 (by omega)
end Go.Proofs.YtgkkecladbmjkaaGreatDoor
namespace Go.Vc
end Go.Vc
namespace Go.Proofs.YtgkkecladbmjkaaGreatDoor
open Tryz
open Go.Vc Go.Tc
variable {w:O} {K:Z->O->Prop}
variable {L N d i n:Nat} {ty:TypeId} {S:O->Prop} {wb:O}
structure Rw where
 k:Int
 a:Int
 b:Int
 e:Int
def aNp (_:O) (row:List Z) (x:Rw):Prop:=row=[i64 x.k,i64 x.a,i64 x.b,i64 x.e]
def iE (w:O) (v:Z) (l:List Rw):Prop:=(∃ a c,v=.slice a l.length c)/\(0 < l.length->eA aNp 4 w v l)
theorem iE.ext {w':O} {v:Z} {l:List Rw} (h:iE w v l) (hx:aE w w'):iE w' v l:=⟨h.1,λh0=>eA.ext (λh _=>h) (h.2 h0) hx⟩
theorem iE.of {v:Z} {l:List Rw} (h:eA aNp 4 w v l):iE w v l:=by
 obtain ⟨cs,h1⟩:=h.sl;exact ⟨h1.shape,λ_=>h⟩
theorem iE.str {v:Z} {l:List Rw} {x:Rw} (h:iE w v l) (hi:l[i]?=some x):eA aNp 4 w v l:=h.2 (by have:=(List.getElem?_eq_some_iff.1 hi).1;omega)
theorem lnR {t:TypeId} {v:Z} {l:List Rw} (h:XA prog t 4) (hs:iE w v l) (hk:K (i64 l.length) w):V prog (Builtin.len_ #[t] ty #[v]) w K:=by
 obtain ⟨e,z,b,ht,hi⟩:=h;obtain ⟨⟨a,c,rfl⟩,_⟩:=hs;exact V.ok (lU ht) hk
theorem aPr {L:Z->Prop} {t:TypeId} {v:Z} {l:List Rw} (h:XA prog t 4) (hs:iE w v l) (hk:L (i64 l.length)):aC prog S (Builtin.len_ #[t] ty #[v]) L:=by
 obtain ⟨e,z,b,ht,hi⟩:=h;obtain ⟨⟨a,c,rfl⟩,_⟩:=hs;exact aC.ok (λw' _=>lU ht) hk
theorem ySS {L:Z->Prop} {α:Type} {T:O->List Z->α->Prop} {sz:Nat} {t x:TypeId} {v:Z} {l:List α} {e:α} (h:XA prog t sz) (ht:∃ d z by_,Program.underlying prog x=some d/\nG d=true/\fH prog x z sz by_) (hs:eA T sz w v l) (hx:∀ w',S w'->aE w w') (hi:l[i]?=some e) (hT:∀ w row e,T w row e->row.length=sz)
  (hk:∀ row,T w row e->L (.agg row.toArray)):aC prog S (Instr.indexAt t v (i64 i)) λp=>aC prog S (Instr.loadAt x p) L:=by
 obtain ⟨cs,h1,h2⟩:=hs;obtain ⟨row,h3,h4⟩:=h2 i e hi;have hlt:i < l.length:=(List.getElem?_eq_some_iff.1 hi).1;obtain ⟨e',z,b',hte,hinf⟩:=h;obtain ⟨d,z',by_,g2,g3,g4⟩:=ht;obtain ⟨b,off,cap,rfl,hcell⟩:=h1.there (by omega);refine aC.ok (λw' _=>iG hte hinf (by omega) (by omega)) (aC.ok (λw' hw=>kZ (cs:=row) g2 g3 g4 (hT _ _ _ h4) λj hj=>?_) (hk row h4));obtain ⟨u,hu⟩:∃ u,row[j]?=some u:=⟨_,List.getElem?_eq_getElem hj⟩;rw [hu,Nat.add_assoc];refine (hx w' hw).cell (hcell _ u ?_);rw [<- h3,List.getElem?_take,List.getElem?_drop] at hu;split at hu
 ·simpa using hu
 ·cases hu
theorem OY {t:TypeId} {ts:Array TypeId} {a b:Int}:(Builtin.min_ ts t #[i64 a,i64 b]).run prog w=.ok (i64 (min a b)) w:=by
 rcases WG (P:=prog) (w:=w) (t:=t) (ts:=ts) (a:=a) (b:=b) with h|h
 ·rw [h];have:(if a < b then a else b)=min a b:=by split<;>omega
  rw [this]
 ·rw [h];have:(if b < a then b else a)=min a b:=by split<;>omega
  rw [this]
def Cd (c:Mc) (wb w:O) (L N d:Nat):Prop:=Mo c wb/\Fr (λk=>¬ c.H k) wb w/\∃ (cv:Z) (code:List gN) (pos:Nat),dW w c.g [cv,c.nv,i64 pos,c.lv,i64 d] 252/\w.ownsRow c.B 70 3 cv code.length (iJ code)/\code.length=L/\pos<=N/\(∀ x∈code,x.rg)/\∀ k,cv.ownBlock=some k->¬ c.H k
theorem Cd.mk {c:Mc} (h:Cd c wb w L N d) (h1:L<=n) (h2:N<=n):Mk c wb w 0 n d:=by
 obtain ⟨o,fr,cv,code,pos,a1,a2,a3,a4,a5,a6⟩:=h;exact ⟨o,fr,cv,code,pos,a1,a2,Nat.zero_le _,by omega,by omega,a5,a6⟩
theorem Cd.code {c:Mc} {wb:O} {L N d:Nat} (h:Cd c wb w L N d) (h1:0 < L):∃ g' cap code pos,code.length=L/\pos<=N/\Code c wb w L (L+N) d g' cap code pos:=by
 obtain ⟨o,fr,cv,code,pos,a1,a2,a3,a4,a5,a6⟩:=h;rcases a2.2 with ⟨_,e⟩|⟨g',cap,cur,rfl,_⟩
 ·exact absurd e (by omega)
 ·exact ⟨g',cap,code,pos,a3,a4,o,fr,a1,a2,by omega,by omega,by omega,a5,a6 _ rfl⟩
theorem Code.cd {c:Mc} {lo g' cap:Nat} {code:List gN} {pos:Nat} (h:Code c wb w lo n d g' cap code pos) (h1:code.length=L) (h2:pos<=N):Cd c wb w L N d:=
 ⟨h.o,h.fr,_,code,pos,h.blk,h.own,h1,h2,h.rg,λk hk=>by cases hk;exact h.nH⟩
theorem Mk.cd {c:Mc} {lo:Nat} (h:Mk c wb w lo n d):∃ L,L<=n/\Cd c wb w L n d:=by
 obtain ⟨o,fr,cv,code,pos,a1,a2,a3,a4,a5,a6,a7⟩:=h;exact ⟨_,a4,o,fr,cv,code,pos,a1,a2,rfl,a5,a6,a7⟩
theorem Cd.ext {c:Mc} {wb w':O} {L N d:Nat} (h:Cd c wb w L N d) (hx:aE w w'):Cd c wb w' L N d:=by
 obtain ⟨o,fr,cv,code,pos,a1,a2,a3⟩:=h;exact ⟨o,fr.trans (Fr.of_ext hx) λ_ _ h=>h,cv,code,pos,a1.ext hx,hx.own a2,a3⟩
theorem aRj {c:Mc} (h:Cd c wb w L N d) (hk:K (i64 (L:Nat)) w) :
  V prog (Instr.fieldAt 252 (.pointer (some ⟨c.g,0,none⟩)) 0) w λq w1=>V prog (Instr.loadAt 71 q) w1 λv w2=>V prog (Builtin.len_ #[71] ty #[v]) w2 K:=by
 obtain ⟨o,fr,cv,code,pos,a1,a2,rfl,_⟩:=h;exact bQ (dW.boxed a1) bH fT rfl (hU iZ (aA.of_own a2) hk)
theorem VF {c:Mc} {B:Nat} {v:Z} {code:List gN} {K':O->Prop} (h:Cd c wb w L N d) (ho:w.ownsRow B 70 3 v code.length (iJ code)) (hB:c.B<=B) (hr:∀ x∈code,x.rg) (hv:∀ k,v.ownBlock=some k->¬ c.H k)
  (hk:∀ w',Cd c wb w' code.length N d->K' w'):V prog (Instr.fieldAt 252 (.pointer (some ⟨c.g,0,none⟩)) 0) w λq w1=>U prog (Instr.storeAt 71 q v) w1 λ_ w2=>K' w2:=by
 obtain ⟨o,fr,cv,code0,pos,a1,a2,a3,a4,a5,a6⟩:=h;have hg:¬ c.H c.g:=λhg=>(o.hH _ hg).2 rfl;have hgB:=o.gB.1;refine CK bH vD a1 (n:=5) rfl (by decide) (iS ho) (hk _ ⟨o,fr.set hg,v,code,pos,a1.set 0 _,?_,rfl,a4,hr,hv⟩);exact aX ((Fr.of_set (S:=λi=>i=c.g) rfl).own ho λk hk he=>by have:=(ho.lt k hk).1;omega) hB
end Go.Proofs.YtgkkecladbmjkaaGreatDoor
namespace Go.Vc
theorem apS {P:Program} {w:O} {K:Z->O->Prop} {t e by_ ty:Nat} (h:XE P t e by_) {B:Nat} {v:Z} {n:Nat} {xs:List Z} (ho:w.ownsRow B e 1 v n xs) {x:Z} {m:Nat} {news:List Z} (hs:aA w x 1 m news) (h1:news.all gO=true)
  (hb:(n+m)*by_<=140737488355328) (h63:n+m<=maxLen) (hB:B<=w.heap.size)
  (hk:∀ v' w',w'.ownsRow B e 1 v' (n+m) (xs++news)->w.grownBy w' v.ownBlock->(v'.ownBlock=v.ownBlock\/v'.ownBlock=some w.heap.size)->K v' w') :
  V P (Builtin.append_ #[t,t] ty #[v,x]) w K:=by
 obtain ⟨z,ht,hi,hz⟩:=h;exact apG ht hi hz (by omega) ho hs h1 hb h63 hB hk
end Go.Vc
namespace Go.Proofs.YtgkkecladbmjkaaGreatDoor
open Tryz
open Go.Vc Go.Tc
variable {w:O} {K:Z->O->Prop}
theorem aCl {l:List gN} {k:Nat} {x:gN} (h:l[k]?=some x):(iJ l)[k*3+0]?=some (i64 x.op):=by
 have:=oD h
 have e:((iJ l).drop (k*3))[0]?=some (i64 x.op):=by
  rw [<- List.take_append_drop 3 ((iJ l).drop (k*3)),this];rfl
 rwa [List.getElem?_drop] at e
theorem Cd.weak {c:Mc} {wb:O} {L N d N':Nat} (h:Cd c wb w L N d) (h2:N<=N'):Cd c wb w L N' d:=by
 obtain ⟨o,fr,cv,code,pos,a1,a2,a3,a4,a5⟩:=h;exact ⟨o,fr,cv,code,pos,a1,a2,a3,by omega,a5⟩
theorem aMw {rv mv iv:Z} {rl:List Rw} {row:List Z} {m:gA} {ms:List gA} {is:List uO} (hr:iE w rv rl) (hrow:iO w row m) (hm:mI w mv ms) (hi:nV w iv is) (hb:nO w) (rn:rl.length<=5000000000000) (pl:m.params.length<=1000) (ll:m.locals.length<=1000)
  (m0:0 < ms.length/\ms.length<=1000) (m4:∀ m∈ms,m.params.length<=4) (i0:is.length<=1000) (i4:∀ x∈is,x.params.length<=4)
  (hk:∀ v code w',w'.ownsRow w.heap.size 70 3 v code.length (iJ code)->(∀ x∈code,x.rg)->code.length<=700000->aE w w'->K v w') :
  aB prog 84 #[rv,.agg row.toArray,mv,iv] w K:=by
 obtain ⟨pv,lv,cv,rfl,hp,hl,hc⟩:=hrow;apply aAa;unfold DZ;refine bx λb5 w1 hb5 x1=>?_;have hb5:fB w1 b5 [pv,i64 m.result,lv,cv]:=hb5;have D1:aE w1 w1.drew:=(aE.refl _).drew;have x2:=x1.trans D1;refine aJ.mk' (λw'=>aE w1.drew w') (aE.refl _) ?_;refine gY (λw' hx=>hb5.ext (D1.trans hx)) dR bJ rfl ?_;refine gY (λw' hx=>hb5.ext (D1.trans hx)) gI bJ rfl ?_;have hb5:=hb5.ext D1;generalize w1.drew=w2 at x2 hb5;clear D1;refine iT aZ [] rfl rfl (by simp) rfl λv3 w3 ho3 x3=>⟨x3,?_⟩;refine EK aZ ho3 (hp.ext (x2.trans x3)) (zX _) (by omega) (by unfold maxLen;omega) x3.size λv4 w4 ho4 hg4=>?_;have x4:aE w2 w4:=x3.grown hg4 λk hk=>(ho3.lt k hk).1;refine ⟨x4,EK aZ ho4 (hl.ext (x2.trans x4)) (zX _) (by omega) (by unfold maxLen;omega) x4.size λlv' w5 ho5 hg5=>?_⟩;have x5:aE w2 w5:=x4.grown hg5 λk hk=>(ho4.lt k hk).1;refine ⟨x5,mN ZA [(3,lv')] rfl (by simp [iS ho5]) ?_⟩
 have hloc:aQ w5 lv' (m.params++m.locals):=by
  have:=aA.of_own ho5;unfold aQ;simpa using this
 clear ho3 ho4 ho5 hg4 hg5;refine QG λw6 hB6 x6=>⟨x5.trans x6,?_⟩;have hB6:dW w6 w5.heap.size [cM,cM,i64 ((0:Nat):Int),lv',i64 ((0:Nat):Int)] 252:=hB6;have x25:=x2.trans x5;have hr:=hr.ext x25;have hm:=hm.ext x25;have hi:=hi.ext x25
 have hbins:nO w5:=λj hj=>by
  obtain ⟨n,hn⟩:=hb j hj;exact ⟨n,x25.cell hn⟩
 have hb5:=hb5.ext x5;have hw5:w.heap.size<=w5.heap.size:=x25.size;generalize hgg:w5.heap.size=g at hB6 hw5;clear x1 x3 x4;have hlocl:(m.params++m.locals).length<=1000000:=by simp;omega
 generalize m.params++m.locals=loc at hloc hlocl;refine ⟨λv w'=>∃ (j:Nat) (nv:Z) (nums:List Int),v=i64 j/\j<=rl.length/\nums.length=3*j/\aE w5 w'/\dW w' g [cM,nv,i64 ((0:Nat):Int),lv',i64 ((0:Nat):Int)] 252/\w'.ownsRow (g+1) 3 1 nv nums.length (nums.map i64),λv _=>rl.length - (RowKit.intOf v).toNat,⟨0,cM,[],rfl,Nat.zero_le _,rfl,x6,hB6,World.ownsRow_nil _ _ _ _⟩,?_⟩;rintro _ wB ⟨j,nv,nums,rfl,hj,hnl,xB,hBB,hoB⟩ _;have hlt5:=hBB.lt;refine lnR qI (hr.ext xB) (bP.2 (aK (λhlt=>?_) λhge=>?_))
 ·obtain ⟨x,hx⟩:=fQ (l:=rl) (j:=j) (by omega);have D2:aE wB wB.drew:=(aE.refl _).drew;have xd:=xB.trans D2;have hBd:=hBB.ext D2;have hod:=D2.own hoB;refine aJ.mk' (λw'=>aE w5 w'/\dW w' g [cM,nv,i64 ((0:Nat):Int),lv',i64 ((0:Nat):Int)] 252) ⟨xd,hBd⟩ ?_;refine ⟨.inl ⟨_,rfl⟩,gY (λw' hw=>dW.boxed hw.2) dB bJ rfl ?_⟩;refine ySF qI cU aF (hr.str hx) (λw' hw=>hw.1) hx λrow hrow=>⟨i64 x.a,by rw [hrow];rfl,by decide,?_⟩;refine ySF qI dO aF (hr.str hx) (λw' hw=>hw.1) hx λrow hrow=>⟨i64 x.b,by rw [hrow];rfl,by decide,?_⟩;refine ySF qI dX aF (hr.str hx) (λw' hw=>hw.1) hx λrow hrow=>⟨i64 x.e,by rw [hrow];rfl,by decide,?_⟩;refine iT aZ [i64 x.a,i64 x.b,i64 x.e] rfl rfl (by simp) rfl λv7 w7 ho7 x7=>⟨⟨xd.trans x7,hBd.ext x7⟩,?_⟩;have hs7:=hBd.lt;have hs8:=x7.size;refine EK aZ (x7.own hod) (aA.of_own ho7) rfl (by omega) (by unfold maxLen;omega) (by omega) λv8 w8 ho8 hg8=>?_;have hlo:∀ k,nv.ownBlock=some k->g+1<=k:=λk hk=>(hod.lt k hk).1;have x8:aE w5 w8:=(xd.trans x7).grown hg8 λk hk=>by have:=hlo k hk;omega
  have hB8:dW w8 g _ _:=(Fr.of_grown (S:=λk=>nv.ownBlock=some k) hg8 λk hk=>hk).blk (hBd.ext x7) λhk=>by have:=hlo _ hk;omega
  refine ⟨⟨x8,hB8⟩,⟨.inl ⟨_,rfl⟩,aC.ok (λw' hw=>FA.ex dB w' _ _) ?_⟩⟩;refine MA jM hB8 (n:=5) rfl (by decide) (iS ho8) (dS.2 ?_);rw [aU (by omega),eI];refine ⟨⟨j+1,v8,nums++[x.a,x.b,x.e],rfl,by omega,by simp;omega,x8.setCell (by omega) _,hB8.set 1 _,?_⟩,by simp only [aW];omega⟩;have:=(Fr.of_set (S:=λi=>i=g) (w:=w8) (b:=g) (o:=1) (v:=v8) rfl).own ho8 λk hk he=>by have:=(ho8.lt k hk).1;omega
  simpa using this
 have hf:∀ {w'},Fr (λk=>k=g\/wB.heap.size<=k) wB w'->aQ w' nv nums/\aE w5 w':=λf=>⟨aA.of_own (f.own hoB λk hk hS=>by have:=hoB.lt k hk;omega),f.ext xB λk hS=>by have:=xB.size;omega⟩
 have hMo:∀ (H:Nat->Prop) {w1:O},Fr (λk=>k=g\/wB.heap.size<=k) wB w1->(∀ k,k < wB.heap.size->¬ H k->k=g)->(∀ k,H k->k < w1.heap.size/\k≠g)->Mo ⟨H,wB.heap.size,g,nv,lv',nums,loc⟩ w1/\∀ w',Fr (λk=>¬ H k) w1 w'->Fr (λk=>k=g\/wB.heap.size<=k) wB w':=by
  intro H w1 f h1 h2;have tr:∀ w',Fr (λk=>¬ H k) w1 w'->Fr (λk=>k=g\/wB.heap.size<=k) wB w':=λw' f'=>f.trans f' λi hi hn=>.inl (h1 i hi hn);refine ⟨⟨⟨hlt5,f.size⟩,h2,λw' f'=>(hf (tr w' f')).1,λw' f'=>hloc.ext (hf (tr w' f')).2,λw' f' j hj=>?_,?_,hlocl⟩,tr⟩
  ·obtain ⟨n,hn⟩:=hbins j hj;exact ⟨n,(hf (tr w' f')).2.cell hn⟩
  ·show nums.length<=_;omega
 refine ⟨λtv v w'=>∃ (j:Nat) (tl:List Int) (cv:Z) (code:List gN) (pos:Nat),v=i64 j/\j<=rl.length/\j<=12/\tl.length=j/\Fr (λk=>k=g\/wB.heap.size<=k) wB w'/\dW w' g [cv,nv,i64 (pos:Nat),lv',i64 ((0:Nat):Int)] 252/\w'.ownsRow wB.heap.size 70 3 cv code.length (iJ code)/\code.length<=4100*j/\pos<=4100*j/\(∀ x∈code,x.rg)/\w'.ownsRow wB.heap.size 3 1 tv tl.length (tl.map i64)/\∀ k,cv.ownBlock=some k->tv.ownBlock≠some k,
  λ_ v _=>12 - (RowKit.intOf v).toNat,⟨0,[],cM,[],0,rfl,Nat.zero_le _,Nat.zero_le _,rfl,Fr.refl _ _,hBB,World.ownsRow_nil _ _ _ _,Nat.le_refl _,Nat.le_refl _,λ_ h=>by simp at h,World.ownsRow_nil _ _ _ _,λk hk=>by cases hk⟩,?_⟩
 rintro tv _ w9 ⟨j,tl,cv,code,pos,rfl,hj,hj12,htl,fr,hB9,ho9,hc9,hp9,hrg,hot,hne⟩ _;have hs9:=fr.size;have hng:∀ k,tv.ownBlock=some k->wB.heap.size<=k:=λk hk=>(hot.lt k hk).1
 have grow:∀ {K':Z->O->Prop},(∀ tv' w',Fr (λk=>k=g\/wB.heap.size<=k) wB w'->dW w' g [cv,nv,i64 (pos:Nat),lv',i64 ((0:Nat):Int)] 252->w'.ownsRow wB.heap.size 70 3 cv code.length (iJ code)->w'.ownsRow wB.heap.size 3 1 tv' (tl++[(code.length:Int)]).length ((tl++[(code.length:Int)]).map i64)->(∀ k,cv.ownBlock=some k->tv'.ownBlock≠some k)->K' tv' w') ->
   Go.Vc.aY (.pointer (some ⟨g,0,none⟩))/\V prog (Instr.fieldAt 252 (.pointer (some ⟨g,0,none⟩)) 0) w9 λt75 w29=>V prog (Instr.loadAt 71 t75) w29 λt76 w30=>V prog (Builtin.len_ #[71] 3 #[t76]) w30 λt77 w31=>V prog (Instr.buildSlice 42 1 #[(0,t77)]) w31 λt78 w32=>V prog (Builtin.append_ #[42,42] 42 #[tv,t78]) w32 K':=by
  intro K' hK;refine ⟨.inl ⟨_,rfl⟩,bQ (dW.boxed hB9) bH fT rfl (hU iZ (aA.of_own ho9) ?_)⟩;refine iT aZ [i64 (code.length:Nat)] rfl rfl (by simp) rfl λv7 w7 ho7 x7=>?_;have hs7:=x7.size;refine apS aZ (x7.own hot) (aA.of_own ho7) rfl (by omega) (by unfold maxLen;omega) (by omega) λv8 w8 ho8 hg8 hl8=>?_;have f8:Fr (λk=>tv.ownBlock=some k) w9 w8:=(Fr.of_ext x7).trans (Fr.of_grown hg8 λk hk=>hk) λ_ _ h=>h;refine hK v8 w8 (fr.trans f8 λi _ hi=>.inr (hng i hi)) (f8.blk hB9 λhk=>by have:=hng _ hk;omega) (f8.own ho9 λk hk hk'=>hne k hk hk') (by simpa using ho8) λk hk hk'=>?_;rcases hl8 with h8|h8
  ·rw [h8] at hk';exact hne k hk hk'
  ·rw [h8] at hk';cases hk';have:=(ho9.lt _ hk).2;omega
 have hold:∀ {tv':Z} {w':O} {L N:Nat},code.length=L->pos<=N->Fr (λk=>k=g\/wB.heap.size<=k) wB w'->dW w' g [cv,nv,i64 (pos:Nat),lv',i64 ((0:Nat):Int)] 252->w'.ownsRow wB.heap.size 70 3 cv code.length (iJ code)->w'.ownsRow wB.heap.size 3 1 tv' (tl++[(code.length:Int)]).length ((tl++[(code.length:Int)]).map i64)->(∀ k,cv.ownBlock=some k->tv'.ownBlock≠some k) ->
   ∃ H:Nat->Prop,Cd ⟨H,wB.heap.size,g,nv,lv',nums,loc⟩ w' w' L N 0/\(∀ w2,Fr (λk=>¬ H k) w' w2->Fr (λk=>k=g\/wB.heap.size<=k) wB w2/\w2.ownsRow wB.heap.size 3 1 tv' (tl++[(code.length:Int)]).length ((tl++[(code.length:Int)]).map i64))/\(∀ k,tv'.ownBlock=some k->H k):=by
  intro tv' w' L N hL hN f' hB' ho' ho2' hne';have hs:=f'.size;have hcv:∀ k,cv.ownBlock=some k->wB.heap.size<=k:=λk hk=>(ho'.lt k hk).1;have htv:∀ k,tv'.ownBlock=some k->k < w'.heap.size/\k≠g/\cv.ownBlock≠some k:=λk hk=>⟨(ho2'.lt k hk).2,by have:=(ho2'.lt k hk).1;omega,λhc=>hne' k hc hk⟩
  obtain ⟨mo,tr⟩:=hMo (λk=>k < w'.heap.size/\k≠g/\cv.ownBlock≠some k) f' (λk hk hH=>by
   apply Classical.byContradiction;intro hkg;exact hH ⟨by omega,hkg,λhc=>by have:=hcv k hc;omega⟩) (λk hk=>⟨hk.1,hk.2.1⟩)
  exact ⟨_,⟨mo,Fr.refl _ _,cv,code,pos,hB',ho',hL,hN,hrg,λk hk hH=>hH.2.2 hk⟩,λw2 f2=>⟨tr w2 f2,f2.own ho2' λk hk hH=>hH (htv k hk)⟩,htv⟩
 refine lnR qI (hr.ext (hf fr).2) (bP.2 ?_);by_cases c0:(j:Int) < (rl.length:Int)/\(j:Int) < 12/\(code.length:Int) < 70
 case pos=>
  obtain ⟨c1,c2,c3⟩:=c0;simp only [c1,c2,aN];refine ⟨.inl ⟨_,rfl⟩,bQ (dW.boxed hB9) bH fT rfl (hU iZ (aA.of_own ho9) (bP.2 ?_))⟩;simp only [c3,aN];refine grow λtv' w3 f3 hB3 ho3 ho4 hne3=>?_;obtain ⟨H,hcd,hst,htH⟩:=hold rfl (Nat.le_refl _) f3 hB3 ho3 ho4 hne3;have D3:aE w3 w3.drew:=(aE.refl _).drew;obtain ⟨x,hx⟩:=fQ (l:=rl) (j:=j) (by omega);obtain ⟨uv,urun,usl⟩:=MK underlying42 fX (aA.of_own ho4) (lo:=none) (hi':=some (.int .i64 (j:Int))) (a:=0) (b:=j) (.inl ⟨rfl,rfl⟩) (.inr rfl) (by omega) (by simp;omega);refine aJ.mk' (λw'=>aE w3 w') D3 ?_;refine ySS qI aLn ((hr.ext (hf f3).2).str hx) (λ_ h=>h) hx (λ_ row e h=>by rw [h];rfl) λrow hrow=>?_;have hrow:row=[i64 x.k,i64 x.a,i64 x.b,i64 x.e]:=hrow;subst hrow;refine aC.ok (λw' _=>urun _) ?_;have mk3:=(hcd.mk (n:=4100*j) hc9 hp9).ext D3;refine aKi (tl:=tl) (ms:=ms) (is:=is) mk3 (by omega) (λw' f=>?_) (by omega) (λw' f=>hm.ext (hf (hst w' f).1).2) (λw' f=>hi.ext (hf (hst w' f).1).2) m0 m4 i0 i4 λw4 h4=>dS.2 ?_
  ·have:=usl w' (aA.of_own (hst w' f).2);unfold aQ;rw [htl];simpa [<- htl] using this
  ·rw [aU (by omega),eI];obtain ⟨_,f4,cv4,code4,pos4,b1,b2,b3,b4,b5,b6,b7⟩:=h4;obtain ⟨f5,ho5⟩:=hst _ f4;exact ⟨⟨j+1,tl++[(code.length:Int)],cv4,code4,pos4,rfl,by omega,by omega,by simp [htl],f5,b1,b2,by omega,by omega,b6,ho5,λk hk hk'=>b7 k hk (htH k hk')⟩,by simp only [aW];omega⟩
 have c5:¬ ((j:Int) < (rl.length:Int))\/((j:Int) < (rl.length:Int)/\¬ ((j:Int) < 12))\/((j:Int) < (rl.length:Int)/\(j:Int) < 12/\¬ ((code.length:Int) < 70)):=by omega
 clear c0;rcases c5 with c1|⟨c1,c2⟩|⟨c1,c2,c3⟩
 case' neg.inl=>simp only [c1,aN]
 case' neg.inr.inl=>simp only [c1,c2,aN]
 case' neg.inr.inr=>
  simp only [c1,c2,aN];refine ⟨.inl ⟨_,rfl⟩,bQ (dW.boxed hB9) bH fT rfl (hU iZ (aA.of_own ho9) (bP.2 ?_))⟩;simp only [c3,aN]
 all_goals
  refine grow λtv' w3 f3 hB3 ho3 ho4 hne3=>?_;obtain ⟨H,hcd,hst,htH⟩:=hold (N:=4100*j) rfl hp9 f3 hB3 ho3 ho4 hne3;have htl':(tl++[(code.length:Int)]).length=j+1:=by simp [htl]
  clear hold grow;generalize tl++[(code.length:Int)]=tl' at *;clear hB9 ho9 hrg hot hne fr hng hs9 hB3 ho3 hne3 f3 hp9 htl;generalize code.length=L at *
  have fin:∀ {w' L N},Cd ⟨H,wB.heap.size,g,nv,lv',nums,loc⟩ w3 w' L N 0->L<=700000->Go.Vc.aY (.pointer (some ⟨g,0,none⟩))/\V prog (Instr.fieldAt 252 (.pointer (some ⟨g,0,none⟩)) 0) w' λt w=>V prog (Instr.loadAt 71 t) w K:=by
   intro w' L N hc hL;obtain ⟨_,f,cv,code,pos,b1,b2,b3,b4,b5,b6⟩:=hc;have hx:=(hf (hst _ f).1).2;have:=xB.size;exact ⟨.inl ⟨_,rfl⟩,bQ (dW.boxed b1) (by first|exact bO|exact cD|exact bB|exact cC|exact bV|exact bU|exact cG|exact cB|exact cF|exact bN|exact bI|exact bT|exact bG|exact bE|exact cA|exact bZ|exact bS|exact bK|exact bA|exact bD|exact bC|exact bM|exact cE|exact bL|exact cL|exact bY|exact cS|exact cR|exact cK|exact cQ|exact cP|exact cO|exact cJ|exact cI|exact cH|exact bX|exact cN|exact bW|exact cY|exact cX|exact cZ|exact dH|exact dG|exact dF|exact dM|exact dE|exact dD|exact dC|exact dL|exact dK|exact dJ|exact bH) (by first|exact eG|exact fO|exact eW|exact eV|exact eF|exact eY|exact fN|exact gF|exact gV|exact fM|exact aF|exact iX|exact iW|exact iM|exact jZ|exact bJ|exact iB|exact fS|exact mD|exact oV|exact lX|exact fT) rfl (hk _ code w' (aX b2 (show w.heap.size<=wB.heap.size by omega)) b5 (by omega) (x25.trans hx))⟩
  have hmt:∀ {w'},Fr (λk=>¬ H k) w3 w'->fB w' b5 [pv,i64 m.result,lv,_]:=λf=>hb5.ext (hf (hst _ f).1).2;refine ⟨λv w'=>∃ k:Nat,v=i64 k/\k<=L/\Cd ⟨H,wB.heap.size,g,nv,lv',nums,loc⟩ w3 w' L (4100*j) 0,λv _=>L - (RowKit.intOf v).toNat,⟨0,rfl,Nat.zero_le _,hcd⟩,?_⟩;clear hcd;rintro _ w10 ⟨k,rfl,hkL,hcd⟩ _;refine ⟨.inl ⟨_,rfl⟩,aRj hcd (bP.2 (aK (λhlt=>?_) λhge2=>?_))⟩
  ·obtain ⟨g',cap,code',pos',hcl,hpp,hC⟩:=hcd.code (by omega);obtain ⟨x,hx⟩:=fQ (l:=code') (j:=k) (by omega);have hsl:=aA.of_own hC.own
   have nxt:∀ {w'},Cd ⟨H,wB.heap.size,g,nv,lv',nums,loc⟩ w3 w' L (4100*j) 0->V prog (binOp .add 3 (i64 k) (i64 1)) w' λt w2=>(∃ k:Nat,t=i64 k/\k<=L/\Cd ⟨H,wB.heap.size,g,nv,lv',nums,loc⟩ w3 w2 L (4100*j) 0)/\L - (RowKit.intOf t).toNat < L - (RowKit.intOf (i64 (k:Int))).toNat:=by
    intro w' hc';refine mJ (by omega) ?_;exact ⟨⟨k+1,rfl,by omega,hc'⟩,by simp only [aW];omega⟩
   refine ⟨.inl ⟨_,rfl⟩,bQ (dW.boxed hC.blk) (by first|exact bO|exact cD|exact bB|exact cC|exact bV|exact bU|exact cG|exact cB|exact cF|exact bN|exact bI|exact bT|exact bG|exact bE|exact cA|exact bZ|exact bS|exact bK|exact bA|exact bD|exact bC|exact bM|exact cE|exact bL|exact cL|exact bY|exact cS|exact cR|exact cK|exact cQ|exact cP|exact cO|exact cJ|exact cI|exact cH|exact bX|exact cN|exact bW|exact cY|exact cX|exact cZ|exact dH|exact dG|exact dF|exact dM|exact dE|exact dD|exact dC|exact dL|exact dK|exact dJ|exact bH) (by first|exact eG|exact fO|exact eW|exact eV|exact eF|exact eY|exact fN|exact gF|exact gV|exact fM|exact aF|exact iX|exact iW|exact iM|exact jZ|exact bJ|exact iB|exact fS|exact mD|exact oV|exact lX|exact fT) rfl ?_⟩;refine aLk iZ aT (by first|exact eG|exact fO|exact eW|exact eV|exact eF|exact eY|exact fN|exact gF|exact gV|exact fM|exact aF) hsl (by omega) (by omega) (aCl hx) (aO.2 ?_)
   by_cases h24:x.op=24
   case neg=>simp only [h24,aN];exact nxt hcd
   simp only [h24,aN];refine ⟨.inl ⟨_,rfl⟩,bQ (dW.boxed hC.blk) (by first|exact bO|exact cD|exact bB|exact cC|exact bV|exact bU|exact cG|exact cB|exact cF|exact bN|exact bI|exact bT|exact bG|exact bE|exact cA|exact bZ|exact bS|exact bK|exact bA|exact bD|exact bC|exact bM|exact cE|exact bL|exact cL|exact bY|exact cS|exact cR|exact cK|exact cQ|exact cP|exact cO|exact cJ|exact cI|exact cH|exact bX|exact cN|exact bW|exact cY|exact cX|exact cZ|exact dH|exact dG|exact dF|exact dM|exact dE|exact dD|exact dC|exact dL|exact dK|exact dJ|exact bH) (by first|exact eG|exact fO|exact eW|exact eV|exact eF|exact eY|exact fN|exact gF|exact gV|exact fM|exact aF|exact iX|exact iW|exact iM|exact jZ|exact bJ|exact iB|exact fS|exact mD|exact oV|exact lX|exact fT) rfl ?_⟩;refine aLk iZ aR (by first|exact eG|exact fO|exact eW|exact eV|exact eF|exact eY|exact fN|exact gF|exact gV|exact fM|exact aF) hsl (by omega) (by omega) (PR hx) (bP.2 ?_)
   by_cases ha0:x.a < 0
   case neg=>simp only [ha0,aN];exact nxt hcd
   simp only [ha0,aN];refine ⟨λv w'=>∃ q:Nat,v=i64 q/\q < tl'.length/\w'=w10,λv _=>tl'.length - (RowKit.intOf v).toNat,⟨0,rfl,by omega,rfl⟩,?_⟩;rintro _ w11 ⟨q,rfl,hq,hw⟩ _;have hw:=hw.symm;subst hw;have hot:=aA.of_own (hst _ hC.fr).2;refine hU aM hot (iL.2 ?_);rw [aU (by omega)];refine bP.2 ?_;by_cases c0:(q:Int) < (tl'.length:Int) - 1/\cT tl' q<=(k:Int)
   case pos=>
    obtain ⟨c1,c2⟩:=c0;simp only [c1,aN];refine kP aM aF hot (by omega) (by omega) (fD (jW (by omega))) (rQ.2 ?_);simp only [c2,aN];refine mJ (by omega) ?_;exact ⟨⟨q+1,rfl,by omega,rfl⟩,by simp only [aW];omega⟩
   have c5:¬ ((q:Int) < (tl'.length:Int) - 1)\/((q:Int) < (tl'.length:Int) - 1/\¬ (cT tl' q<=(k:Int))):=by omega
   clear c0;rcases c5 with c1|⟨c1,c2⟩
   case' neg.inl=>simp only [c1,aN]
   case' neg.inr=>
    simp only [c1,aN];refine kP aM aF hot (by omega) (by omega) (fD (jW (by omega))) (rQ.2 ?_);simp only [c2,aN]
   all_goals
    have D1:aE w10 w10.drew:=(aE.refl _).drew;have hC:=hC.ext D1;have hot:=hot.ext D1;refine aJ.mk' (λw'=>aE w10.drew w') (aE.refl _) ?_;refine ⟨.inl ⟨_,rfl⟩,gY (λw' hx=>dW.boxed (hC.blk.ext hx)) (by first|exact bO|exact cD|exact bB|exact cC|exact bV|exact bU|exact cG|exact cB|exact cF|exact bN|exact bI|exact bT|exact bG|exact bE|exact cA|exact bZ|exact bS|exact bK|exact bA|exact bD|exact bC|exact bM|exact cE|exact bL|exact cL|exact bY|exact cS|exact cR|exact cK|exact cQ|exact cP|exact cO|exact cJ|exact cI|exact cH|exact bX|exact cN|exact bW|exact cY|exact cX|exact cZ|exact dH|exact dG|exact dF|exact dM|exact dE|exact dD|exact dC|exact dL|exact dK|exact dJ|exact bH) (by first|exact eG|exact fO|exact eW|exact eV|exact eF|exact eY|exact fN|exact gF|exact gV|exact fM|exact aF|exact iX|exact iW|exact iM|exact jZ|exact bJ|exact iB|exact fS|exact mD|exact oV|exact lX|exact fT) rfl ?_⟩;refine qH aM hot ?_;refine aC.ok (λw' _=>fJ) (aC.ok (λw' _=>AO) (aC.ok (λw' _=>OY) ?_))
    rw [show IntKind.i64.wrap ((tl'.length:Int) - 1)=(tl'.length:Int) - 1 from aU (by omega),show IntKind.i64.wrap ((q:Int)+1)=(q:Int)+1 from aU (by omega)];obtain ⟨r,hr2,hr3⟩:∃ r:Nat,min ((tl'.length:Int) - 1) ((q:Int)+1)=r/\r < tl'.length:=⟨min (tl'.length - 1) (q+1),by omega,by omega⟩;rw [hr2];refine lT aM aF hot (λ_ h=>h) (by omega) (by omega) (fD (jW hr3)) ?_;refine aC.ok (λw' _=>iG underlying71 mE (by omega) (by omega)) ?_;refine aC.ok (λw' _=>FA.ex aR w' _ _) ?_;rw [Int.toNat_natCast];exact aIr hC (by omega) λw12 code2 hl2 hC2=>nxt (hC2.cd (by omega) hpp)
  refine ⟨λw'=>∃ L',L'<=60000/\Cd ⟨H,wB.heap.size,g,nv,lv',nums,loc⟩ w3 w' L' 60000 0,?_,?_⟩
  ·refine bQ (hmt hcd.2.1) (by first|exact bO|exact cD|exact bB|exact cC|exact bV|exact bU|exact cG|exact cB|exact cF|exact bN|exact bI|exact bT|exact bG|exact bE|exact cA|exact bZ|exact bS|exact bK|exact bA|exact bD|exact bC|exact bM|exact cE|exact bL|exact cL|exact bY|exact cS|exact cR|exact cK|exact cQ|exact cP|exact cO|exact cJ|exact cI|exact cH|exact bX|exact cN|exact bW|exact cY|exact cX|exact cZ|exact dH|exact dG|exact dF|exact dM|exact dE|exact dD|exact dC|exact dL|exact dK|exact dJ|exact bH|exact dB|exact dQ|exact dA|exact dP|exact dY|exact cU|exact dO|exact dX|exact cW|exact cV|exact eQ|exact eO|exact eB|exact eM|exact eJ|exact fR|exact eE|exact dI|exact bF|exact fA|exact aT|exact aR|exact gJ|exact dR|exact eX) (by first|exact eG|exact fO|exact eW|exact eV|exact eF|exact eY|exact fN|exact gF|exact gV|exact fM|exact aF) rfl (dZ.2 (aK (λhr=>?_) λhr=>⟨L,by omega,hcd.weak (by omega)⟩));refine bQ (hmt hcd.2.1) (by first|exact bO|exact cD|exact bB|exact cC|exact bV|exact bU|exact cG|exact cB|exact cF|exact bN|exact bI|exact bT|exact bG|exact bE|exact cA|exact bZ|exact bS|exact bK|exact bA|exact bD|exact bC|exact bM|exact cE|exact bL|exact cL|exact bY|exact cS|exact cR|exact cK|exact cQ|exact cP|exact cO|exact cJ|exact cI|exact cH|exact bX|exact cN|exact bW|exact cY|exact cX|exact cZ|exact dH|exact dG|exact dF|exact dM|exact dE|exact dD|exact dC|exact dL|exact dK|exact dJ|exact bH|exact dB|exact dQ|exact dA|exact dP|exact dY|exact cU|exact dO|exact dX|exact cW|exact cV|exact eQ|exact eO|exact eB|exact eM|exact eJ|exact fR|exact eE|exact dI|exact bF|exact fA|exact aT|exact aR|exact gJ|exact dR|exact eX) (by first|exact eG|exact fO|exact eW|exact eV|exact eF|exact eY|exact fN|exact gF|exact gV|exact fM|exact aF) rfl ?_
   refine CA (hcd.mk (n:=49200) (by omega) (by omega)) (by omega) λw11 h11=>?_;obtain ⟨L',h1,h2⟩:=h11.cd;exact ⟨L',by omega,h2.weak (by omega)⟩
  rintro w11 ⟨L',hL',hcd'⟩ _;refine gT (hcd'.mk (n:=60000) (by omega) (by omega)) (by omega) λw12 h12=>?_;obtain ⟨L2,hL2,hcd2⟩:=h12.cd;refine ⟨.inl ⟨_,rfl⟩,aRj hcd2 (jJ.2 (aK (λhg=>?_) λhg=>fin hcd2 (by omega)))⟩;have hsB:wB.heap.size<=w12.heap.size:=(hst _ hcd2.2.1).1.size;refine kO iK [(0,i64 39)] rfl rfl ?_;refine vM underlying71 mE rfl (by decide) [.agg #[i64 39,i64 0,i64 0]] rfl rfl (by intro v hv;rw [List.mem_singleton] at hv;subst hv;rfl) (by decide) (by decide) λuv w13 ho13 x13=>?_;refine ⟨.inl ⟨_,rfl⟩,VF (code:=[⟨39,0,0⟩]) (hcd2.ext x13) ho13 hsB (by intro x hx;rw [List.mem_singleton] at hx;subst hx;exact ⟨by decide,by decide⟩) (λk hk hH=>?_) λw14 hcd4=>?_⟩
  ·have h1:=(ho13.lt k hk).1;have h2:=(hcd2.1.hH k hH).1;have h3:=hcd2.2.1.size;omega
  refine bQ (hmt hcd4.2.1) (by first|exact bO|exact cD|exact bB|exact cC|exact bV|exact bU|exact cG|exact cB|exact cF|exact bN|exact bI|exact bT|exact bG|exact bE|exact cA|exact bZ|exact bS|exact bK|exact bA|exact bD|exact bC|exact bM|exact cE|exact bL|exact cL|exact bY|exact cS|exact cR|exact cK|exact cQ|exact cP|exact cO|exact cJ|exact cI|exact cH|exact bX|exact cN|exact bW|exact cY|exact cX|exact cZ|exact dH|exact dG|exact dF|exact dM|exact dE|exact dD|exact dC|exact dL|exact dK|exact dJ|exact bH|exact dB|exact dQ|exact dA|exact dP|exact dY|exact cU|exact dO|exact dX|exact cW|exact cV|exact eQ|exact eO|exact eB|exact eM|exact eJ|exact fR|exact eE|exact dI|exact bF|exact fA|exact aT|exact aR|exact gJ|exact dR|exact eX) (by first|exact eG|exact fO|exact eW|exact eV|exact eF|exact eY|exact fN|exact gF|exact gV|exact fM|exact aF) rfl (dZ.2 (aK (λhr=>?_) λhr=>fin hcd4 (by simp)));refine kO iK [(0,i64 1)] rfl rfl (kO iK [(0,i64 39)] rfl rfl ?_)
  have hsB4:wB.heap.size<=w14.heap.size:=(hst _ hcd4.2.1).1.size;refine vM underlying71 mE rfl (by decide) [.agg #[i64 1,i64 0,i64 0],.agg #[i64 39,i64 0,i64 0]] rfl rfl (by intro v hv;simp only [List.mem_cons,List.not_mem_nil,or_false] at hv;rcases hv with rfl|rfl<;>rfl) (by decide) (by decide) λuv5 w15 ho15 x15=>?_;refine ⟨.inl ⟨_,rfl⟩,VF (code:=[⟨1,0,0⟩,⟨39,0,0⟩]) (hcd4.ext x15) ho15 hsB4 (by intro x hx;simp only [List.mem_cons,List.not_mem_nil,or_false] at hx;rcases hx with rfl|rfl<;>exact ⟨by decide,by decide⟩) (λk hk hH=>?_) λw16 hcd6=>fin hcd6 (by simp)⟩;have h1:=(ho15.lt k hk).1;have h2:=(hcd4.1.hH k hH).1;have h3:=hcd4.2.1.size;omega
end Go.Proofs.YtgkkecladbmjkaaGreatDoor
namespace Go.Vc
section
variable {P:Program} {w:O} {K:Z->O->Prop}
theorem tC (w:O) (s:ByteArray) (pos:Nat) (ty:TypeId) (h:pos < s.size) :
  (Instr.next (.pointer (some ⟨w.heap.size,0,none⟩)) true ty).run P (w.iter s pos)=.ok (.tuple #[.bool true,i64 pos,.int .i32 (Utf8.decode s pos).1]) (w.iter s (pos+(Utf8.decode s pos).2)):=by
 simp only [Instr.next,getObj,setObj,Sem.run_bind,Sem.run,World.iter_heap,Result.andThen,h,if_true,World.iter_set];simp [goInt]
theorem qC {a:Array Z} {n:Nat} {v:Z} (h:a[n]?=some v) (hk:K v w):V P (Instr.extract (.tuple a) n) w K:=V.ok (by simp [Instr.extract,h]) hk
theorem aIw {t:TypeId} (ht:P.underlying t=some .string) {s:ByteArray} {k:Nat} (h:k<=s.size):(Instr.sliceAt t (.string s) (some (i64 k)) none none).run P w=.ok (.string (s.extract k s.size)) w:=by
 simp [Instr.sliceAt,Instr.slice,run_underlying ht,Instr.sliceBounds,Instr.sliceBound,asIntOf,h]
theorem WI {t e n:TypeId} {z:Z} {by_ sz:Nat} (ht:P.underlying t=some (.array n e)) (hi:fH P e z sz by_) {b off:Nat} {k:IntKind} {i:Int} (h0:0<=i) (h1:i < n) :
  (Instr.indexAt t (.pointer (some ⟨b,off,none⟩)) (.int k i)).run P w=.ok (.pointer (some ⟨b,off+i.toNat*sz,none⟩)) w:=by
 simp [Instr.indexAt,asIntOf,run_underlying ht,Instr.sureAddr,gQ hi,h0,h1,jQ]
end
end Go.Vc
namespace Go.Proofs.YtgkkecladbmjkaaGreatDoor
open Tryz
open Go.Vc Go.Tc
variable {w:O} {K:Z->O->Prop}
variable {vs:List ByteArray}
def nmB:List ByteArray:=[⟨#[97,108,112,104,97]⟩,⟨#[98,195,169,116,97]⟩,⟨#[103,45,49]⟩,⟨#[100,46,195,191]⟩]
structure mS (w:O):Prop where
 f:w.cell? ⟨0,195,none⟩=some (.int .u8 2)
 a0:w.cell? ⟨1,0,none⟩=some (.int .u8 128)
 a1:w.cell? ⟨1,1,none⟩=some (.int .u8 191)
theorem mS.ext {w':O} (h:mS w) (hx:aE w w'):mS w':=⟨hx.cell h.f,hx.cell h.a0,hx.cell h.a1⟩
def aKf (t:ByteArray) (vs:List ByteArray):Prop:=t.size<=8/\(t.size=0\/(∃ c,t[0]?=some c/\c.toNat < 128/\t.extract 1 t.size∈vs)\/(∃ c,t[0]?=some 195/\t[1]?=some c/\128<=c.toNat/\c.toNat<=191/\t.extract 2 t.size∈vs))
theorem OR {s:ByteArray} (hT:mS w) (h0:s∈vs) (hvs:∀ t∈vs,aKf t vs) (hk:∀ w',aE w w'->K (.bool true) w'):aB prog 142 #[.string s] w K:=by
 apply aHl;unfold KV;refine ⟨λv w'=>∃ t,t∈vs/\v=.string t/\aE w w',λv _=>match v with|.string s=>s.size|_=>0,⟨s,h0,rfl,aE.refl _⟩,?_⟩;rintro _ w1 ⟨t,ht,rfl,x1⟩ _;obtain ⟨h8,hc⟩:=hvs t ht;refine V.ok (qP underlying9) (jJ.2 ?_);have hsz:∀ {j:Nat} {c:UInt8},t[j]?=some c->j < t.size:=λh=>(getElem?_eq_some_iff.1 h).1;have hex:∀ k,(t.extract k t.size).size=t.size - k:=λk=>by simp
 rcases hc with hz|⟨c,hc0,hlt,hmem⟩|⟨c,hc0,hc1,hlo,hhi,hmem⟩
 ·have:¬ (t.size:Int) > 0:=by omega
  simp only [this,aN];exact hk _ x1
 ·have hs:=hsz hc0;have e1:(t.size:Int) > 0:=by omega
  simp only [e1,aN];refine V.ok (sA underlying9 hc0) (bP.2 ?_);have e2:(c.toNat:Int) < 128:=by omega
  simp only [e2,aN];refine V.ok (aIw (k:=1) underlying9 (by omega)) ?_;refine ⟨λv w'=>v=.string (t.extract 1 t.size)/\w'=w1,V.ok (qP underlying9) (jJ.2 ?_),?_⟩
  ·have e3:¬ ((t.extract 1 t.size).size:Int) > 8:=by rw [hex];omega
   simp only [e3,aN];exact ⟨trivial,trivial⟩
  ·rintro _ _ ⟨rfl,rfl⟩ _;refine ⟨⟨_,hmem,rfl,x1⟩,?_⟩;show (t.extract 1 t.size).size < t.size;rw [hex];omega
 ·have hs0:=hsz hc0;have hs:=hsz hc1;have e1:(t.size:Int) > 0:=by omega
  simp only [e1,aN];refine V.ok (sA underlying9 hc0) (bP.2 ?_);have e2:¬ (((195:UInt8).toNat:Nat):Int) < 128:=by decide
  simp only [e2,aN];have hT1:=hT.ext x1;refine V.ok (WI underlying288 aLs (by decide) (by decide)) ?_;refine V.ok (aKp hT1.f) ?_;refine V.ok (v:=.int .u8 2) (w':=w1) (by kernel_rfl) ?_;refine V.ok (v:=i64 2) (w':=w1) (by kernel_rfl) ?_;refine V.ok (v:=.int .u8 0) (w':=w1) (by kernel_rfl) ?_;refine V.ok (WI underlying291 NA (by decide) (by decide)) ?_;obtain ⟨d,z,by_,g1,g2,g3⟩:=aLm;refine V.ok (kZ (cs:=[.int .u8 128,.int .u8 191]) g1 g2 g3 rfl λj hj=>?_) ?_
  ·match j,hj with
   | 0,_=>exact hT1.a0
   | 1,_=>exact hT1.a1
  refine pX VM rfl rfl λb2 w2 hb2 x2=>?_;have hb2:fB w2 b2 [.int .u8 128,.int .u8 191]:=hb2;refine aO.2 ?_;simp only [aN,Int.reduceEq];have D1:aE w2 w2.drew:=(aE.refl _).drew;refine aJ.mk' (λw'=>aE w2 w') D1 ?_;refine aC.ok (λw' _=>qP underlying9) (aC.ok (λw' _=>EZ) ?_);have e3:¬ (t.size:Int) < 2:=by omega
  simp only [e3,aN];refine aC.ok (λw' _=>sA underlying9 hc1) ?_;refine gY (λw' hw=>hb2.ext hw) eM oV rfl (aC.ok (λw' _=>EZ) ?_);have e4:¬ (c.toNat:Int) < 128:=by omega
  simp only [e4,aN];refine gY (λw' hw=>hb2.ext hw) eJ oV rfl ?_;refine aC.ok (λw' _=>sA underlying9 hc1) (aC.ok (λw' _=>EZ) ?_);have e5:¬ (191:Int) < (c.toNat:Int):=by omega
  simp only [e5,aN];refine V.ok (aIw (k:=2) underlying9 (by omega)) ?_;refine ⟨⟨_,hmem,rfl,(x1.trans x2).trans D1⟩,?_⟩;show (t.extract 2 t.size).size < t.size;rw [hex];omega
def rnB (c:Nat):Bool:=(97<=c&&c<=122)||(48<=c&&c<=57)||c == 45||c == 46||(224<=c&&c<=255)
theorem AH {c:Nat} (h:rnB c=true):(97<=c/\c<=122)\/(¬ (97<=c)/\48<=c/\c<=57)\/c=45\/c=46\/(224<=c/\c<=255):=by
 simp only [rnB,Bool.or_eq_true,Bool.and_eq_true,decide_eq_true_eq,beq_iff_eq] at h;omega
theorem TQ {c:Nat} (h:rnB c=true) (hk:K (.bool true) w):aB prog 242 #[.int .i32 c] w K:=by
 apply aEu;unfold IJ;rcases AH h with ⟨h1,h2⟩|⟨h0,h1,h2⟩|rfl|rfl|⟨h1,h2⟩
 ·have a1:(c:Int)>=97:=by omega
  have a2:(c:Int)<=122:=by omega
  simp only [a1,a2,aN];exact hk
 ·have a1:¬ (c:Int)>=97:=by omega
  have a2:(c:Int)>=48:=by omega
  have a3:(c:Int)<=57:=by omega
  simp only [a1,a2,a3,aN];exact hk
 ·simp only [show ((45:Nat):Int)=45 from rfl,aN,Int.reduceGE];exact hk
 ·simp only [show ((46:Nat):Int)=46 from rfl,aN,Int.reduceEq,Int.reduceGE];exact hk
 ·have a1:(c:Int)>=97:=by omega
  have a2:¬ (c:Int)<=122:=by omega
  have a3:(c:Int)>=48:=by omega
  have a4:¬ (c:Int)<=57:=by omega
  have a5:¬ (c:Int)=45:=by omega
  have a6:¬ (c:Int)=46:=by omega
  have a7:(c:Int)>=224:=by omega
  have a8:(c:Int)<=255:=by omega
  simp only [a1,a2,a3,a4,a5,a6,a7,a8,aN];exact hk
def aKz (s:ByteArray) (vs:List ByteArray) (ps:List Nat):Prop:=(s∈vs/\∀ t∈vs,aKf t vs)/\(1<=s.size/\s.size<=16)/\0∈ps/\∀ p∈ps,p < s.size->rnB (Utf8.decode s p).1=true/\p+(Utf8.decode s p).2∈ps/\0 < (Utf8.decode s p).2
theorem GF {s:ByteArray} {ps:List Nat} (hT:mS w) (h:aKz s vs ps):aB prog 109 #[.string s] w (eC True w):=by
 obtain ⟨⟨h1,h2⟩,⟨h3,h4⟩,h5,h6⟩:=h;apply aIl;suffices key:∀ R:Z->O->Prop,(∀ w',aE w w'->R (.bool true) w')->zN (.string s) w R from key _ λ_ hx=>eC.yes trivial hx;intro R hR;unfold zN;refine V.ok (qP underlying9) (bP.2 ?_);have e1:¬ (s.size:Int) < 1:=by omega
 simp only [e1,aN];refine V.ok (qP underlying9) (jJ.2 ?_);have e2:¬ (s.size:Int) > 16:=by omega
 simp only [e2,aN];refine OR hT h1 h2 λw1 x1=>gG.2 ?_;simp only [aN];refine V.ok (run_range_string _ _ _ underlying9) ?_;refine ⟨λw'=>∃ p∈ps,w'=w1.iter s p,λw'=>mu λq=>∃ p∈ps,w'=w1.iter s p/\s.size - p=q,⟨0,h5,rfl⟩,?_⟩;rintro _ ⟨p0,hp0,rfl⟩ _;obtain ⟨p,hp,hpe,hmu⟩:=tJ (p:=λq=>∃ p∈ps,w1.iter s p0=w1.iter s p/\s.size - p=q) ⟨_,p0,hp0,rfl,rfl⟩;rw [hpe];rw [hpe] at hmu;by_cases hlt:p < s.size
 ·obtain ⟨g1,g2,g3⟩:=h6 p hp hlt;refine V.ok (tC _ _ _ _ hlt) (qC (v:=.bool true) rfl (aS.2 (qC (v:=.int .i32 ((Utf8.decode s p).1:Nat)) rfl ?_)))
  have hmu':mu (λq=>∃ p'∈ps,w1.iter s (p+(Utf8.decode s p).2)=w1.iter s p'/\s.size - p'=q) < mu (λq=>∃ p'∈ps,w1.iter s p=w1.iter s p'/\s.size - p'=q):=by
   rw [<- hmu];exact Nat.lt_of_le_of_lt (FT ⟨_,g2,rfl,rfl⟩) (by omega)
  generalize (Utf8.decode s p).2=wd at *;generalize (Utf8.decode s p).1=c at *;rcases AH g1 with ⟨h1,h2⟩|⟨h0,h1,h2⟩|rfl|rfl|⟨h1,h2⟩
  ·have a1:(c:Int)>=97:=by omega
   have a2:(c:Int)<=122:=by omega
   simp only [a1,a2,aN];exact ⟨⟨_,g2,rfl⟩,hmu'⟩
  ·have a1:¬ (c:Int)>=97:=by omega
   have a2:(c:Int)>=48:=by omega
   have a3:(c:Int)<=57:=by omega
   simp only [a1,a2,a3,aN];exact ⟨⟨_,g2,rfl⟩,hmu'⟩
  ·simp only [show ((45:Nat):Int)=45 from rfl,aN,Int.reduceGE];exact ⟨⟨_,g2,rfl⟩,hmu'⟩
  ·simp only [show ((46:Nat):Int)=46 from rfl,aN,Int.reduceEq,Int.reduceGE];exact ⟨⟨_,g2,rfl⟩,hmu'⟩
  ·have a1:(c:Int)>=97:=by omega
   have a2:¬ (c:Int)<=122:=by omega
   have a3:(c:Int)>=48:=by omega
   have a4:¬ (c:Int)<=57:=by omega
   have a5:¬ (c:Int)=45:=by omega
   have a6:¬ (c:Int)=46:=by omega
   have a7:(c:Int)>=224:=by omega
   have a8:(c:Int)<=255:=by omega
   simp only [a1,a2,a3,a4,a5,a6,a7,a8,aN];exact ⟨⟨_,g2,rfl⟩,hmu'⟩
 ·refine V.ok (run_next_end _ _ _ _ hlt) (qC rfl (aD.2 ?_));exact hR _ (x1.trans ((aE.refl _).alloc _))
theorem BG {s:ByteArray} {ps:List Nat} (hT:mS w) (h:aKz s vs ps) (hne:(s.toList == ({ data:=#[] }:ByteArray).toList)=false):aB prog 224 #[.string s] w (eC True w):=by
 obtain ⟨⟨h1,h2⟩,⟨h3,h4⟩,h5,h6⟩:=h;apply aFj;suffices key:∀ R:Z->O->Prop,(∀ w',aE w w'->R (.bool true) w')->yV (.string s) w R from key _ λ_ hx=>eC.yes trivial hx;intro R hR;unfold yV;refine V.ok PB ?_;rw [hne];simp only [aN];refine V.ok (qP underlying9) (jJ.2 ?_);have e2:¬ (s.size:Int) > 16:=by omega
 simp only [e2,aN];refine OR hT h1 h2 λw1 x1=>gG.2 ?_;simp only [aN];refine V.ok (run_range_string _ _ _ underlying9) ?_;refine ⟨λw'=>∃ p∈ps,w'=w1.iter s p,λw'=>mu λq=>∃ p∈ps,w'=w1.iter s p/\s.size - p=q,⟨0,h5,rfl⟩,?_⟩;rintro _ ⟨p0,hp0,rfl⟩ _;obtain ⟨p,hp,hpe,hmu⟩:=tJ (p:=λq=>∃ p∈ps,w1.iter s p0=w1.iter s p/\s.size - p=q) ⟨_,p0,hp0,rfl,rfl⟩;rw [hpe];rw [hpe] at hmu;by_cases hlt:p < s.size
 ·obtain ⟨g1,g2,g3⟩:=h6 p hp hlt;refine V.ok (tC _ _ _ _ hlt) (qC (v:=.bool true) rfl (aS.2 (qC (v:=.int .i32 ((Utf8.decode s p).1:Nat)) rfl ?_)));refine TQ g1 (gG.2 (aD.2 ⟨⟨_,g2,rfl⟩,?_⟩));show mu _ < mu _;rw [<- hmu];exact Nat.lt_of_le_of_lt (FT ⟨_,g2,rfl,rfl⟩) (by omega)
 ·refine V.ok (run_next_end _ _ _ _ hlt) (qC rfl (aD.2 ?_));exact hR _ (x1.trans ((aE.refl _).alloc _))
def XJ (t:ByteArray) (vs:List ByteArray):Bool:=vs.any λu=>decide (u.data=t.data)
theorem DE {t:ByteArray} (h:XJ t vs=true):t∈vs:=by
 simp only [XJ,List.any_eq_true,decide_eq_true_eq] at h;obtain ⟨u,hu,he⟩:=h;have:u=t:=ByteArray.ext he;subst this;exact hu
def VA (t:ByteArray) (vs:List ByteArray):Bool:=
 decide (t.size<=8)&&(decide (t.size=0)||(match t[0]? with
  | some c=>(decide (c.toNat < 128)&&XJ (t.extract 1 t.size) vs)||(decide (c=195)&&(match t[1]? with
   | some d=>decide (128<=d.toNat/\d.toNat<=191)&&XJ (t.extract 2 t.size) vs
   | none=>false))
  | none=>false))
theorem UZ {t:ByteArray} (h:VA t vs=true):aKf t vs:=by
 simp only [VA,Bool.and_eq_true,Bool.or_eq_true,decide_eq_true_eq] at h;refine ⟨h.1,?_⟩;rcases h.2 with h2|h2
 ·exact .inl h2
 ·right;cases h0:t[0]? with
  | none=>rw [h0] at h2;cases h2
  | some c=>
   rw [h0] at h2;simp only [Bool.or_eq_true,Bool.and_eq_true,decide_eq_true_eq] at h2;rcases h2 with ⟨a,b⟩|⟨a,b⟩
   ·exact .inl ⟨c,rfl,a,DE b⟩
   ·subst a;cases h1:t[1]? with
    | none=>rw [h1] at b;cases b
    | some d=>
     rw [h1] at b;simp only [Bool.and_eq_true,decide_eq_true_eq] at b;exact .inr ⟨d,rfl,rfl,b.1.1,b.1.2,DE b.2⟩
def PJ (s:ByteArray) (vs:List ByteArray) (ps:List Nat):Bool:=
 (XJ s vs&&vs.all λt=>VA t vs)&&decide (1<=s.size/\s.size<=16)&&decide (0∈ps)&&ps.all λp=>!decide (p < s.size)||(rnB (Utf8.decode s p).1&&decide (p+(Utf8.decode s p).2∈ps)&&decide (0 < (Utf8.decode s p).2))
theorem qO {s:ByteArray} {ps:List Nat} (h:PJ s vs ps=true):aKz s vs ps:=by
 simp only [PJ,Bool.and_eq_true,decide_eq_true_eq,List.all_eq_true] at h;obtain ⟨⟨⟨⟨h1,h2⟩,h3⟩,h4⟩,h5⟩:=h;refine ⟨⟨DE h1,λt ht=>UZ (h2 t ht)⟩,h3,h4,λp hp hlt=>?_⟩;have:=h5 p hp;simp only [hlt,decide_true,Bool.not_true,Bool.false_or,Bool.and_eq_true,decide_eq_true_eq] at this;exact ⟨this.1.1,this.1.2,this.2⟩
theorem MS {s:ByteArray} (h:s∈nmB) (hT:mS w):pY w s:=by
 have key:∀ {vs:List ByteArray} {ps:List Nat},PJ s vs ps=true->(s.toList == ({ data:=#[] }:ByteArray).toList)=false->pY w s:=λh1 h2 w' hx=>⟨GF (hT.ext hx) (qO h1),BG (hT.ext hx) (qO h1) h2,(qO h1).2.1.2⟩;simp only [nmB,List.mem_cons,List.not_mem_nil,or_false] at h;rcases h with rfl|rfl|rfl|rfl
 ·exact key (vs:=[⟨#[97,108,112,104,97]⟩,⟨#[108,112,104,97]⟩,⟨#[112,104,97]⟩,⟨#[104,97]⟩,⟨#[97]⟩,⟨#[]⟩]) (ps:=[0,1,2,3,4,5]) (by kernel_rfl) (by kernel_rfl)
 ·exact key (vs:=[⟨#[98,195,169,116,97]⟩,⟨#[195,169,116,97]⟩,⟨#[116,97]⟩,⟨#[97]⟩,⟨#[]⟩]) (ps:=[0,1,3,4,5]) (by kernel_rfl) (by kernel_rfl)
 ·exact key (vs:=[⟨#[103,45,49]⟩,⟨#[45,49]⟩,⟨#[49]⟩,⟨#[]⟩]) (ps:=[0,1,2,3]) (by kernel_rfl) (by kernel_rfl)
 ·exact key (vs:=[⟨#[100,46,195,191]⟩,⟨#[46,195,191]⟩,⟨#[195,191]⟩,⟨#[]⟩]) (ps:=[0,1,2,4]) (by kernel_rfl) (by kernel_rfl)
theorem MT {n:Int} (hk:∀ s∈nmB,K (.string s) w):aB prog 83 #[i64 n] w K:=by
 apply aOb;unfold QZ;refine aCz (v:=.agg (nmB.map Value.string).toArray) (λw=>by kernel_rfl) ?_;refine gX (by decide) (by decide) λq hq0 hq1=>?_;have hc:q=0\/q=1\/q=2\/q=3:=by omega
 rcases hc with rfl|rfl|rfl|rfl
 ·exact V.ok (v:=.string ⟨#[97,108,112,104,97]⟩) (w':=w) (by kernel_rfl) (hk _ (by simp [nmB]))
 ·exact V.ok (v:=.string ⟨#[98,195,169,116,97]⟩) (w':=w) (by kernel_rfl) (hk _ (by simp [nmB]))
 ·exact V.ok (v:=.string ⟨#[103,45,49]⟩) (w':=w) (by kernel_rfl) (hk _ (by simp [nmB]))
 ·exact V.ok (v:=.string ⟨#[100,46,195,191]⟩) (w':=w) (by kernel_rfl) (hk _ (by simp [nmB]))
end Go.Proofs.YtgkkecladbmjkaaGreatDoor
namespace Go.Vc
section
variable {P:Program} {w:O} {K:Z->O->Prop}
theorem aQo {t e sz:Nat} {z:Z} {by_:Nat} (ht:P.underlying t=some (.slice e)) (hi:fH P e z sz by_) {v:Z} {n:Nat} {cs:List Z} (h:aA w v sz n cs) {lo hi':Option Z} {a b:Nat} (ha:(lo=none/\a=0)\/lo=some (.int .i64 a)) (hb:(hi'=none/\b=n)\/hi'=some (.int .i64 b)) (hab:a<=b) (hbn:b<=n) :
  ∃ v',(∀ w',(Instr.sliceAt t v lo hi' none).run P w'=.ok v' w')/\∀ w2,aA w2 v sz n cs->aA w2 v' sz (b - a) ((cs.drop (a*sz)).take ((b - a)*sz)):=by
 have hcl:cs.length=n*sz:=h.1;have hmul:(b - a)*sz+a*sz<=n*sz:=by rw [<- Nat.add_mul];exact Nat.mul_le_mul_right _ (by omega)
 rcases h.2 with ⟨rfl,h0⟩|⟨g,off,cap,rfl,h1,h2,_⟩
 ·have ea:a=0:=by omega
  have eb:b=0:=by omega
  subst ea eb;refine ⟨.slice none 0 0,λw'=>?_,λw2 _=>?_⟩
  ·rcases ha with ⟨rfl,_⟩|rfl<;>rcases hb with ⟨rfl,_⟩|rfl<;>simp [Instr.sliceAt,Instr.slice,run_underlying ht,gQ hi,Instr.sliceBounds,Instr.sliceBound,asIntOf]
  ·simp;exact aA.nil w2 _
 ·have hb1:(0:Int)<=b/\(b:Int)<=cap:=⟨by omega,by omega⟩;have ha1:(0:Int)<=a/\(a:Int)<=b:=⟨by omega,by omega⟩;have hbc:b<=cap:=by omega
  refine ⟨.slice (if cap=a then some ⟨g,off,none⟩ else (some (⟨g,off,none⟩:Addr)).map (·.add (a*sz))) (b - a) (cap - a),λw'=>?_,λw2 hw2=>?_⟩
  ·rcases ha with ⟨rfl,rfl⟩|rfl<;>rcases hb with ⟨rfl,rfl⟩|rfl<;>simp [Instr.sliceAt,Instr.slice,run_underlying ht,gQ hi,Instr.sliceBounds,Instr.sliceBound,asIntOf,hab,hbc]
  ·refine ⟨by rw [List.length_take,List.length_drop];omega,.inr ?_⟩;by_cases hca:cap=a
   ·rw [if_pos hca];have e0:b - a=0:=by omega
    exact ⟨g,off,cap - a,rfl,by omega,by omega,λj u hj=>by rw [e0] at hj;simp at hj⟩
   ·rw [if_neg hca];rcases hw2.2 with ⟨he,_⟩|⟨g',off',cap',he,_,_,h3⟩
    ·cases he
    ·cases he;refine ⟨g,off+a*sz,cap - a,by simp [jQ],by omega,by omega,λj u hj=>?_⟩;rw [List.getElem?_take] at hj;split at hj
     ·rw [List.getElem?_drop] at hj;have:=h3 _ _ hj;rw [Nat.add_assoc];exact this
     ·cases hj
end
end Go.Vc
namespace Go.Proofs.YtgkkecladbmjkaaGreatDoor
open Tryz
open Go.Vc Go.Tc
variable {w:O} {K:Z->O->Prop}
theorem eA.part {α:Type} {T:O->List Z->α->Prop} {sz t e by_:Nat} {z v:Z} {l:List α} (ht:Program.underlying prog t=some (.slice e)) (hi:fH prog e z sz by_) (h:eA T sz w v l) {lo hi':Option Z} {a b:Nat} (ha:(lo=none/\a=0)\/lo=some (.int .i64 a)) (hb:(hi'=none/\b=l.length)\/hi'=some (.int .i64 b)) (hab:a<=b) (hbn:b<=l.length) :
  ∃ v',(∀ w',(Instr.sliceAt t v lo hi' none).run prog w'=.ok v' w')/\eA T sz w v' ((l.drop a).take (b - a)):=by
 obtain ⟨cs,h1,h2⟩:=h;obtain ⟨v',hr,hs⟩:=aQo ht hi h1 ha hb hab hbn;refine ⟨v',hr,(cs.drop (a*sz)).take ((b - a)*sz),?_,λk x hk=>?_⟩
 ·have:=hs w h1
  rwa [show ((l.drop a).take (b - a)).length=b - a by simp;omega]
 ·rw [List.getElem?_take] at hk;split at hk
  case isFalse=>cases hk
  rename_i hlt
  rw [List.getElem?_drop] at hk;obtain ⟨row,h3,h4⟩:=h2 (a+k) x hk;refine ⟨row,?_,h4⟩
  have hle:k*sz+sz<=(b - a)*sz:=by
   have:=Nat.mul_le_mul_right sz (show k+1<=b - a by omega);rw [Nat.add_mul,Nat.one_mul] at this;exact this
  have hmin:min sz ((b - a)*sz - k*sz)=sz:=Nat.min_eq_left (by omega);rw [<- h3,List.drop_take,List.drop_drop,List.take_take,Nat.add_mul,hmin]
theorem iE.part {t e by_:Nat} {z v:Z} {l:List Rw} (ht:Program.underlying prog t=some (.slice e)) (hi:fH prog e z 4 by_) (h:iE w v l) {lo hi':Option Z} {a b:Nat} (ha:(lo=none/\a=0)\/lo=some (.int .i64 a)) (hb:(hi'=none/\b=l.length)\/hi'=some (.int .i64 b)) (hab:a<=b) (hbn:b<=l.length) :
  ∃ v',(∀ w',(Instr.sliceAt t v lo hi' none).run prog w'=.ok v' w')/\iE w v' ((l.drop a).take (b - a)):=by
 by_cases h0:0 < l.length
 ·obtain ⟨v',h1,h2⟩:=eA.part ht hi (h.2 h0) ha hb hab hbn;exact ⟨v',h1,iE.of h2⟩
 ·obtain ⟨⟨a0,c,rfl⟩,_⟩:=h;have el:l=[]:=List.length_eq_zero_iff.1 (by omega);subst el;obtain rfl:a=0:=by simp at hbn;omega
  obtain rfl:b=0:=by simpa using hbn
  refine ⟨.slice (if c=0 then a0 else a0.map (·.add (0*4))) 0 c,λw'=>?_,⟨_,_,rfl⟩,λh=>by simp at h⟩
  rcases ha with ⟨rfl,_⟩|rfl<;>rcases hb with ⟨rfl,_⟩|rfl<;>simp [Instr.sliceAt,Instr.slice,run_underlying ht,gQ hi,Instr.sliceBounds,Instr.sliceBound,asIntOf]
theorem VE {t s f o ft sz n g cap B e:Nat} {ez fz:Z} {eb fb:Nat} {xs:List Z} {k:Nat} {u:Z} {K':O->Prop} (_:Program.underlying prog t=some (.slice e)) (_:fH prog e ez sz eb) (_:FA prog s f o) (hft:fH prog ft fz 1 fb)
  (ho:w.ownsRow B e sz (.slice (some ⟨g,0,none⟩) n cap) n xs) (hk:k < n) (hos:o < sz) (hu:gO u=true) (hK:∀ w',w'=w.setCell ⟨g,k*sz+o,none⟩ u->w'.ownsRow B e sz (.slice (some ⟨g,0,none⟩) n cap) n (xs.set (k*sz+o) u)->Fr (λi=>i=g) w w'->K' w') :
  U prog (Instr.storeAt ft (.pointer (some ⟨g,0+k*sz+o,none⟩)) u) w λ_ w2=>K' w2:=by
 have hle:k*sz+sz<=n*sz:=by
  have:=Nat.mul_le_mul_right sz (show k+1<=n by omega);rw [Nat.add_mul,Nat.one_mul] at this;exact this
 obtain ⟨s1,s2⟩:=ho.stored (k*sz+o) u;have hc:=ho.cellAt (k*sz+o) (by omega);have hlt:k*sz+o < xs.length:=by rw [ho.1];omega
 rw [List.getElem?_eq_getElem hlt] at hc;rw [Nat.zero_add];exact U.ok (mW hft hu hc (ho.frozenAt _)) (hK _ rfl s1 (Fr.of_set rfl))
def nU (code:Nat->List gN):List gA:=[⟨[],0,[1,2,3,4],code 0⟩,⟨[1,2],2,[1,2,3,4],code 1⟩,⟨[4,3],3,[1,2],code 2⟩]
def zW (n1 n2:ByteArray):List uO:=[⟨n1,0,[1,2],2⟩,⟨n2,1,[4,3],3⟩]
def apC (lv p1 p2 lv3:Z) (c:Nat->Z):List Z:=[cM,i64 0,lv,c 0,p1,i64 2,lv,c 1,p2,i64 3,lv3,c 2]
theorem ZF {mv lv p1 p2 lv3:Z} {c:Nat->Z} {code:Nat->List gN} (h:aA w mv 4 3 (apC lv p1 p2 lv3 c)) (hl:aQ w lv [1,2,3,4]) (h1:aQ w p1 [1,2]) (h2:aQ w p2 [4,3]) (h3:aQ w lv3 [1,2]) (hc:∀ k,k < 3->lG w (c k) (code k)):mI w mv (nU code):=by
 refine ⟨_,h,λk x hk=>?_⟩
 match k,hk with
 | 0,hk=>cases hk;exact ⟨_,rfl,cM,lv,c 0,rfl,aA.nil _ _,hl,hc 0 (by decide)⟩
 | 1,hk=>cases hk;exact ⟨_,rfl,p1,lv,c 1,rfl,h1,hl,hc 1 (by decide)⟩
 | 2,hk=>cases hk;exact ⟨_,rfl,p2,lv3,c 2,rfl,h2,h3,hc 2 (by decide)⟩
 | k+3,hk=>simp [nU] at hk
theorem aNn {iv q1 q2:Z} {n1 n2:ByteArray} (h:aA w iv 4 2 [.string n1,i64 0,q1,i64 2,.string n2,i64 1,q2,i64 3]) (h1:aQ w q1 [1,2]) (h2:aQ w q2 [4,3]):nV w iv (zW n1 n2):=by
 refine ⟨_,h,λk x hk=>?_⟩
 match k,hk with
 | 0,hk=>cases hk;exact ⟨_,rfl,q1,rfl,h1⟩
 | 1,hk=>cases hk;exact ⟨_,rfl,q2,rfl,h2⟩
 | k+2,hk=>simp [zW] at hk
theorem qW {g:Nat} {w':O} (h:Chg w g w'):Fr (λk=>k=g) w w':=Fr.of_grown h.grown λk hk=>by cases hk;rfl
structure HE (g4 gi:Nat) (w:O) (v:Z) (l:List Int):Prop where
 own:w.ownsRow (g4+1) 3 1 v l.length (l.map i64)
 ne:∀ k,v.ownBlock=some k->k≠gi
theorem HE.ext {g4 gi:Nat} {w':O} {v:Z} {l:List Int} (h:HE g4 gi w v l) (hx:aE w w'):HE g4 gi w' v l:=⟨hx.own h.own,h.ne⟩
theorem HE.fr {g4 gi N:Nat} {w':O} {v:Z} {l:List Int} (h:HE g4 gi w v l) (f:Fr (λk=>k=gi\/k<=g4\/N<=k) w w') (hN:w.heap.size<=N):HE g4 gi w' v l:=
 ⟨f.own h.own λk hk hS=>by have:=h.own.lt k hk;have:=h.ne k hk;omega,h.ne⟩
theorem HE.ints {g4 gi:Nat} {v:Z} {l:List Int} (h:HE g4 gi w v l):aQ w v l:=aA.of_own h.own
theorem uX (n:Int):gO (i64 n)=true:=rfl
theorem FQ (s:ByteArray):gO (.string s)=true:=rfl
theorem aJb (a:Option Addr) (n c:Nat):gO (.slice a n c)=true:=rfl
theorem UI {code:Nat->List gN} {j:Nat} {m:gA} (h:(nU code)[j]?=some m):m.params.length<=4/\m.locals.length<=4:=by
 match j,h with
 | 0,hm=>cases hm;exact ⟨by simp,by simp⟩
 | 1,hm=>cases hm;exact ⟨by simp,by simp⟩
 | 2,hm=>cases hm;exact ⟨by simp,by simp⟩
 | k+3,hm=>simp [nU] at hm
theorem aDg {lv p1 p2 lv3 v:Z} {c:Nat->Z} {j:Nat} (h:j < 3):(apC lv p1 p2 lv3 c).set (j*4+3) v=apC lv p1 p2 lv3 (λk=>if k=j then v else c k):=by
 match j,h with
 | 0,_=>rfl
 | 1,_=>rfl
 | 2,_=>rfl
theorem aDe {mv lv p1 p2 lv3:Z} {c:Nat->Z} {code:Nat->List gN} (h:aA w mv 4 3 (apC lv p1 p2 lv3 c)) (hl:aQ w lv [1,2,3,4]) (h1:aQ w p1 [1,2]) (h2:aQ w p2 [4,3]) (h3:aQ w lv3 [1,2]) (hc:∀ k,k < 3->lG w (c k) (code k)) :
  aA w mv 4 3 (apC lv p1 p2 lv3 c)/\∀ (k:Nat) (x:gA),(nU code)[k]?=some x->iO w (((apC lv p1 p2 lv3 c).drop (k*4)).take 4) x:=by
 refine ⟨h,λk x hk=>?_⟩
 match k,hk with
 | 0,hk=>cases hk;exact ⟨cM,lv,c 0,rfl,aA.nil _ _,hl,hc 0 (by decide)⟩
 | 1,hk=>cases hk;exact ⟨p1,lv,c 1,rfl,h1,hl,hc 1 (by decide)⟩
 | 2,hk=>cases hk;exact ⟨p2,lv3,c 2,rfl,h2,h3,hc 2 (by decide)⟩
 | k+3,hk=>simp [nU] at hk
structure Zm (w0:O) (lv:Z) (code:List gN) (d:Nat) (w:O):Prop where
 ext:aE w0 w
 at_:∃ cv,dW w w0.heap.size [cv,cM,i64 0,lv,i64 (d:Int)] 252/\w.ownsRow (w0.heap.size+1) 70 3 cv code.length (iJ code)
section
variable {w0 w':O} {lv:Z} {code:List gN} {d:Nat} {loc:List Int}
theorem Zm.step (h:Zm w0 lv code d w) (hx:aE w w'):Zm w0 lv code d w':=by
 obtain ⟨x,cv,h1,h2⟩:=h;exact ⟨x.trans hx,cv,h1.ext hx,hx.own h2⟩
theorem WY (h:Zm w0 lv code d w) (hk:K (i64 0) w):aB prog 210 #[.pointer (some ⟨w0.heap.size,0,none⟩)] w K:=by
 obtain ⟨x,cv,h1,h2⟩:=h;apply RW;unfold yY;refine ⟨.inl ⟨_,rfl⟩,bQ h1.boxed dB bJ rfl (QR.2 (aO.2 ?_))⟩;simp only [show (((0:Nat):Int)=0) by rfl,decide_true,aS];exact hk
theorem WS {m:Int} (hm:0 < m) (hk:K (i64 0) w):aB prog 11 #[i64 0,i64 m] w K:=by
 apply aAd;unfold EI;refine rm hm λc hc _ _=>?_;have hc:c=0:=by rw [hc];simp
 subst hc;refine bP.2 ?_;simp only [show ¬ ((0:Int) < 0) by decide,decide_false,aD];exact hk
theorem aKq {op a b:Int} (h:Zm w0 lv code d w) (hl:code.length<=1000) (hk:∀ w',Zm w0 lv (code++[⟨op,a,b⟩]) d w'->K (.tuple #[]) w'):aB prog 132 #[.pointer (some ⟨w0.heap.size,0,none⟩),i64 op,i64 a,i64 b] w K:=by
 obtain ⟨x,cv,a1,a2⟩:=h;have sx:=a1.lt;apply SD;unfold zI;refine ⟨.inl ⟨_,rfl⟩,bQ (dW.boxed a1) bH fT rfl ?_⟩;refine kO iK [(0,i64 op),(1,i64 a),(2,i64 b)] rfl rfl ?_;refine vM underlying71 mE rfl (by decide) [.agg #[i64 op,i64 a,i64 b]] rfl rfl (by intro v hv;rw [List.mem_singleton] at hv;subst hv;rfl) (by decide) (by decide) λuv w5 ho5 x5=>?_;have s5:=x5.size;refine apG underlying71 mE rfl (by decide) (x5.own a2) (aA.of_own ho5) (by rfl) (by omega) (by unfold maxLen;omega) (by omega) λv6 w6 ho6 hg6 hl6=>?_;have a1':dW w6 w0.heap.size _ _:=(Fr.of_grown (S:=λk=>cv.ownBlock=some k) hg6 λk hk=>hk).blk (a1.ext x5) λhk=>by have:=(a2.lt _ hk).1;omega
 have x6:aE w0 w6:=(x.trans x5).grown hg6 λk hk=>by have:=(a2.lt k hk).1;omega
 have e6:iJ code++[Value.agg #[i64 op,i64 a,i64 b]].flatMap (λv=>v.cells.toList)=iJ (code++[⟨op,a,b⟩]):=by rw [BK];rfl
 rw [e6] at ho6;refine ⟨.inl ⟨_,rfl⟩,CK bH vD a1' (n:=5) rfl (by decide) (iS ho6) (hk _ ⟨x6.setCell (Nat.le_refl _) _,v6,a1'.set 0 _,?_⟩)⟩;rw [List.length_append];exact (Fr.of_set (S:=λi=>i=w0.heap.size) rfl).own ho6 λk hk he=>by have:=(ho6.lt k hk).1;omega
def PZ (loc:List Int) (k:Int) (j:Nat):List Int:=((List.range j).filter λi=>decide (cT loc i=k)).map Int.ofNat
theorem GL (loc:List Int) (k:Int) (j:Nat):PZ loc k (j+1)=PZ loc k j++if cT loc j=k then [(j:Int)] else []:=by
 unfold PZ;rw [List.range_succ,List.filter_append,List.map_append];by_cases h:cT loc j=k<;>simp [h]
theorem aCn (loc:List Int) (k:Int):∀ j,(PZ loc k j).length<=j:=λj=>by
 unfold PZ;rw [List.length_map];exact Nat.le_trans (List.length_filter_le _ _) (by simp)
theorem XL {k z:Int} (h:Zm w0 lv code d w) (hloc:aQ w0 lv loc) (hll:loc.length<=100) (hz:(PZ loc k loc.length)[0]?=some z) (hk:∀ w',Zm w0 lv code d w'->K (.tuple #[i64 z,.bool true]) w') :
  aB prog 211 #[.pointer (some ⟨w0.heap.size,0,none⟩),i64 k] w K:=by
 apply RV;unfold yW;refine ⟨λsv v w'=>∃ (j:Nat),v=i64 j/\j<=loc.length/\aE w w'/\w'.ownsRow w.heap.size 3 1 sv (PZ loc k j).length ((PZ loc k j).map i64),λ_ v _=>loc.length - (RowKit.intOf v).toNat,⟨0,rfl,Nat.zero_le _,aE.refl _,World.ownsRow_nil _ _ _ _⟩,?_⟩;rintro sv _ w1 ⟨j,rfl,hj,x1,ho⟩ _;have h1:=h.step x1;obtain ⟨x,cv,a1,a2⟩:=h1;have hloc:=hloc.ext x;have hjl:=aCn loc k j;refine ⟨.inl ⟨_,rfl⟩,bQ (dW.boxed a1) dA bJ rfl (hU aM hloc (bP.2 (aK (λhlt=>?_) λhge=>?_)))⟩
 ·refine ⟨.inl ⟨_,rfl⟩,bQ (dW.boxed a1) dA bJ rfl ?_⟩;refine kP aM aF hloc (by omega) (by omega) (fD (jW (l:=loc) (j:=j) (by omega))) (aO.2 (aK (λhe=>?_) λhe=>?_))
  ·refine iT aZ [i64 j] rfl rfl (by simp) rfl λv2 w2 ho2 x2=>?_;refine EK aZ (x2.own ho) (aA.of_own ho2) rfl (by omega) (by unfold maxLen;omega) (x1.trans x2).size λv3 w3 ho3 hg3=>?_;refine mJ (by omega) ?_;refine ⟨⟨j+1,rfl,by omega,(x1.trans x2).grown hg3 λq hq=>((x2.own ho).lt q hq).1,?_⟩,by simp only [aW];omega⟩;rw [GL,if_pos he];simpa using ho3
  ·refine mJ (by omega) ?_;refine ⟨⟨j+1,rfl,by omega,x1,?_⟩,by simp only [aW];omega⟩;rw [GL,if_neg he,List.append_nil];exact ho
 have hjj:j=loc.length:=by omega
 subst hjj;have hpos:0 < (PZ loc k loc.length).length:=(List.getElem?_eq_some_iff.1 hz).1;refine hU aM (aA.of_own ho) (aO.2 ?_);simp only [show ¬ (((PZ loc k loc.length).length:Int)=0) by omega,decide_false,aD];refine WY ⟨x,cv,a1,a2⟩ ?_;refine hU aM (aA.of_own ho) (WS (by omega) ?_);refine TP aM aF ho (by omega) (by omega) (u:=i64 z) (by show ((PZ loc k loc.length).map i64)[0]?=_;rw [List.getElem?_map,hz];rfl) ?_;exact hk _ ⟨x,cv,a1,a2⟩
theorem aUa {k z:Int} (h:Zm w0 lv code d w) (hl:code.length<=1000) (hloc:aQ w0 lv loc) (hll:loc.length<=100) (hz:(PZ loc k loc.length)[0]?=some z) (hk:∀ w',Zm w0 lv (code++[⟨2,z,0⟩]) d w'->K (.tuple #[]) w') :
  aB prog 178 #[.pointer (some ⟨w0.heap.size,0,none⟩),i64 k] w K:=by
 apply SB;unfold zF;refine WY h (WS (by decide) ?_);refine ⟨λt w'=>t=.bool true/\w'=w,?_,?_⟩
 ·refine aO.2 ?_;simp only [decide_true,aS];exact ⟨trivial,trivial⟩
 rintro _ w1 ⟨rfl,hw⟩ _;have hw:=hw.symm;subst hw;simp only [aS];refine XL h hloc hll hz λw2 h2=>?_;refine gM.2 (gL.2 ?_);simp only [aS];exact aKq h2 hl hk
theorem aQj {d':Nat} {K':O->Prop} (h:Zm w0 lv code d w) (hk:∀ w',Zm w0 lv code d' w'->K' w'):V prog (Instr.fieldAt 252 (.pointer (some ⟨w0.heap.size,0,none⟩)) 4) w λq w1=>U prog (Instr.storeAt 3 q (i64 (d':Nat))) w1 λ_ w2=>K' w2:=by
 obtain ⟨x,cv,a1,a2⟩:=h;refine CK dP fX a1 (n:=5) rfl (by decide) rfl (hk _ ⟨x.setCell (Nat.le_refl _) _,cv,a1.set 4 _,?_⟩);exact (Fr.of_set (S:=λi=>i=w0.heap.size) rfl).own a2 λk hk he=>by have:=(a2.lt k hk).1;omega
theorem YJ (h:Zm w0 lv code d w) (hk:K (i64 (d:Nat)) w):V prog (Instr.fieldAt 252 (.pointer (some ⟨w0.heap.size,0,none⟩)) 4) w λq w1=>V prog (Instr.loadAt 3 q) w1 K:=by
 obtain ⟨x,cv,a1,_⟩:=h;exact bQ (dW.boxed a1) dP aF rfl hk
theorem aTh {z:Int} (h:Zm w0 lv code 0 w) (hl:code.length<=1000) (hloc:aQ w0 lv loc) (hll:loc.length<=100) (hz:(PZ loc 2 loc.length)[0]?=some z) (hk:∀ w',Zm w0 lv (code++[⟨2,z,0⟩]) 0 w'->K (.tuple #[]) w') :
  aB prog 181 #[.pointer (some ⟨w0.heap.size,0,none⟩)] w K:=by
 apply RZ;unfold zE;refine ⟨.inl ⟨_,rfl⟩,YJ h (dS.2 ?_)⟩;refine ⟨.inl ⟨_,rfl⟩,aQj (d':=1) h λw1 h1=>?_⟩;refine WY h1 (WS (by decide) ?_);refine ⟨λt w'=>t=i64 0/\w'=w1,⟨.inl ⟨_,rfl⟩,YJ h1 (jJ.2 ?_)⟩,?_⟩
 ·simp only [show ¬ (((1:Nat):Int) > 3) by decide,decide_false,aD];exact ⟨trivial,trivial⟩
 rintro _ w1' ⟨rfl,hw⟩ _;have hw:=hw.symm;subst hw;refine ⟨λw'=>Zm w0 lv (code++[⟨2,z,0⟩]) 1 w',aO.2 ?_,?_⟩
 ·simp only [decide_true,aS];refine XL h1 hloc hll hz λw2 h2=>gM.2 (gL.2 ?_);simp only [aS];exact aKq h2 hl λw3 h3=>h3
 intro w4 h4 _;refine ⟨.inl ⟨_,rfl⟩,YJ h4 (iL.2 ?_)⟩;exact ⟨.inl ⟨_,rfl⟩,aQj (d':=0) h4 λw5 h5=>hk w5 h5⟩
end
def bare (m:gA) (code:List gN):Prop:=(m.result=0/\code=[⟨39,0,0⟩])\/(∃ z,(m.result=2\/m.result=3)/\(PZ (m.params++m.locals) m.result (m.params++m.locals).length)[0]?=some z/\code=[⟨2,z,0⟩,⟨39,0,0⟩])
theorem aRw {rv mv iv:Z} {row:List Z} {m:gA} {code:List gN} (hr:iE w rv []) (hrow:iO w row m) (pl:m.params.length<=50) (ll:m.locals.length<=50) (hb:bare m code)
  (hk:∀ v w',w'.ownsRow w.heap.size 70 3 v code.length (iJ code)->aE w w'->K v w') :
  aB prog 84 #[rv,.agg row.toArray,mv,iv] w K:=by
 obtain ⟨pv,lv,cv,rfl,hp,hl,hc⟩:=hrow;apply aAa;unfold DZ;refine bx λb5 w1 hb5 x1=>?_;have hb5:fB w1 b5 [pv,i64 m.result,lv,cv]:=hb5;have D1:aE w1 w1.drew:=(aE.refl _).drew;have x2:=x1.trans D1;refine aJ.mk' (λw'=>aE w1.drew w') (aE.refl _) ?_;refine gY (λw' hx=>hb5.ext (D1.trans hx)) dR bJ rfl ?_;refine gY (λw' hx=>hb5.ext (D1.trans hx)) gI bJ rfl ?_;have hb5:=hb5.ext D1;generalize w1.drew=w2 at x2 hb5;clear D1;refine iT aZ [] rfl rfl (by simp) rfl λv3 w3 ho3 x3=>⟨x3,?_⟩;refine EK aZ ho3 (hp.ext (x2.trans x3)) (zX _) (by omega) (by unfold maxLen;omega) x3.size λv4 w4 ho4 hg4=>?_;have x4:aE w2 w4:=x3.grown hg4 λk hk=>(ho3.lt k hk).1;refine ⟨x4,EK aZ ho4 (hl.ext (x2.trans x4)) (zX _) (by omega) (by unfold maxLen;omega) x4.size λlv' w5 ho5 hg5=>?_⟩;have x5:aE w2 w5:=x4.grown hg5 λk hk=>(ho4.lt k hk).1;refine ⟨x5,mN ZA [(3,lv')] rfl (by simp [iS ho5]) ?_⟩
 have hloc:aQ w5 lv' (m.params++m.locals):=by
  have:=aA.of_own ho5;unfold aQ;simpa using this
 clear ho3 ho4 ho5 hg4 hg5;refine QG λw6 hB6 x6=>⟨x5.trans x6,?_⟩;have hB6:dW w6 w5.heap.size [cM,cM,i64 ((0:Nat):Int),lv',i64 ((0:Nat):Int)] 252:=hB6;have x25:=x2.trans x5;have hr:=hr.ext x25;have hb5:=hb5.ext x5;have hw5:w.heap.size<=w5.heap.size:=x25.size;have h6:Zm w5 lv' [] 0 w6:=⟨x6,cM,hB6,World.ownsRow_nil _ _ _ _⟩;have hlocl:(m.params++m.locals).length<=100:=by simp;omega
 refine ⟨λv w'=>v=i64 0/\w'=w6,λ_ _=>0,⟨rfl,rfl⟩,?_⟩;rintro _ w7 ⟨rfl,hw⟩ _;have hw:=hw.symm;subst hw;refine lnR qI (hr.ext h6.ext) (bP.2 ?_);simp only [show ¬ ((0:Int) < ((List.length ([]:List Rw):Nat):Int)) by decide,aN,decide_false];refine ⟨λtv v w'=>tv=cM/\v=i64 0/\w'=w6,λ_ _ _=>0,⟨rfl,rfl,rfl⟩,?_⟩;rintro _ _ w7 ⟨rfl,rfl,hw⟩ _;have hw:=hw.symm;subst hw;refine lnR qI (hr.ext h6.ext) (bP.2 ?_);simp only [show ¬ ((0:Int) < ((List.length ([]:List Rw):Nat):Int)) by decide,aN,reduceIte,Bool.false_eq_true,decide_false];refine ⟨.inl ⟨_,rfl⟩,bQ (dW.boxed hB6) bH fT rfl (aDm.2 ?_)⟩;refine iT aZ [i64 ((0:Nat):Int)] rfl rfl (by simp) rfl λv7 w7 ho7 x7=>?_;refine EK aZ (B:=w7.heap.size) (World.ownsRow_nil _ _ _ _) (aA.of_own ho7) rfl (by omega) (by unfold maxLen;omega) (Nat.le_refl _) λv8 w8 ho8 hg8=>?_;have h8:Zm w5 lv' [] 0 w8:=(h6.step x7).step ((aE.refl _).grown hg8 λk hk=>by cases hk)
 have fin:∀ {w'},Zm w5 lv' code 0 w'->Go.Vc.aY (.pointer (some ⟨w5.heap.size,0,none⟩))/\V prog (Instr.fieldAt 252 (.pointer (some ⟨w5.heap.size,0,none⟩)) 0) w' λt w=>V prog (Instr.loadAt 71 t) w K:=by
  rintro w' ⟨x,cv,a1,a2⟩;exact ⟨.inl ⟨_,rfl⟩,bQ (dW.boxed a1) bH fT rfl (hk _ w' (aX a2 (by omega)) (x25.trans x))⟩
 refine ⟨λv w'=>v=i64 0/\Zm w5 lv' [] 0 w',λ_ _=>0,⟨rfl,h8⟩,?_⟩;rintro _ w9 ⟨rfl,h9⟩ _;obtain ⟨x9,cv9,b9,o9⟩:=h9;have h9:Zm w5 lv' [] 0 w9:=⟨x9,cv9,b9,o9⟩;refine ⟨.inl ⟨_,rfl⟩,bQ (dW.boxed b9) bH fT rfl (hU iZ (aA.of_own o9) (bP.2 ?_))⟩;simp only [show ¬ ((0:Int) < ((List.length ([]:List gN):Nat):Int)) by decide,aN,decide_false];have hmt:∀ {w'},aE w5 w'->fB w' b5 [pv,i64 m.result,lv,_]:=λhx=>hb5.ext hx;refine ⟨λw'=>∃ c,Zm w5 lv' c 0 w'/\code=c++[⟨39,0,0⟩]/\c.length<=1,?_,?_⟩
 ·refine bQ (hmt x9) eX aF rfl (dZ.2 ?_);rcases hb with ⟨h1,h2⟩|⟨z,h1,h2,h3⟩
  ·simp only [h1,ne_eq,not_true_eq_false,decide_false,aD];exact ⟨[],h9,h2,by decide⟩
  ·simp only [show m.result≠0 by omega,ne_eq,not_false_eq_true,decide_true,aS];refine bQ (hmt x9) eX aF rfl ?_;apply SE;unfold zJ;rcases h1 with h1|h1
   ·rw [h1] at h2;refine aO.2 ?_;simp only [h1,show ¬ ((2:Int)=1) by decide,decide_false,aD];refine aO.2 ?_;simp only [decide_true,aS];exact aTh h9 (by decide) hloc hlocl h2 λw' h'=>⟨_,h',by rw [h3];rfl,by simp⟩
   ·rw [h1] at h2;refine aO.2 ?_;simp only [h1,show ¬ ((3:Int)=1) by decide,decide_false,aD];refine aO.2 ?_;simp only [show ¬ ((3:Int)=2) by decide,decide_false,aD];exact aUa h9 (by decide) hloc hlocl h2 λw' h'=>⟨_,h',by rw [h3];rfl,by simp⟩
 rintro w10 ⟨c,h10,hcc,hcl⟩ _;refine aKq h10 (by omega) λw11 h11=>?_;rw [<- hcc] at h11;obtain ⟨x11,cv11,b11,o11⟩:=h11;have hlen:code.length<=2:=by rw [hcc];simp;omega
 refine ⟨.inl ⟨_,rfl⟩,bQ (dW.boxed b11) bH fT rfl (hU iZ (aA.of_own o11) (jJ.2 ?_))⟩;simp only [show ¬ ((code.length:Int) > 120) by omega,decide_false,aD];exact fin ⟨x11,cv11,b11,o11⟩
def bc (k:Nat):List gN:=if k=0 then [⟨39,0,0⟩] else [⟨2,1,0⟩,⟨39,0,0⟩]
def QM (s n1 n2:ByteArray):dN:=⟨s,[1,2,3,4],zW n1 n2,nU bc,[1,2]⟩
theorem aDf {code:Nat->List gN} (h:∀ k,k < 3->code k=bc k):nU code=nU bc:=by
 unfold nU;rw [h 0 (by decide),h 1 (by decide),h 2 (by decide)]
theorem aDb {code:Nat->List gN} {j:Nat} {m:gA} (h:(nU code)[j]?=some m):bare m (bc j):=by
 match j,h with
 | 0,h=>cases h;exact .inl ⟨rfl,rfl⟩
 | 1,h=>cases h;exact .inr ⟨1,.inl rfl,by kernel_rfl,rfl⟩
 | 2,h=>cases h;exact .inr ⟨1,.inr rfl,by kernel_rfl,rfl⟩
 | k+3,h=>simp [nU] at h
theorem aRx {rv mv iv:Z} {rl:List Rw} {row:List Z} {m:gA} {ms:List gA} {is:List uO} (hr:iE w rv rl) (hrow:iO w row m) (hm:mI w mv ms) (hi:nV w iv is) (hb:nO w) (rn:rl.length<=5000000000000) (pl:m.params.length<=1000) (ll:m.locals.length<=1000)
  (m0:0 < ms.length/\ms.length<=1000) (m4:∀ m∈ms,m.params.length<=4) (i0:is.length<=1000) (i4:∀ x∈is,x.params.length<=4) {code0:List gN} (hz:bare m code0) (h0:∀ x∈code0,x.rg) (hl0:code0.length<=700000) (p0:m.params.length<=50) (l0:m.locals.length<=50)
  (hk:∀ v code w',w'.ownsRow w.heap.size 70 3 v code.length (iJ code)->(∀ x∈code,x.rg)->code.length<=700000->(rl.length=0->code=code0)->aE w w'->K v w') :
  aB prog 84 #[rv,.agg row.toArray,mv,iv] w K:=by
 by_cases e:rl=[]
 ·subst e;exact aRw hr hrow p0 l0 hz λv w' ho x=>hk v _ w' ho h0 hl0 (λ_=>rfl) x
 ·exact aMw hr hrow hm hi hb rn pl ll m0 m4 i0 i4 λv c w' a1 a2 a3 x=>hk v c w' a1 a2 a3 (λh=>absurd (List.eq_nil_of_length_eq_zero h) e) x
theorem QN {n:Int} {rv:Z} {rl:List Rw} (hr:iE w rv rl) (hb:nO w) (hT:mS w) (rn:rl.length<=5000000000000)
  (hk:∀ p i w',gZ w' p i->jL w' i->i.rg->i.methods.length=3->(∀ m∈i.methods,m.code.length<=700000)->(∀ w'',Fr (λk=>k < w.heap.size) w' w''->mS w''->gZ w'' p i/\jL w'' i)->(∃ cs:List Z,∀ w'',Fr (λk=>k < w.heap.size) w' w''->aA w'' p.mv 4 i.methods.length cs/\∀ (k:Nat) (x:gA),i.methods[k]?=some x->iO w'' ((cs.drop (k*4)).take 4) x)->aE w w'->(rl.length=0->∃ s n1 n2,i=QM s n1 n2)->K (p.val i) w'):aB prog 38 #[i64 n,rv] w K:=by
 apply aOw;unfold RQ;refine alK mF λw1 hB4 x1=>?_;have hlt4:=hB4.lt;have hg4:w.heap.size<=w.heap.size:=Nat.le_refl _;generalize hgg4:w.heap.size=g4 at hB4 hg4 hlt4;refine iT aZ [i64 1,i64 2,i64 3,i64 4] rfl rfl (by simp) rfl λlv w2 hol x2=>?_;refine MT λnm hnm=>?_;refine iT aZ [i64 1,i64 2,i64 3,i64 4] rfl rfl (by simp) rfl λfv w3 hof x3=>?_;refine iT aZ [i64 1,i64 2] rfl rfl (by simp) rfl λxv w4 hox x4=>?_;have o1:=iS hof;have o2:=iS hox;refine kO YZ [(0,.string nm),(1,fv),(4,xv)] rfl (by simp [o1,o2,FQ]) ?_;refine UP OW rfl (show ([.string nm,fv,cM,cM,xv]:List Z).all gO=true by simp [o1,o2,FQ,aJb]) λw5 hBi x5=>?_;have hBi:dW w5 w4.heap.size [.string nm,fv,cM,cM,xv] 46:=hBi;have s1:=x1.size;have s2:=x2.size;have s3:=x3.size;have s4:=x4.size;have s5:=x5.size;have R0:∀ {v:Z} {l:List Int} {wa wb:O},wb.ownsRow wa.heap.size 3 1 v l.length (l.map i64)->w1.heap.size<=wa.heap.size->wb.heap.size<=w4.heap.size->HE g4 w4.heap.size wb v l:=λho h1 h2=>⟨aX ho (by omega),λk hk=>by have:=(ho.lt k hk).2;omega⟩;have rl5:HE g4 w4.heap.size w5 lv [1,2,3,4]:=(R0 (l:=[1,2,3,4]) hol (by omega) (by omega)).ext ((x3.trans x4).trans x5);have rf5:HE g4 w4.heap.size w5 fv [1,2,3,4]:=(R0 (l:=[1,2,3,4]) hof (by omega) (by omega)).ext (x4.trans x5);have rx5:HE g4 w4.heap.size w5 xv [1,2]:=(R0 (l:=[1,2]) hox (by omega) (by omega)).ext x5
 clear R0 hol hof hox;have x15:=(((x2.trans x3).trans x4).trans x5);have hB4:=hB4.ext x15;have hgi4:g4≠w4.heap.size:=by omega
 have hiw:w4.heap.size < w5.heap.size:=hBi.lt;have hiw0:w.heap.size<=w4.heap.size:=by omega
 have x05:=x1.trans x15;have hr0:=hr;have hr:=hr.ext x05;generalize w4.heap.size=gi at *;have R1:∀ {v:Z} {l:List Int} {wa wb:O},wb.ownsRow wa.heap.size 3 1 v l.length (l.map i64)->w5.heap.size<=wa.heap.size->HE g4 gi wb v l:=λho h1=>⟨aX ho (by omega),λk hk=>by have:=(ho.lt k hk).1;omega⟩;refine dS.2 (MT λn1 hn1=>?_);refine iT aZ [i64 1,i64 2] rfl rfl (by simp) rfl λq1 w6 hq1 x6=>?_;have s6:=x6.size;have rq1:HE g4 gi w6 q1 [1,2]:=R1 (l:=[1,2]) hq1 (by omega);have oq1:=iS hq1;refine kO ZB [(0,.string n1),(1,i64 0),(2,q1),(3,i64 2)] rfl (by simp [oq1,uX,FQ]) ?_;refine dS.2 (lnR qI (hr.ext x6) ?_);refine gX (by decide) (by decide) λ_ _ _=>dS.2 (MT λn2 hn2=>?_);refine iT aZ [i64 4,i64 3] rfl rfl (by simp) rfl λq2 w7 hq2 x7=>?_;have s7:=x7.size;have rq2:HE g4 gi w7 q2 [4,3]:=R1 (l:=[4,3]) hq2 (by omega);have oq2:=iS hq2;refine kO ZB [(0,.string n2),(1,i64 1),(2,q2),(3,i64 3)] rfl (by simp [oq2,uX,FQ]) ?_;refine vM underlying43 qS rfl (by decide) [.agg #[.string n1,i64 0,q1,i64 2],.agg #[.string n2,i64 1,q2,i64 3]] rfl rfl (by intro v hv;simp only [List.mem_cons,List.not_mem_nil,or_false] at hv;rcases hv with rfl|rfl<;>rfl) (by decide) (by decide) λiv w8 hoi x8=>?_;have s8:=x8.size;have hoi:w8.ownsRow w7.heap.size 180 4 iv 2 [.string n1,i64 0,q1,i64 2,.string n2,i64 1,q2,i64 3]:=hoi
 have x58:=(x6.trans x7).trans x8;refine CK dI PW (hBi.ext x58) (n:=5) rfl (by decide) (iS hoi) ?_;have hB9:dW (w8.setCell ⟨gi,2,none⟩ iv) gi [.string nm,fv,iv,cM,xv] 46:=(hBi.ext x58).set 2 iv;have f9:Fr (λk=>k=gi\/k<=g4\/w8.heap.size<=k) w8 (w8.setCell ⟨gi,2,none⟩ iv):=Fr.of_set (.inl rfl);have rl9:=(rl5.ext x58).fr f9 (Nat.le_refl _);have rf9:=(rf5.ext x58).fr f9 (Nat.le_refl _);have rx9:=(rx5.ext x58).fr f9 (Nat.le_refl _);have rq19:=(rq1.ext (x7.trans x8)).fr f9 (Nat.le_refl _);have rq29:=(rq2.ext x8).fr f9 (Nat.le_refl _);have hoi9:=f9.own hoi λk hk hS=>by have:=hoi.lt k hk;omega
 have hB49:dW (w8.setCell ⟨gi,2,none⟩ iv) g4 _ _:=(hB4.ext x58).other hgi4;have f59:aE w (w8.setCell ⟨gi,2,none⟩ iv):=(x05.trans x58).setCell hiw0 iv;have xr9:∀ {w'},Fr (λk=>k=gi\/k=g4\/w8.heap.size<=k) (w8.setCell ⟨gi,2,none⟩ iv) w'->aE w w':=λf=>f.ext f59 λk hk=>by omega
 have sz9:(w8.setCell ⟨gi,2,none⟩ iv).heap.size=w8.heap.size:=by simp
 generalize w8.setCell ⟨gi,2,none⟩ iv=w9 at *;have hoi0:=hoi;clear rl5 rf5 rx5 rq1 rq2 hoi hB4 hBi hq1 hq2 f9;have ol:=iS rl9.own;refine kO GX [(2,lv)] rfl (by simp [ol]) ?_;refine iT aZ [i64 1,i64 2] rfl rfl (by simp) rfl λp1 w10 hp1 x10=>?_;have s10:=x10.size;have rp1:HE g4 gi w10 p1 [1,2]:=R1 (l:=[1,2]) hp1 (by omega);have op1:=iS hp1;refine kO GX [(0,p1),(1,i64 2),(2,lv)] rfl (by simp [ol,op1,uX]) ?_;refine iT aZ [i64 4,i64 3] rfl rfl (by simp) rfl λp2 w11 hp2 x11=>?_;have s11:=x11.size;have rp2:HE g4 gi w11 p2 [4,3]:=R1 (l:=[4,3]) hp2 (by omega);have op2:=iS hp2;obtain ⟨lv3,urun,usl⟩:=MK underlying42 fX rl9.ints (lo:=none) (hi':=some (.int .i64 ((2:Nat):Int))) (a:=0) (b:=2) (.inl ⟨rfl,rfl⟩) (.inr rfl) (by decide) (by decide);refine V.ok (urun _) ?_;have ol3:gO lv3=true:=by obtain ⟨a,c,rfl⟩:=(usl _ rl9.ints).shape;rfl
 refine kO GX [(0,p2),(1,i64 3),(2,lv3)] rfl (by simp [ol3,op2,uX]) ?_;refine vM underlying44 nD rfl (by decide) [.agg #[cM,i64 0,lv,cM],.agg #[p1,i64 2,lv,cM],.agg #[p2,i64 3,lv3,cM]] rfl rfl (by intro v hv;simp only [List.mem_cons,List.not_mem_nil,or_false] at hv;rcases hv with rfl|rfl|rfl<;>rfl) (by decide) (by decide) λmv w12 hom x12=>?_;have s12:=x12.size;have hom:w12.ownsRow w11.heap.size 74 4 mv 3 (apC lv p1 p2 lv3 λ_=>cM):=hom
 obtain ⟨gm,cap,rfl⟩:∃ gm cap,mv=.slice (some ⟨gm,0,none⟩) 3 cap:=by
  rcases hom.2 with ⟨_,e⟩|⟨gm,cap,cur,rfl,_⟩
  ·cases e
  ·exact ⟨gm,cap,rfl⟩
 have hgm:=hom.lt gm rfl;have x9b:=x10.trans x11;have x9c:=x9b.trans x12;refine CK bF PV (hB9.ext x9c) (n:=5) rfl (by decide) rfl ?_;have hBC:dW (w12.setCell ⟨gi,3,none⟩ (.slice (some ⟨gm,0,none⟩) 3 cap)) gi [.string nm,fv,iv,.slice (some ⟨gm,0,none⟩) 3 cap,xv] 46:=(hB9.ext x9c).set 3 _;have fC:Fr (λk=>k=gi\/k=g4\/w11.heap.size<=k) w11 (w12.setCell ⟨gi,3,none⟩ (.slice (some ⟨gm,0,none⟩) 3 cap)):=(Fr.of_ext x12).set (.inl rfl);have homC:(w12.setCell ⟨gi,3,none⟩ (.slice (some ⟨gm,0,none⟩) 3 cap)).ownsRow w11.heap.size 74 4 (.slice (some ⟨gm,0,none⟩) 3 cap) 3 (apC lv p1 p2 lv3 λ_=>cM):=(Fr.of_set (S:=λk=>k=gi) rfl).own hom λk hk hS=>by have:=hom.lt k hk;omega
 have hB4C:dW (w12.setCell ⟨gi,3,none⟩ (.slice (some ⟨gm,0,none⟩) 3 cap)) g4 _ _:=(hB49.ext x9c).other hgi4;have szC:(w12.setCell ⟨gi,3,none⟩ (.slice (some ⟨gm,0,none⟩) 3 cap)).heap.size=w12.heap.size:=by simp
 generalize w12.setCell ⟨gi,3,none⟩ (.slice (some ⟨gm,0,none⟩) 3 cap)=wC at *;have hb11:aE w w11:=(aE.refl w).trans (f59.trans x9b);have hr0:∀ {w'},aE w w'->iE w' rv rl:=λhx=>(hr0:iE w rv rl).ext hx
 have hall:∀ {w'},Fr (λk=>k=gi\/k<=g4\/w11.heap.size<=k) w11 w'->aQ w' fv [1,2,3,4]/\aQ w' xv [1,2]/\aQ w' lv [1,2,3,4]/\aQ w' p1 [1,2]/\aQ w' p2 [4,3]/\aQ w' lv3 [1,2]/\nV w' iv (zW n1 n2):=by
  intro w' f;have hN:=Nat.le_refl w11.heap.size;have hl:=((rl9.ext x9b).fr f hN).ints;refine ⟨((rf9.ext x9b).fr f hN).ints,((rx9.ext x9b).fr f hN).ints,hl,((rp1.ext x11).fr f hN).ints,(rp2.fr f hN).ints,usl w' hl,aNn (aA.of_own (f.own (x9b.own hoi9) λk hk hS=>?_)) ((rq19.ext x9b).fr f hN).ints ((rq29.ext x9b).fr f hN).ints⟩;have:=(x9b.own hoi9).lt k hk;omega
 have hallX:∀ {w'},Fr (λk=>k=gi\/k=g4\/w11.heap.size<=k) w11 w'->aE w w':=λf=>f.ext hb11 λk hS=>by omega
 have hS:∀ {w'},Fr (λk=>k=gi\/k=g4\/w11.heap.size<=k) w11 w'->Fr (λk=>k=gi\/k<=g4\/w11.heap.size<=k) w11 w':=λf=>f.mono λk hk=>by omega
 clear rl9 rf9 rx9 rq19 rq29 hoi9 rp1 rp2 hB9 hB49 hom usl urun hp1 hp2;refine lnR qI (hr0 (hallX fC)) ?_;have hgmC:gm < wC.heap.size:=by omega
 refine ⟨λv w'=>∃ (j:Nat) (c:Nat->Z) (code:Nat->List gN),v=i64 j/\j<=3/\Fr (λk=>k=gi\/k=g4\/w11.heap.size<=k) w11 w'/\wC.heap.size<=w'.heap.size/\dW w' gi [.string nm,fv,iv,.slice (some ⟨gm,0,none⟩) 3 cap,xv] 46/\dW w' g4 [.string ByteArray.empty,cM,cM,cM,cM] 46/\w'.ownsRow w11.heap.size 74 4 (.slice (some ⟨gm,0,none⟩) 3 cap) 3 (apC lv p1 p2 lv3 c)/\(∀ k,w'.ownsRow (gm+1) 70 3 (c k) (code k).length (iJ (code k))/\(∀ x∈code k,x.rg)/\(code k).length<=700000)/\(rl.length=0->∀ k,k < j->code k=bc k),
  λv _=>3 - (RowKit.intOf v).toNat,⟨0,λ_=>cM,λ_=>[],rfl,Nat.zero_le _,fC,Nat.le_refl _,hBC,hB4C,homC,λk=>⟨World.ownsRow_nil _ _ _ _,λ_ h=>(by simp at h),Nat.zero_le _⟩,λ_ k hk=>absurd hk (Nat.not_lt_zero k)⟩,?_⟩
 clear hBC hB4C homC fC;rintro _ wD ⟨j,c,code,rfl,hj,f,hsz,hBi,hB4,hom,hcs,hbc⟩ _;obtain ⟨rf,rx,rl',rp1,rp2,rl3,rim⟩:=hall (hS f);have xw:=hallX f;have hms:mI wD (.slice (some ⟨gm,0,none⟩) 3 cap) (nU code):=ZF (aA.of_own hom) rl' rp1 rp2 rl3 λk _=>aA.of_own (hcs k).1;refine bP.2 (aK (λhlt=>?_) λhge=>?_)
 ·have hrD:=hr0 xw;have e1:∀ m:Nat,m<=3->V prog (binOp .mul 3 (i64 m) (i64 rl.length)) wD=V prog (binOp .mul 3 (i64 m) (i64 rl.length)) wD:=λ_ _=>rfl
  have e2:∀ m:Nat,m<=3->IntKind.i64.wrap ((m:Int)*(rl.length:Int))=((m*rl.length:Nat):Int):=λm hm=>by
   have:m*rl.length<=3*rl.length:=Nat.mul_le_mul_right _ hm;rw [<- Int.natCast_mul];exact aU (by omega)
  have e3:∀ (m d:Nat),m<=15000000000000->IntKind.i64.wrap (((m:Nat):Int).tdiv ((d:Nat):Int))=((m / d:Nat):Int):=λm d hm=>by
   have h1:((m:Nat):Int).tdiv ((d:Nat):Int)=((m / d:Nat):Int):=by
    rw [Int.tdiv_eq_ediv_of_nonneg (by omega)];rfl
   have h2:m / d<=m:=Nat.div_le_self _ _;rw [h1];clear h1;generalize m / d=q at *;exact aU (by omega)
  have e4:∀ a b:Nat,min ((a:Nat):Int) ((b:Nat):Int)=((min a b:Nat):Int):=λa b=>by omega
  have hj3:j*rl.length<=3*rl.length:=Nat.mul_le_mul_right _ hj;have hj4:(j+1)*rl.length<=3*rl.length:=Nat.mul_le_mul_right _ (by omega);refine aJq.2 ?_;rw [e2 j hj];refine (ZQ (by decide)).2 ?_;rw [show (3:Int)=((3:Nat):Int) from rfl,e3 _ 3 (by omega)];refine V.ok OY (dS.2 ?_);rw [e4,iF (n:=(j:Int)+1) (by omega) (by omega),eI];refine aJq.2 ?_;rw [e2 (j+1) (by omega)];refine (ZQ (by decide)).2 ?_;rw [e3 _ 3 (by omega)];refine V.ok OY ?_;rw [e4];have hd1:j*rl.length / 3<=(j+1)*rl.length / 3:=Nat.div_le_div_right (Nat.mul_le_mul_right _ (by omega));obtain ⟨v1,r1,hs1⟩:=iE.part underlying99 xT hrD (lo:=some (.int .i64 ((min rl.length (j*rl.length / 3):Nat):Int))) (hi':=some (.int .i64 ((min rl.length ((j+1)*rl.length / 3):Nat):Int))) (.inr rfl) (.inr rfl) (by omega) (by omega);refine V.ok (r1 _) ?_;refine ⟨λv w'=>∃ l,iE wD v l/\l.length<=5000000000000/\(rl.length=0->l.length=0)/\w'=wD,aO.2 (aK (λhz=>?_) λhz=>⟨_,hs1,(by simp;omega),(by intro h;simp [h]),rfl⟩),?_⟩
  ·refine (ZQ (by decide)).2 ?_;rw [show (2:Int)=((2:Nat):Int) from rfl,e3 _ 2 (by omega)];refine V.ok OY ?_;rw [e4];obtain ⟨v2,r2,hs2⟩:=iE.part underlying99 xT hrD (lo:=none) (hi':=some (.int .i64 ((min rl.length (rl.length / 2):Nat):Int))) (a:=0) (.inl ⟨rfl,rfl⟩) (.inr rfl) (by omega) (by omega);exact V.ok (r2 _) ⟨_,hs2,(by simp;omega),(by intro h;simp [h]),rfl⟩
  rintro v3 wD' ⟨l,hl,hll,hlz,hwD⟩ _;have hwD:=hwD.symm;subst hwD;have D1:aE wD wD.drew:=(aE.refl _).drew;have hBid:=hBi.ext D1;obtain ⟨m,hm⟩:=fQ (l:=nU code) (j:=j) (by simp [nU];omega);refine aJ.mk' (λw'=>aE wD.drew w') (aE.refl _) ?_;refine gY (λw' hx=>dW.boxed (hBid.ext hx)) bF fS rfl ?_;refine gY (λw' hx=>dW.boxed (hBid.ext hx)) bF fS rfl ?_;refine ySS iA lV (hms.ext D1) (λ_ h=>h) hm oI λrow hrow=>?_;refine gY (λw' hx=>dW.boxed (hBid.ext hx)) bF fS rfl ?_;refine gY (λw' hx=>dW.boxed (hBid.ext hx)) dI iB rfl ?_;have xwd:=xw.trans D1;have hmp:=UI hm;refine aRx (hl.ext D1) hrow (hms.ext D1) (rim.ext D1) (λq hq=>?_) hll (by omega) (by omega) ⟨by simp [nU],by simp [nU]⟩ (by simp [nU]) (by simp [zW]) (by simp [zW]) (aDb hm) (by intro x hx;unfold bc at hx;split at hx<;>simp only [List.mem_cons,List.not_mem_nil,or_false] at hx<;>(try rcases hx with rfl|rfl)<;>(try subst hx)<;>exact ⟨by decide,by decide⟩) (by unfold bc;split<;>decide) (by omega) (by omega) λv4 code4 wE ho4 hrg4 hlen4 hz4 xE=>⟨xE,?_⟩
  ·obtain ⟨z,hz⟩:=hb q hq;exact ⟨z,xwd.cell hz⟩
  have x3E:=D1.trans xE;refine aC.ok (λw' _=>iG underlying44 nD (by omega) (by omega)) ?_;refine aC.ok (λw' _=>FA.ex dU w' _ _) ?_;rw [Int.toNat_natCast];refine VE underlying44 nD dU vD (x3E.own hom) (by omega) (by decide) (iS ho4) λwF hwF hoF fF=>dS.2 ?_;rw [aU (by omega),eI];have sE:=x3E.size;have sD:=D1.size;have sF:=fF.size;rw [aDg (by omega)] at hoF;refine ⟨⟨j+1,λk=>if k=j then v4 else c k,λk=>if k=j then code4 else code k,rfl,by omega,(f.trans (Fr.of_ext x3E) λ_ _ h=>h).trans fF λk _ hk=>by omega,by omega,fF.blk (hBi.ext x3E) (by omega),fF.blk (hB4.ext x3E) (by omega),hoF,λk=>?_,λhn k hk=>?_⟩,by simp only [aW];omega⟩
  rotate_left
  ·by_cases hkj:k=j
   ·simp only [hkj,if_true];exact hz4 (hlz hn)
   ·simp only [hkj,if_false];exact hbc hn k (by omega)
  by_cases hkj:k=j
  ·simp only [hkj,if_true];exact ⟨aX (fF.own ho4 λq hq hS=>by have:=(ho4.lt q hq).1;omega) (by omega),hrg4,hlen4⟩
  ·simp only [hkj,if_false];obtain ⟨c1,c2,c3⟩:=hcs k;exact ⟨fF.own (x3E.own c1) λq hq hS=>by have:=(c1.lt q hq).1;omega,c2,c3⟩
 ·refine lF (dW.boxed hBi) kF rfl ?_;refine stA mF hB4 (l:=[.string nm,fv,iv,.slice (some ⟨gm,0,none⟩) 3 cap,xv]) rfl rfl rfl (by simp [o1,o2,iS hoi0,FQ,aJb]) λwE hBE hc=>?_;refine ⟨_,xC underlying46 rfl mF hBE rfl,⟨_,rfl⟩,?_⟩;have fE:Fr (λk=>k=gi\/k=g4\/w11.heap.size<=k) w11 wE:=f.trans ((qW hc).mono λk hk=>.inr (.inl hk)) λ_ _ h=>h;have xw:=hallX fE;have hg4m:g4 < gm:=by omega
  have homE:=(qW hc).own hom λk hk hS=>by have:=(hom.lt k hk).1;omega
  have hcsE:∀ k,wE.ownsRow (gm+1) 70 3 (c k) (code k).length (iJ (code k)):=λk=>(qW hc).own (hcs k).1 λq hq hS=>by have:=((hcs k).1.lt q hq).1;omega
  have stay:∀ w'',Fr (λk=>k < g4) wE w''->mS w''->gZ w'' ⟨fv,iv,.slice (some ⟨gm,0,none⟩) 3 cap,xv⟩ ⟨nm,[1,2,3,4],zW n1 n2,nU code,[1,2]⟩/\jL w'' ⟨nm,[1,2,3,4],zW n1 n2,nU code,[1,2]⟩:=by
   intro w'' f'' hT'';have f3:Fr (λk=>k=gi\/k<=g4\/w11.heap.size<=k) w11 w'':=(hS fE).trans f'' λk _ hk=>by omega
   obtain ⟨rf,rx,rl',rp1,rp2,rl3,rim⟩:=hall f3;refine ⟨⟨rf,rim,ZF (aA.of_own (f''.own homE λk hk hS=>by have:=(homE.lt k hk).1;omega)) rl' rp1 rp2 rl3 λk _=>aA.of_own (f''.own (hcsE k) λq hq hS=>by have:=((hcsE k).lt q hq).1;omega),rx⟩,MS hnm hT'',λx hx=>?_⟩;simp only [zW,List.mem_cons,List.not_mem_nil,or_false] at hx;rcases hx with rfl|rfl
   ·exact MS hn1 hT''
   ·exact MS hn2 hT''
  have stayM:∃ cs:List Z,∀ w'',Fr (λk=>k < g4) wE w''->aA w'' (.slice (some ⟨gm,0,none⟩) 3 cap) 4 3 cs/\∀ (k:Nat) (x:gA),(nU code)[k]?=some x->iO w'' ((cs.drop (k*4)).take 4) x:=by
   refine ⟨apC lv p1 p2 lv3 c,λw'' f''=>?_⟩;have f3:Fr (λk=>k=gi\/k<=g4\/w11.heap.size<=k) w11 w'':=(hS fE).trans f'' λk _ hk=>by omega
   obtain ⟨rf,rx,rl',rp1,rp2,rl3,rim⟩:=hall f3;exact aDe (w:=w'') (aA.of_own (f''.own homE λk hk hS=>by have:=(homE.lt k hk).1;omega)) rl' rp1 rp2 rl3 λk _=>aA.of_own (f''.own (hcsE k) λq hq hS=>by have:=((hcsE k).lt q hq).1;omega)
  have hTE:=hT.ext xw;obtain ⟨hat,hnmE⟩:=stay wE (Fr.refl _ _) hTE;refine hk ⟨fv,iv,.slice (some ⟨gm,0,none⟩) 3 cap,xv⟩ ⟨nm,[1,2,3,4],zW n1 n2,nU code,[1,2]⟩ wE hat hnmE (λm hm x hx=>?_) rfl (λm hm=>?_) (by rw [hgg4];exact stay) (by rw [hgg4];exact stayM) xw λhn=>⟨nm,n1,n2,by unfold QM;rw [aDf λk hk=>hbc hn k (by omega)]⟩
  ·simp only [nU,List.mem_cons,List.not_mem_nil,or_false] at hm;rcases hm with rfl|rfl|rfl
   ·exact (hcs 0).2.1 x hx
   ·exact (hcs 1).2.1 x hx
   ·exact (hcs 2).2.1 x hx
  ·simp only [nU,List.mem_cons,List.not_mem_nil,or_false] at hm;rcases hm with rfl|rfl|rfl
   ·exact (hcs 0).2.2
   ·exact (hcs 1).2.2
   ·exact (hcs 2).2.2
end Go.Proofs.YtgkkecladbmjkaaGreatDoor
namespace Go.Vc
section
variable {P:Program} {w:O} {K:Z->O->Prop}
theorem slO {t e sz:Nat} {z:Z} {by_:Nat} (ht:P.underlying t=some (.slice e)) (hi:fH P e z sz by_) (_:0 < sz) {B n g cap:Nat} {xs:List Z} (ho:w.ownsRow B e sz (.slice (some ⟨g,0,none⟩) n cap) n xs) {k:Nat} (hk:k<=n) (h0:0 < n)
  (hK:w.ownsRow B e sz (.slice (some ⟨g,0,none⟩) k cap) k (xs.take (k*sz))->K (.slice (some ⟨g,0,none⟩) k cap) w):V P (Instr.sliceAt t (.slice (some ⟨g,0,none⟩) n cap) none (some (i64 k)) none) w K:=by
 have hcap:n<=cap:=by
  rcases ho.2 with ⟨he,_⟩|⟨g',cap',cur,he,_,_,h3,_⟩
  ·cases he
  ·cases he;exact h3
 have hc0:¬ cap=0:=by omega
 have hkc:k<=cap:=by omega
 refine V.ok ?_ (hK (AV ho hk));simp [Instr.sliceAt,Instr.slice,run_underlying ht,gQ hi,Instr.sliceBounds,Instr.sliceBound,asIntOf,hkc,hc0,jQ]
end
end Go.Vc
namespace Go.Proofs.YtgkkecladbmjkaaGreatDoor
open Tryz
open Go.Vc Go.Tc
variable {w:O} {K:Z->O->Prop}
theorem vQ {cs row:List Z} {sz k q o:Nat} {v:Z} (h:(cs.drop (k*sz)).take sz=row) (hrow:row.length=sz) (ho:o < sz):((cs.set (q*sz+o) v).drop (k*sz)).take sz=if k=q then row.set o v else row:=by
 apply List.ext_getElem?;intro j
 have hj:∀ l:List Z,((l.drop (k*sz)).take sz)[j]?=if j < sz then l[k*sz+j]? else none:=λl=>by
  rw [List.getElem?_take,List.getElem?_drop]
 have hr:row[j]?=if j < sz then cs[k*sz+j]? else none:=by rw [<- h,hj]
 rw [hj];by_cases hjs:j < sz
 ·rw [if_pos hjs];by_cases hkq:k=q
  ·subst hkq;rw [if_pos rfl,List.getElem?_set,List.getElem?_set];rw [if_pos hjs] at hr;by_cases hoj:o=j
   ·subst hoj;rw [if_pos rfl,if_pos rfl];have h1:o < row.length:=by omega
    have h2:k*sz+o < cs.length:=by
     have:row[o]?≠none:=by rw [List.getElem?_eq_getElem h1];simp
     rw [hr] at this;exact Nat.lt_of_not_le λhle=>this (List.getElem?_eq_none hle)
    rw [if_pos h1,if_pos h2]
   ·rw [if_neg hoj,if_neg (by omega),hr]
  ·rw [if_neg hkq,List.getElem?_set,if_neg ?_]
   ·rw [hr,if_pos hjs]
   ·intro he;rcases Nat.lt_or_gt_of_ne hkq with hlt|hgt
    ·have:=Nat.mul_le_mul_right sz (show k+1<=q by omega);rw [Nat.add_mul,Nat.one_mul] at this;omega
    ·have:=Nat.mul_le_mul_right sz (show q+1<=k by omega);rw [Nat.add_mul,Nat.one_mul] at this;omega
 ·rw [if_neg hjs];split
  ·rw [List.getElem?_eq_none (by rw [List.length_set];omega)]
  ·rw [List.getElem?_eq_none (by omega)]
end Go.Proofs.YtgkkecladbmjkaaGreatDoor
namespace Go.Tc
def dN.withCode (i:dN) (q:Nat) (code:List gN):dN:={ i with methods:=i.methods.set q { i.meth q with code:=code } }
end Go.Tc
namespace Go.Proofs.YtgkkecladbmjkaaGreatDoor
open Tryz
open Go.Vc Go.Tc
variable {w:O} {K:Z->O->Prop}
variable {B B':Nat} {w':O} {i:dN}
structure Apl (w:O) (p:fZ) (i:dN):Prop where
 at_:gZ w p i
 nm:jL w i
 rg:i.rg
 ml:i.methods.length=3
 cl:∀ m∈i.methods,m.code.length<=2000000
theorem XZ (l:List gN):(iJ l).all gO=true:=List.all_eq_true.2 λv hv=>by
 simp only [iJ,List.mem_flatMap,List.mem_cons,List.not_mem_nil,or_false] at hv;obtain ⟨x,_,rfl|rfl|rfl⟩:=hv<;>rfl
def BJ (N0:Nat) (w0:O) (v:Z) (w':O):Prop:=∃ code':List gN,w'.ownsRow N0 70 3 v code'.length (iJ code')/\(∀ x∈code',x.rg)/\code'.length<=2000000/\Fr (λk=>N0<=k) w0 w'
structure aSf (S:Nat->Prop) (w:O) (p:fZ) (i:dN):Prop where
 ap:∀ w'',Fr S w w''->mS w''->Apl w'' p i
 mt:∃ cs:List Z,∀ w'',Fr S w w''->aA w'' p.mv 4 i.methods.length cs/\∀ (k:Nat) (x:gA),i.methods[k]?=some x->iO w'' ((cs.drop (k*4)).take 4) x
abbrev sQ (B:Nat) (w:O) (p:fZ) (i:dN):Prop:=aSf (λk=>k < B) w p i
theorem sQ.by_ {p:fZ} (h:sQ B w p i) (hf:∀ w'',Fr (λk=>k < B') w' w''->Fr (λk=>k < B) w w''):sQ B' w' p i:=by
 obtain ⟨h1,cs,h2⟩:=h;exact ⟨λw'' f hT=>h1 w'' (hf w'' f) hT,cs,λw'' f=>h2 w'' (hf w'' f)⟩
theorem sQ.ext {p:fZ} (h:sQ B w p i) (hx:aE w w'):sQ B w' p i:=h.by_ λ_ f=>(Fr.of_ext hx).trans f λ_ _ h=>h
theorem sQ.now {p:fZ} (h:sQ B w p i) (hT:mS w):Apl w p i:=h.ap w (Fr.refl _ _) hT
theorem sQ.chg {g:Nat} {p:fZ} (h:sQ B w p i) (f:Fr (λk=>k=g) w w') (hg:g < B) (hB:B'<=B):sQ B' w' p i:=h.by_ λw'' f'=>((f.mono (T:=λk=>k < B) λk hk=>by omega)).trans f' λk _ hk=>by omega
def fZ.cells (p:fZ) (i:dN):List Z:=[.string i.name,p.fv,p.iv,p.mv,p.xv]
theorem Apl.one {p:fZ} (h:Apl w p i):(p.cells i).all gO=true:=by
 obtain ⟨a1,c1,e1⟩:=aA.shape h.at_.fl;obtain ⟨_,hx1,_⟩:=h.at_.im;obtain ⟨a2,c2,e2⟩:=aA.shape hx1;obtain ⟨_,hx3,_⟩:=h.at_.mt;obtain ⟨a3,c3,e3⟩:=aA.shape hx3;obtain ⟨a4,c4,e4⟩:=aA.shape h.at_.ex;unfold fZ.cells;rw [e1,e2,e3,e4];rfl
theorem aSb {n:Int} {rv:Z} {rl:List Rw} (hr:iE w rv rl) (hb:nO w) (hT:mS w) (rn:rl.length<=5000000000000)
  (hk:∀ p i w',sQ w.heap.size w' p i->(∀ m∈i.methods,m.code.length<=700000)->aE w w'->K (p.val i) w'):aB prog 38 #[i64 n,rv] w K:=
 QN hr hb hT rn λp i w' _ _ h3 h4 h5 h7 h8 h6 _=>hk p i w' ⟨λw'' f hT''=>⟨(h7 w'' f hT'').1,(h7 w'' f hT'').2,h3,h4,λm hm=>Nat.le_trans (h5 m hm) (by decide)⟩,h8⟩ h5 h6
def GK (l:List (fZ × dN)):List Z:=l.flatMap λx=>x.1.cells x.2
def aPh (w:O) (row:List Z) (x:fZ × dN):Prop:=row=x.1.cells x.2/\Apl w x.1 x.2/\lL x.2
def wJ (w:O) (v:Z) (l:List (fZ × dN)):Prop:=eA aPh 5 w v l
theorem GJ:∀ {l:List (fZ × dN)} {k:Nat} {x:fZ × dN},l[k]?=some x->((GK l).drop (k*5)).take 5=x.1.cells x.2
 | [],_,_,h=>by simp at h
 | y::l,0,x,h=>by simp at h;subst h;simp [GK,fZ.cells]
 | y::l,k+1,x,h=>by
  have:=GJ (l:=l) (k:=k) (by simpa using h);simp only [GK,List.flatMap_cons] at this ⊢;rw [show (k+1)*5=5+k*5 by omega,<- List.drop_drop,List.drop_left' (by rfl)];exact this
def rH (w:O) (v:Z) (ll:List (List Rw)):Prop:=∃ vs:List Z,aA w v 1 ll.length vs/\∀ (k:Nat) (l:List Rw),ll[k]?=some l->∃ u,vs[k]?=some u/\iE w u l/\l.length<=5000000000000
theorem rH.ext {w':O} {v:Z} {ll:List (List Rw)} (h:rH w v ll) (hx:aE w w'):rH w' v ll:=by
 obtain ⟨vs,h1,h2⟩:=h;refine ⟨vs,h1.ext hx,λk l hk=>?_⟩;obtain ⟨u,h3,h4,h5⟩:=h2 k l hk;exact ⟨u,h3,h4.ext hx,h5⟩
end Go.Proofs.YtgkkecladbmjkaaGreatDoor
namespace Go.Vc
variable {w w':O} {o:Nat} {cs:List Z} {P:Program} {K:Z->O->Prop}
theorem NM (w:O) (g j:Nat) (c:Array Z) (e:TypeId) (fz:Nat × Nat) (u:Z) (h:w.heap[g]?=some (.cells c e fz)) :
  (w.setCell ⟨g,j,none⟩ u).heap[g]?=some (.cells (c.setIfInBounds j u) e fz):=by
 simp only [World.setCell,Array.getElem?_modify];rw [if_pos trivial,h];rfl
def oQ (w:O) (b o:Nat) (cs:List Z):Prop:=∃ c e fz,w.heap[b]?=some (.cells c e fz)/\o+cs.length<=c.size/\(fz.1=fz.2\/o+cs.length<=fz.1)/\∀ (j:Nat) v,cs[j]?=some v->c[o+j]?=some v
theorem oQ.cell {w:O} {b o:Nat} {cs:List Z} (h:oQ w b o cs) {j:Nat} {v:Z} (hj:cs[j]?=some v):w.cell? ⟨b,o+j,none⟩=some v:=by
 obtain ⟨c,e,fz,h1,_,_,h4⟩:=h;simp [World.cell?,h1,h4 j v hj]
theorem oQ.lt {b:Nat} (h:oQ w b o cs):b < w.heap.size:=by
 obtain ⟨c,e,fz,h1,_⟩:=h;exact (Array.getElem?_eq_some_iff.1 h1).1
theorem oQ.of {b:Nat} (h:oQ w b o cs) (hw:w'.heap[b]?=w.heap[b]?):oQ w' b o cs:=by
 obtain ⟨c,e,fz,h1,h2⟩:=h;exact ⟨c,e,fz,hw.trans h1,h2⟩
theorem oQ.ext {b:Nat} (h:oQ w b o cs) (hx:aE w w'):oQ w' b o cs:=h.of (hx.block b h.lt (by simp))
theorem oQ.frozen {w:O} {b o:Nat} {cs:List Z} (h:oQ w b o cs) {j:Nat} (hj:j < cs.length):w.frozen? ⟨b,o+j,none⟩=false:=by
 obtain ⟨c,e,fz,h1,_,h4,_⟩:=h;have:¬ (fz.1<=o+j/\o+j < fz.2):=by omega
 simp only [World.frozen?,h1];simpa using this
theorem oQ.set {w:O} {b o:Nat} {cs:List Z} (h:oQ w b o cs) {j:Nat} (hj:j < cs.length) (v:Z):oQ (w.setCell ⟨b,o+j,none⟩ v) b o (cs.set j v):=by
 obtain ⟨c,e,fz,h1,h2,h3,h4⟩:=h;refine ⟨_,e,fz,NM w b (o+j) c e fz v h1,by simpa using h2,by simpa using h3,λi u hi=>?_⟩;rw [List.getElem?_set] at hi;by_cases hij:j=i
 ·subst hij;rw [if_pos rfl,if_pos hj] at hi;cases hi;have:o+j < c.size:=by omega
  simp [this]
 ·rw [if_neg hij] at hi;rw [Array.getElem?_setIfInBounds_ne (by omega)];exact h4 i u hi
theorem aCe {t x:Nat} (h:XA P t 1) (hl:L1 P x) {b n cap:Nat} (hs:oQ w b o cs) {k:IntKind} {i:Int} {u:Z} (h0:0<=i) (h1:i < n) (hu:cs[i.toNat]?=some u) (hk:K u w) :
  V P (Instr.indexAt t (.slice (some ⟨b,o,none⟩) n cap) (.int k i)) w λp w1=>V P (Instr.loadAt x p) w1 K:=by
 obtain ⟨e',z',b',ht,hi⟩:=h;obtain ⟨d,hd,ha⟩:=hl;refine V.ok (iG ht hi h0 h1) ?_;simp only [Nat.mul_one];exact V.ok (kH hd ha (hs.cell hu)) hk
theorem nC {s f j ft:Nat} (hf:FA P s f j) (hl:L1 P ft) {b:Nat} (hs:oQ w b o cs) {u:Z} (hu:cs[j]?=some u) (hk:K u w) :
  V P (Instr.fieldAt s (.pointer (some ⟨b,o,none⟩)) f) w λq w1=>V P (Instr.loadAt ft q) w1 K:=by
 obtain ⟨d,hd,ha⟩:=hl;exact V.ok (hf.ex w b o) (V.ok (kH hd ha (hs.cell hu)) hk)
end Go.Vc
namespace Go.Proofs.YtgkkecladbmjkaaGreatDoor
open Tryz
open Go.Vc
def aUs (w:O) (sv:Z) (l:List Int):Prop:=(sv=.slice none 0 0/\l=[])\/∃ ad c,sv=.slice (some ad) l.length c/\(0 < l.length->aAh w sv l)
def a1 (d:Z):List Z:=[i64 (-1),i64 3,i64 0,.bool false,d]
def a2 (d:Z):List Z:=[i64 (-1),i64 4,i64 0,.bool false,d]
structure aNq (w:O) (rb hb ab:Nat) (d1 d2 pub sec:Z):Prop where
 room:dW w rb [.pointer (some ⟨hb,0,none⟩),.slice none 0 0,.slice none 0 0,pub,sec] 134
 heap:dW w hb [i64 100,.slice (some ⟨ab,0,none⟩) 2 2] 193
 arr:dW w ab (a1 d1++a2 d2) 127
 lt:ab < hb/\hb < rb
def dk (k:Nat) (d1 d2:Z):Z:=if k=0 then d1 else d2
def aWp (k:Nat) (d:Z):List Z:=[i64 (-1),i64 (3+(k:Int)),i64 0,.bool false,d]
theorem jR {w:O} {B e s n:Nat} {v:Z} {xs:List Z} (h:w.ownsRow B e s v n xs):gO v=true:=by
 rcases h.2 with ⟨h1,_⟩|⟨g,cap,cur,h1,_⟩<;>(rw [h1];rfl)
def svc (rb:Nat) (who a b:Int) (av:Z):Z:=.agg #[.pointer (some ⟨rb,0,none⟩),.pointer none,i64 who,i64 a,i64 b,av]
end Go.Proofs.YtgkkecladbmjkaaGreatDoor
namespace Go.Vc
theorem aTa {P:Program} {w:O} {S:O->Prop} {L:Z->Prop} {t x:TypeId} {v:Z} {n:Nat} {cs:List Z} {k:IntKind} {i:Int} {u:Z} (h:XA P t 1) (hl:L1 P x) (hs0:aA w v 1 n cs) (hs:∀ w',S w'->aA w' v 1 n cs) (h0:0<=i) (h1:i < n) (hu:cs[i.toNat]?=some u) (hk:L u) :
  aC P S (Instr.indexAt t v (.int k i)) λp=>aC P S (Instr.loadAt x p) L:=by
 obtain ⟨e,z,b',ht,hi⟩:=h;obtain ⟨d,hd,ha⟩:=hl;obtain ⟨b,off,cap,rfl,_⟩:=hs0.there (by omega);refine aC.ok (λw' _=>iG ht hi h0 h1) (aC.ok (λw' hw=>kH hd ha ?_) hk);obtain ⟨b2,off2,cap2,he,hc⟩:=(hs w' hw).there (by omega);cases he;simpa using hc _ _ hu
end Go.Vc
namespace Go.Proofs.YtgkkecladbmjkaaGreatDoor
open Tryz
open Go.Vc
def aUp (l S:List Int) (a i:Nat) (cur:List Int):Prop:=cur.length=l.length/\∀ j,cur[j]?=if a<=j/\j < a+i then S[j - a]? else l[j]?
end Go.Proofs.YtgkkecladbmjkaaGreatDoor
namespace Go.Vc
end Go.Vc
namespace Go.Proofs.YtgkkecladbmjkaaGreatDoor
open Tryz
open Go.Vc
structure aWt (w:O) (rb hb ab B B1:Nat) (d1 d2 pub sec:Z) (p1 p2 t1 t2:List Int):Prop where
 room:aNq w rb hb ab d1 d2 pub sec
 o1:w.ownsRow B 5 1 d1 p1.length (p1.map u8)
 o2:w.ownsRow B 5 1 d2 p2.length (p2.map u8)
 l1:∀ i,d1.ownBlock=some i->i < B1
 l2:∀ i,d2.ownBlock=some i->i < B1
 q1:w.ownsRow B1 5 1 pub t1.length (t1.map u8)
 q2:w.ownsRow B1 5 1 sec t2.length (t2.map u8)
 ne:∀ i,pub.ownBlock=some i->sec.ownBlock≠some i
 lt:rb < B/\B<=B1/\B1<=w.heap.size
 n1:p1.length<=64
 n2:p2.length<=64
 m1:t1.length<=128
 m2:t2.length<=128
def pk (k:Nat) (p1 p2:List Int):List Int:=if k=0 then p1 else p2
structure vI where
 owner:Int
 label:Int
 life:Int
 share:Bool
 dv:Z
 data:List Int
def vI.cells (a:vI):List Z:=[i64 a.owner,i64 a.label,i64 a.life,.bool a.share,a.dv]
def EW (ar:List vI):List Z:=ar.flatMap vI.cells
structure qD (w:O) (hb B:Nat) (size:Int) (g cap:Nat) (ar:List vI):Prop where
 heap:dW w hb [i64 size,.slice (some ⟨g,0,none⟩) ar.length cap] 193
 row:w.ownsRow B 127 5 (.slice (some ⟨g,0,none⟩) ar.length cap) ar.length (EW ar)
 data:∀ a∈ar,w.ownsRow B 5 1 a.dv a.data.length (a.data.map u8)
 len:∀ a∈ar,a.data.length<=64
 dist:∀ (i j:Nat) a b x,ar[i]?=some a->ar[j]?=some b->a.dv.ownBlock=some x->b.dv.ownBlock=some x->i=j
 drow:∀ a∈ar,a.dv.ownBlock≠some g
 lt:B<=w.heap.size
 cnt:ar.length<=1000
 fresh:hb≠g/\∀ a∈ar,a.dv.ownBlock≠some hb
theorem qD.ext {w w':O} {hb B:Nat} {size:Int} {g cap:Nat} {ar:List vI} (h:qD w hb B size g cap ar) (hx:aE w w'):qD w' hb B size g cap ar:=
 ⟨h.heap.ext hx,hx.own h.row,λa ha=>hx.own (h.data a ha),h.len,h.dist,h.drow,by have:=h.lt;have:=hx.size;omega,h.cnt,h.fresh⟩
def atV (g:Nat) (n:Nat) (r:Int):Z:=if 1<=r/\r<=n then .pointer (some ⟨g,(r.toNat - 1)*5,none⟩) else .pointer none
def aWq:vI:=⟨0,0,0,false,.slice none 0 0,[]⟩
def aRi (a:vI) (who:Int):Bool:=decide (a.owner=-1)||decide (a.owner=who)||a.share
def chk (ar:List vI) (r who:Int):Int:=if 1<=r/\r<=ar.length then (match ar[r.toNat - 1]? with|some a=>if aRi a who then 36864 else 28420|none=>28417) else 28417
def rng (ar:List vI) (r a n who:Int):Int:=if chk ar r who=36864 then (match ar[r.toNat - 1]? with|some x=>if a < 0\/n < 0\/a > x.data.length\/n > x.data.length - a then 28418 else 36864|none=>28418) else chk ar r who
structure aSi (w:O) (rb hb B:Nat) (size:Int) (g cap:Nat) (ar:List vI) (pub sec:Z) (tp ts:List Int):Prop where
 room:dW w rb [.pointer (some ⟨hb,0,none⟩),.slice none 0 0,.slice none 0 0,pub,sec] 134
 h:qD w hb B size g cap ar
 qp:w.ownsRow B 5 1 pub tp.length (tp.map u8)
 qs:w.ownsRow B 5 1 sec ts.length (ts.map u8)
 lp:tp.length<=128
 ls:ts.length<=128
 ne:∀ x,pub.ownBlock=some x->sec.ownBlock≠some x
 np:∀ a∈ar,∀ x,a.dv.ownBlock=some x->pub.ownBlock≠some x
 ns:∀ a∈ar,∀ x,a.dv.ownBlock=some x->sec.ownBlock≠some x
 gp:pub.ownBlock≠some g
 gs:sec.ownBlock≠some g
 lt:rb≠hb
 fresh:∀ x,(x=rb\/x=hb)->x≠g/\(∀ a∈ar,a.dv.ownBlock≠some x)/\pub.ownBlock≠some x/\sec.ownBlock≠some x
def MuG (rb hb g:Nat) (ar:List vI) (pub sec:Z) (i:Nat):Prop:=i=rb\/i=hb\/i=g\/(∃ a∈ar,a.dv.ownBlock=some i)\/pub.ownBlock=some i\/sec.ownBlock=some i
def aSg (a b:vI):Prop:=b.owner=a.owner/\b.label=a.label/\b.life=a.life/\b.share=a.share/\b.data=a.data
def Wk (st who:Int) (ar ar':List vI):Prop:=ar.length<=ar'.length/\(st≠36864->ar'.length=ar.length)/\∀ (k:Nat) (a:vI),ar[k]?=some a->∃ a',ar'[k]?=some a'/\(aSg a a'\/(st=36864/\aRi a who=true))
def aUf (w:O) (rb hb B:Nat) (size:Int) (g:Nat) (ar:List vI) (pub sec:Z) (who:Int) (r:Z) (w':O):Prop:=
 ∃ (p st:Int) (g' cap':Nat) (ar':List vI) (pub' sec':Z) (tp' ts':List Int),r=.tuple #[i32 p,i64 st]/\aSi w' rb hb B size g' cap' ar' pub' sec' tp' ts'/\Wk st who ar ar'/\Fr (MuG rb hb g ar pub sec) w w'
section
variable {w:O} {rb hb B:Nat} {size:Int} {g cap:Nat} {ar:List vI} {pub sec av:Z} {tp ts:List Int}
end
end Go.Proofs.YtgkkecladbmjkaaGreatDoor
namespace Go.Vc
section
variable {P:Program} {w:O} {K:Z->O->Prop} {k:IntKind} {t:TypeId} {a b:Int}
theorem FE:(binOp .and t (.int k a) (.int k b)).run P w=.ok (.int k (k.wrap (BitVec.ofInt k.bits a &&& BitVec.ofInt k.bits b).toNat)) w:=by simp [binOp,Op.intBits]
theorem aKo:(binOp .or t (.int k a) (.int k b)).run P w=.ok (.int k (k.wrap (BitVec.ofInt k.bits a ||| BitVec.ofInt k.bits b).toNat)) w:=by simp [binOp,Op.intBits]
theorem aIv:(binOp .xor t (.int k a) (.int k b)).run P w=.ok (.int k (k.wrap (BitVec.ofInt k.bits a ^^^ BitVec.ofInt k.bits b).toNat)) w:=by simp [binOp,Op.intBits]
theorem aQu:(Op.unary .xor (.int k a)).run P w=.ok (.int k (k.wrap (BitVec.ofInt k.bits (if k.signed then -1 else k.max) ^^^ BitVec.ofInt k.bits a).toNat)) w:=by simp [Op.unary,Op.intBits]
theorem aQp {k':IntKind} (h:0<=b):(binOp .shl t (.int k a) (.int k' b)).run P w=.ok (.int k (k.wrap (a*2 ^ (min b.toNat k.bits)))) w:=by
 have:¬ b < 0:=by omega
 simp [binOp,Op.shift,this]
theorem OX {k':IntKind} (h:0<=b):(binOp .shr t (.int k a) (.int k' b)).run P w=.ok (.int k (a.fdiv (2 ^ (min b.toNat k.bits)))) w:=by
 have:¬ b < 0:=by omega
 simp [binOp,Op.shift,this]
theorem aSd (b:Int):0<=IntKind.i32.wrap (BitVec.ofInt IntKind.i32.bits b &&& BitVec.ofInt IntKind.i32.bits 31).toNat:=by
 have h:(BitVec.ofInt IntKind.i32.bits b &&& BitVec.ofInt IntKind.i32.bits 31).toNat<=31:=by
  rw [BitVec.toNat_and];exact Nat.le_trans Nat.and_le_right (by decide)
 generalize (BitVec.ofInt IntKind.i32.bits b &&& BitVec.ofInt IntKind.i32.bits 31).toNat=n at h;simp only [IntKind.wrap_i32];omega
end
end Go.Vc
namespace Go.Proofs.YtgkkecladbmjkaaGreatDoor
open Tryz
open Go.Vc
def aVh (f:FuncId):Prop:=∀ a:Int,∃ z:Int,∀ w,aB prog f #[i32 a] w λr w'=>r=i32 z/\w'=w
def aVg (f:FuncId):Prop:=∀ a b:Int,∃ z:Int,∀ w,aB prog f #[i32 a,i32 b] w λr w'=>r=i32 z/\w'=w
section
variable {w:O} {rb hb B:Nat} {size:Int} {g cap:Nat} {ar:List vI} {pub sec av:Z} {tp ts:List Int}
end
end Go.Proofs.YtgkkecladbmjkaaGreatDoor
namespace Go.Vc
theorem rB {w:O} {g e B n size:Nat} {cs:List Z} (hb:dW w g cs e) (hn:cs.length=n*size) (hB:B<=g) (hm:n<=maxLen):w.ownsRow B e size (.slice (some ⟨g,0,none⟩) n n) n cs:=
 ⟨hn,.inr ⟨g,n,cs.toArray,rfl,hB,hb,Nat.le_refl _,hm,by simpa using hn,by rw [<- hn];simp⟩⟩
theorem apZ {P:Program} {w:O} {K:Z->O->Prop} {t e by_ ty sz:Nat} {z:Z} (ht:P.underlying t=some (.slice e)) (hi:fH P e z sz by_) (hz:(z.cells.size == sz)=true) (hsz:0 < sz) {B B':Nat} {v:Z} {n:Nat} {xs:List Z} (ho:w.ownsRow B e sz v n xs) {x:Z} {m:Nat} {news:List Z} (hs:w.ownsRow B' e sz x m news) (hm:0 < m) (h1:news.all gO=true)
  (hb:(n+m)*by_<=140737488355328) (h63:n+m<=maxLen) (hB:B<=w.heap.size)
  (hk:∀ g cap w',w'.ownsRow B e sz (.slice (some ⟨g,0,none⟩) (n+m) cap) (n+m) (xs++news)->w.grownBy w' v.ownBlock->(v.ownBlock=some g\/g=w.heap.size)->K (.slice (some ⟨g,0,none⟩) (n+m) cap) w') :
  V P (Builtin.append_ #[t,t] ty #[v,x]) w K:=by
 obtain ⟨i,hi',hz',hn,hby⟩:=info_parts hi;have hs0:=hs;rcases hs.2 with ⟨_,h0⟩|⟨b,cap,cur,rfl,_⟩
 ·omega
 ·obtain ⟨g,cap,w',hr,h2,h3,h4,h5⟩:=run_append_lies (P:=P) (w:=w) t ty B e i z sz by_ ht hi' hz' hn hby (by simpa using hz) hsz v n xs ho ⟨b,0,none⟩ m cap news hs.1 (hs0.cells rfl) (λu hu=>by rw [rC];exact List.all_eq_true.1 h1 u hu) hm h63 hb hB _ rfl;exact V.ok hr (hk g cap w' h2 h3 h4)
end Go.Vc
namespace Go.Proofs.YtgkkecladbmjkaaGreatDoor
open Tryz
open Go.Vc
end Go.Proofs.YtgkkecladbmjkaaGreatDoor
namespace Go.Vc
theorem Fr.seg {S:Nat->Prop} {w w':O} {b o:Nat} {cs:List Z} (f:Fr S w w') (h:oQ w b o cs) (hn:¬ S b):oQ w' b o cs:=h.of (f.block b h.lt hn)
end Go.Vc
namespace Go.Proofs.YtgkkecladbmjkaaGreatDoor
open Tryz
open Go.Vc
structure OM where
 what:Int
 a:Int
 b:Int
 c:Int
def OM.cells (e:OM):List Z:=[i64 e.what,i64 e.a,i64 e.b,i64 e.c]
def trC (l:List OM):List Z:=l.flatMap OM.cells
theorem aAs (l m:List OM):trC (l++m)=trC l++trC m:=by simp [trC]
structure PA where
 owner:Int
 label:Int
 life:Int
 share:Bool
 data:List Int
def pa (a:vI):PA:=⟨a.owner,a.label,a.life,a.share,a.data⟩
structure PS where
 size:Int
 ar:List PA
 tp:List Int
 ts:List Int
 tr:List OM
def PS.ev (s:PS) (l:List OM):PS:={ s with tr:=s.tr++l }
structure RP where
 (rb hb B g cap tb:Nat) (size:Int) (ar:List vI) (iv fv pub sec tv:Z) (tp ts:List Int) (tr:List OM)
def RP.ps (p:RP):PS:=⟨p.size,p.ar.map pa,p.tp,p.ts,p.tr⟩
@[reducible] def RP.ev1 (p:RP) (tv':Z) (e:OM):RP:={ p with tv:=tv',tr:=p.tr++[e] }
def wH (p:RP) (i:Nat):Prop:=i=p.rb\/i=p.hb\/i=p.g\/(∃ a∈p.ar,a.dv.ownBlock=some i)\/p.pub.ownBlock=some i\/p.sec.ownBlock=some i
def HD (p:RP) (i:Nat):Prop:=i=p.tb\/p.tv.ownBlock=some i
def okB (l:List Int):Prop:=∀ b∈l,0<=b/\b < 256
structure oF (p:RP) (w:O):Prop where
 room:oQ w p.rb 0 [.pointer (some ⟨p.hb,0,none⟩),p.iv,p.fv,p.pub,p.sec]
 h:qD w p.hb p.B p.size p.g p.cap p.ar
 qp:w.ownsRow p.B 5 1 p.pub p.tp.length (p.tp.map u8)
 qs:w.ownsRow p.B 5 1 p.sec p.ts.length (p.ts.map u8)
 lp:p.tp.length<=128
 ls:p.ts.length<=128
 ne:∀ x,p.pub.ownBlock=some x->p.sec.ownBlock≠some x
 np:∀ a∈p.ar,∀ x,a.dv.ownBlock=some x->p.pub.ownBlock≠some x
 ns:∀ a∈p.ar,∀ x,a.dv.ownBlock=some x->p.sec.ownBlock≠some x
 gp:p.pub.ownBlock≠some p.g
 gs:p.sec.ownBlock≠some p.g
 lt:p.rb≠p.hb
 fresh:∀ x,(x=p.rb\/x=p.hb)->x≠p.g/\(∀ a∈p.ar,a.dv.ownBlock≠some x)/\p.pub.ownBlock≠some x/\p.sec.ownBlock≠some x
 tbox:dW w p.tb [p.tv] 125
 trow:w.ownsRow p.B 54 4 p.tv p.tr.length (trC p.tr)
 tne:p.tv.ownBlock≠some p.tb
 tfr:∀ i,HD p i->¬ wH p i
 two:2<=p.ar.length
 sz:0<=p.size/\p.size<=1000
 bytes:∀ a∈p.ar,okB a.data
variable {p:RP} {w w':O}
theorem oF.hi (h:oF p w):∀ i,wH p i\/HD p i->i < w.heap.size:=by
 intro i hm;rcases hm with (rfl|rfl|rfl|⟨a,ha,he⟩|he|he)|rfl|he
 ·exact h.room.lt
 ·exact h.h.heap.lt
 ·exact (h.h.row.lt _ rfl).2
 ·exact ((h.h.data a ha).lt _ he).2
 ·exact (h.qp.lt _ he).2
 ·exact (h.qs.lt _ he).2
 ·exact h.tbox.lt
 ·exact (h.trow.lt _ he).2
theorem qD.frT {S:Nat->Prop} {hb B:Nat} {size:Int} {g cap:Nat} {ar:List vI} (h:qD w hb B size g cap ar) (hf:Fr S w w') (hn:∀ i,S i->i≠hb/\i≠g/\∀ a∈ar,a.dv.ownBlock≠some i):qD w' hb B size g cap ar:=
 ⟨hf.blk h.heap λhs=>(hn _ hs).1 rfl,hf.own h.row λi hi hs=>(hn i hs).2.1 (by simpa [Value.ownBlock] using hi.symm),λa ha=>hf.own (h.data a ha) λi hi hs=>(hn i hs).2.2 a ha hi,h.len,h.dist,h.drow,by have:=hf.size;have:=h.lt;omega,h.cnt,h.fresh⟩
theorem oF.fr {S:Nat->Prop} (h:oF p w) (f:Fr S w w') (hn:∀ i,S i->¬ wH p i/\¬ HD p i):oF p w':=
 ⟨f.seg h.room λhs=>(hn _ hs).1 (.inl rfl),h.h.frT f λi hs=>⟨λe=>(hn i hs).1 (.inr (.inl e)),λe=>(hn i hs).1 (.inr (.inr (.inl e))),λa ha e=>(hn i hs).1 (.inr (.inr (.inr (.inl ⟨a,ha,e⟩))))⟩,
  f.own h.qp λi hi hs=>(hn i hs).1 (.inr (.inr (.inr (.inr (.inl hi))))),f.own h.qs λi hi hs=>(hn i hs).1 (.inr (.inr (.inr (.inr (.inr hi))))),h.lp,h.ls,h.ne,h.np,h.ns,h.gp,h.gs,h.lt,h.fresh,
  f.blk h.tbox λhs=>(hn _ hs).2 (.inl rfl),f.own h.trow λi hi hs=>(hn i hs).2 (.inr hi),h.tne,h.tfr,h.two,h.sz,h.bytes⟩
theorem oF.ext (h:oF p w) (hx:aE w w'):oF p w':=h.fr (Fr.of_ext (S:=λ_=>False) hx) λ_ hf=>hf.elim
def aVt (p:RP) (who a b:Int) (av:Z):Z:=.agg #[.pointer (some ⟨p.rb,0,none⟩),.pointer (some ⟨p.tb,0,none⟩),i64 who,i64 a,i64 b,av]
structure Stp (p p':RP) (w w':O):Prop where
 rb:p'.rb=p.rb
 hb:p'.hb=p.hb
 B:p'.B=p.B
 tb:p'.tb=p.tb
 size:p'.size=p.size
 iv:p'.iv=p.iv
 fv:p'.fv=p.fv
 mu:∀ i,wH p' i\/HD p' i->wH p i\/HD p i\/w.heap.size<=i
 fr:Fr (λi=>wH p i\/HD p i) w w'
theorem aDl (h:oF p w) (hl:p.tr.length<=100000) {e:OM}:aB prog 52 #[.pointer (some ⟨p.tb,0,none⟩),i64 e.what,i64 e.a,i64 e.b,i64 e.c] w λ_ w'=>
  ∃ tv',oF (p.ev1 tv' e) w'/\Stp p (p.ev1 tv' e) w w'/\Fr (HD p) w w'/\∀ i,HD (p.ev1 tv' e) i->HD p i\/w.heap.size<=i:=by
 apply aOq;unfold RJ;refine ⟨.inl ⟨_,rfl⟩,?_⟩;refine bQ h.tbox.boxed bT lX rfl (hU aPt (aA.of_own h.trow) ?_);refine jU.2 ?_;simp only [show ¬ ((p.tr.length:Int)>=200000) by omega,aD,decide_false];refine ⟨.inl ⟨_,rfl⟩,?_⟩;refine bQ h.tbox.boxed bT lX rfl ?_;refine kO aSa [(0,i64 e.what),(1,i64 e.a),(2,i64 e.b),(3,i64 e.c)] rfl rfl ?_;refine V.ok (v:=.slice (some ⟨w.heap.size,0,none⟩) 1 1) (w':=w.alloc (.cells e.cells.toArray 54)) (by kernel_rfl) ?_;have hb1:dW (w.alloc (.cells e.cells.toArray 54)) w.heap.size e.cells 54:=by unfold dW;rw [heap_alloc_new]
 have x1:aE w (w.alloc (.cells e.cells.toArray 54)):=(aE.refl _).alloc _;generalize w.alloc (.cells e.cells.toArray 54)=w1 at hb1 x1 ⊢;have ho1:w1.ownsRow 0 54 4 (.slice (some ⟨w.heap.size,0,none⟩) 1 1) 1 e.cells:=rB hb1 rfl (Nat.zero_le _) (by unfold maxLen;omega);have h1:=h.ext x1;have hlt:=h1.h.lt;refine apZ underlying50 YA rfl (by omega) h1.trow ho1 (by omega) (by rfl) (by omega) (by unfold maxLen;omega) (by omega) λg' cap' w2 ho2 hg2 hlies=>?_;have f2:Fr (λi=>p.tv.ownBlock=some i) w1 w2:=Fr.of_grown hg2 λk hk=>hk;refine ⟨.inl ⟨_,rfl⟩,?_⟩;refine V.ok MM ?_;have hb2:=f2.blk h1.tbox h.tne;have htl:=h.tbox.lt;have s1:=x1.size;refine MA YB hb2 rfl (by simp) rfl ?_;have f3:Fr (λi=>i=p.tb) w2 (w2.setCell ⟨p.tb,0,none⟩ (.slice (some ⟨g',0,none⟩) (p.tr.length+1) cap')):=Fr.of_set rfl;have hb3:=hb2.set 0 (.slice (some ⟨g',0,none⟩) (p.tr.length+1) cap')
 have hgt:¬ g'=p.tb:=λhe=>by
  rcases hlies with hl|hl
  ·exact h.tne (he▸hl)
  ·omega
 have ho3:=f3.own ho2 λk hk=>by
  have:g'=k:=by simpa [Value.ownBlock] using hk
  omega
 generalize w2.setCell ⟨p.tb,0,none⟩ (.slice (some ⟨g',0,none⟩) (p.tr.length+1) cap')=w3 at f3 hb3 ho3 ⊢;have F:Fr (HD p) w w3:=((Fr.of_ext (S:=λi=>p.tv.ownBlock=some i) x1).trans f2 λ_ _ h=>h).or f3 |>.mono λi hi=>hi.elim .inr .inl;have hS:∀ i,HD p i->¬ wH p i:=h.tfr
 have hlie:∀ i,g'=i->HD p i\/w.heap.size<=i:=λi hi=>by
  subst hi;rcases hlies with hl|hl
  ·exact .inl (.inr hl)
  ·exact .inr (by omega)
 have hgm:¬ wH p g':=λhm=>by
  rcases hlie g' rfl with h'|h'
  ·exact h.tfr _ h' hm
  ·have:=h.hi g' (.inl hm);omega
 refine ⟨.slice (some ⟨g',0,none⟩) (p.tr.length+1) cap',⟨F.seg h.room λhs=>hS _ hs (.inl rfl),h.h.frT F λi hs=>⟨λe=>hS i hs (.inr (.inl e)),λe=>hS i hs (.inr (.inr (.inl e))),λa ha e=>hS i hs (.inr (.inr (.inr (.inl ⟨a,ha,e⟩))))⟩,
  F.own h.qp λi hi hs=>hS i hs (.inr (.inr (.inr (.inr (.inl hi))))),F.own h.qs λi hi hs=>hS i hs (.inr (.inr (.inr (.inr (.inr hi))))),h.lp,h.ls,h.ne,h.np,h.ns,h.gp,h.gs,h.lt,h.fresh,hb3,?_,λhe=>hgt (by simpa [Value.ownBlock] using he),λi hi hm=>?_,h.two,h.sz,h.bytes⟩,⟨rfl,rfl,rfl,rfl,rfl,rfl,rfl,λi hi=>?_,F.mono λi hi=>.inr hi⟩,F,λi hi=>?_⟩
 ·show w3.ownsRow p.B 54 4 (.slice (some ⟨g',0,none⟩) (p.tr.length+1) cap') (p.tr++[e]).length (trC (p.tr++[e]));rw [aAs,List.length_append];have:trC [e]=e.cells:=by simp [trC]
  rw [this];exact ho3
 ·rcases hi with hi|hi
  ·exact h.tfr i (.inl hi) hm
  ·have:g'=i:=by simpa [Value.ownBlock] using hi
   exact hgm (this▸hm)
 ·rcases hi with hi|hi|hi
  ·exact .inl hi
  ·exact .inr (.inl (.inl hi))
  ·have:g'=i:=by simpa [Value.ownBlock] using hi
   exact .inr (hlie i this)
 ·rcases hi with hi|hi
  ·exact .inl (.inl hi)
  ·have:g'=i:=by simpa [Value.ownBlock] using hi
   exact hlie i this
def aTp (a:PA) (who:Int):Bool:=decide (a.owner=-1)||decide (a.owner=who)||a.share
def GV (l:List PA) (r who:Int):Int:=if 1<=r/\r<=l.length then (match l[r.toNat - 1]? with|some a=>if aTp a who then 36864 else 28420|none=>28417) else 28417
def uC (l:List PA) (r a n who:Int):Int:=if GV l r who=36864 then (match l[r.toNat - 1]? with|some x=>if a < 0\/n < 0\/a > x.data.length\/n > x.data.length - a then 28418 else 36864|none=>28418) else GV l r who
def NS (l:List PA) (r:Int):List Int:=match l[r.toNat - 1]? with|some x=>x.data|none=>[]
def aAz (l:List PA) (r:Int) (d:List Int):List PA:=match l[r.toNat - 1]? with|some x=>l.set (r.toNat - 1) { x with data:=d }|none=>l
theorem map_set (ar:List vI) (k:Nat) (y:vI):(ar.set k y).map pa=(ar.map pa).set k (pa y):=by simp
abbrev HF:=Int × Int × PS
def VQ (s:PS) (who r:Int):HF:=if GV s.ar r who=36864 then (IntKind.i32.wrap (((NS s.ar r).length:Nat):Int),36864,s.ev [⟨2,r,0,0⟩]) else (0,GV s.ar r who,s.ev [⟨2,r,0,0⟩])
def VR (s:PS) (who r a:Int):HF:=if uC s.ar r a 1 who=36864 then (IntKind.i32.wrap ((NS s.ar r).getD a.toNat 0),36864,s.ev [⟨2,r,a,1⟩]) else (0,uC s.ar r a 1 who,s.ev [⟨2,r,a,1⟩])
def VP (s:PS) (who r a z:Int):HF:=if uC s.ar r a 1 who=36864 then (0,36864,{ s.ev [⟨2,r,a,1⟩] with ar:=aAz s.ar r ((NS s.ar r).set a.toNat (IntKind.u8.wrap z)) }) else (0,uC s.ar r a 1 who,s.ev [⟨2,r,a,1⟩])
def SvR (p:RP) (w:O) (x:HF) (r:Z) (w':O):Prop:=∃ p',r=.tuple #[i32 x.1,i64 x.2.1]/\p'.ps=x.2.2/\oF p' w'/\Stp p p' w w'
section
variable {p:RP} {w w':O} {av:Z}
end
def AF (s:PS) (who r1 a1 r2 a2 n:Int):Int:=if uC s.ar r1 a1 n who=36864 then uC s.ar r2 a2 n who else uC s.ar r1 a1 n who
def PS.ev2 (s:PS) (r1 a1 r2 a2 n:Int):PS:=(s.ev [⟨2,r1,a1,n⟩]).ev [⟨2,r2,a2,n⟩]
def aTx (l:List PA) (r1 a1 r2 a2 n:Int):List Int:=(NS l r1).take a1.toNat++((NS l r2).drop a2.toNat).take n.toNat++(NS l r1).drop (a1.toNat+n.toNat)
def EV (s:PS) (who r1 a1 r2 a2 n:Int):HF:=if AF s who r1 a1 r2 a2 n=36864 then (0,36864,{ s.ev2 r1 a1 r2 a2 n with ar:=aAz s.ar r1 (aTx s.ar r1 a1 r2 a2 n) }) else (0,AF s who r1 a1 r2 a2 n,s.ev2 r1 a1 r2 a2 n)
section
variable {p:RP} {w w':O} {av:Z}
end
def aKl (a b:Int):Int:=IntKind.i32.wrap ((IntKind.u32.wrap a).fdiv (2 ^ (min (IntKind.i32.wrap (BitVec.ofInt IntKind.i32.bits b &&& BitVec.ofInt IntKind.i32.bits 31).toNat).toNat IntKind.u32.bits)))
theorem VH (a b:Int) (w:O):aB prog 170 #[i32 a,i32 b] w λr w'=>r=i32 (aKl a b)/\w'=w:=aGj (by
 unfold JU;exact V.ok (jK underlying21 underlying201) (V.ok FE (V.ok (OX (aSd b)) (V.ok (jK underlying201 underlying21) ⟨rfl,rfl⟩))))
def AC (a:Int):Int:=aKl (IntKind.i32.wrap (BitVec.ofInt IntKind.i32.bits a ||| BitVec.ofInt IntKind.i32.bits (IntKind.i32.wrap (0 - a))).toNat) 31
theorem OT (a:Int) (w:O):aB prog 177 #[i32 a] w λr w'=>r=i32 (AC a)/\w'=w:=by
 apply aGc;unfold JN;refine V.ok WD (V.ok aKo ?_);exact (VH _ _ w).mono λ_ _ h=>h
def aVo (x y:Int):Int:=IntKind.u8.wrap (BitVec.ofInt IntKind.u8.bits x ^^^ BitVec.ofInt IntKind.u8.bits y).toNat
def orF (x y:Int):Int:=IntKind.u8.wrap (BitVec.ofInt IntKind.u8.bits x ||| BitVec.ofInt IntKind.u8.bits y).toNat
def aBp (l:List PA) (r a n:Int):List Int:=((NS l r).drop a.toNat).take n.toNat
def ET (s:PS) (who r1 a1 r2 a2 n:Int):HF:=if AF s who r1 a1 r2 a2 n=36864 then (if aBp s.ar r1 a1 n=aBp s.ar r2 a2 n then 1 else 0,36864,s.ev2 r1 a1 r2 a2 n) else (0,AF s who r1 a1 r2 a2 n,s.ev2 r1 a1 r2 a2 n)
section
variable {p:RP} {w w':O} {av:Z}
end
def ES (s:PS) (who sa r a n:Int):HF:=if uC s.ar r a n who=36864 then (if sa=1 then (if s.tp.length+n.toNat > 128 then (0,28425,s.ev [⟨2,r,a,n⟩]) else (0,36864,{ s.ev [⟨2,r,a,n⟩] with tp:=s.tp++aBp s.ar r a n })) else (if s.ts.length+n.toNat > 128 then (0,28425,s.ev [⟨2,r,a,n⟩]) else (0,36864,{ s.ev [⟨2,r,a,n⟩] with ts:=s.ts++aBp s.ar r a n }))) else (0,uC s.ar r a n who,s.ev [⟨2,r,a,n⟩])
section
variable {p:RP} {w w':O} {av:Z}
end
def aTe (l:List PA) (i:Nat):Nat:=(((l.drop 2).take i).map λa=>8+a.data.length).sum
def aQf (l:List PA):Nat:=aTe l (l.length - 2)
def aJf (sb:Int):Int:=IntKind.i64.wrap (BitVec.ofInt IntKind.i64.bits sb &&& BitVec.ofInt IntKind.i64.bits 3).toNat
def EU (s:PS) (who sa sb n:Int):HF:=if n < 0\/n > 64 then (0,28425,s.ev [⟨3,sa,sb,n⟩]) else if aJf sb > 2\/8+n > s.size - aQf s.ar then (0,28421,s.ev [⟨3,sa,sb,n⟩]) else (IntKind.i32.wrap ((s.ar.length+1:Nat):Int),36864,{ s.ev [⟨3,sa,sb,n⟩] with ar:=s.ar++[⟨who,sa,aJf sb,decide (sb>=4),List.replicate n.toNat 0⟩] })
def kD (l:List Int):Prop:=∀ z∈l,-2147483648<=z/\z<=2147483647
def VS (s:PS) (a b:Int):HF:=if b=0 then (0,28419,s) else (IntKind.i32.wrap (IntKind.i64.wrap (a.tdiv b)),36864,s)
def VO (s:PS) (a b:Int):HF:=if b=0 then (0,28419,s) else (IntKind.i32.wrap (a.tmod b),36864,s)
def sS (p:RP):Z:=.pointer (some ⟨p.rb,0,none⟩)
def OS (p:RP):Z:=.pointer (some ⟨p.tb,0,none⟩)
section
variable {p:RP} {w w':O}
def VT (s:PS) (a b:List Int):Bool × PS:=if a.length > 64\/b.length > 64 then (false,s) else (true,{ s with ar:=aAz (aAz s.ar 1 a) 2 b,tp:=[],ts:=[] })
end
structure QP where
 (xb yb ub g cap:Nat) (size:Int) (ar:List vI) (iv fv pub sec uv:Z) (tp ts:List Int) (tr:List OM)
def QP.ps (q:QP):PS:=⟨q.size,q.ar.map pa,q.tp,q.ts,q.tr⟩
def RMu (q:QP) (i:Nat):Prop:=i=q.xb\/i=q.yb\/i=q.ub\/q.uv.ownBlock=some i
def RCo (q:QP) (i:Nat):Prop:=i=q.g\/(∃ a∈q.ar,a.dv.ownBlock=some i)\/q.pub.ownBlock=some i\/q.sec.ownBlock=some i
structure aSj (q:QP) (w:O):Prop where
 xbox:oQ w q.xb 0 [.pointer (some ⟨q.yb,0,none⟩),q.iv,q.fv,q.pub,q.sec]
 ybox:dW w q.yb [i64 q.size,.slice (some ⟨q.g,0,none⟩) q.ar.length q.cap] 156
 ubox:dW w q.ub [q.uv] 66
 list:w.ownsRow 0 127 5 (.slice (some ⟨q.g,0,none⟩) q.ar.length q.cap) q.ar.length (EW q.ar)
 data:∀ a∈q.ar,w.ownsRow 0 5 1 a.dv a.data.length (a.data.map u8)
 len:∀ a∈q.ar,a.data.length<=64
 qp:w.ownsRow 0 5 1 q.pub q.tp.length (q.tp.map u8)
 qs:w.ownsRow 0 5 1 q.sec q.ts.length (q.ts.map u8)
 lp:q.tp.length<=128
 ls:q.ts.length<=128
 trow:w.ownsRow 0 54 4 q.uv q.tr.length (trC q.tr)
 xy:q.xb≠q.yb
 xu:q.xb≠q.ub
 yu:q.yb≠q.ub
 une:∀ i,q.uv.ownBlock=some i->i≠q.xb/\i≠q.yb/\i≠q.ub
 dj:∀ i,RMu q i->¬ RCo q i
 two:2<=q.ar.length
 cnt:q.ar.length<=1000
 sz:0<=q.size/\q.size<=1000
variable {q:QP} {w w':O}
structure aUg (q q':QP) (w w':O):Prop where
 xb:q'.xb=q.xb
 yb:q'.yb=q.yb
 ub:q'.ub=q.ub
 size:q'.size=q.size
 iv:q'.iv=q.iv
 fv:q'.fv=q.fv
 mu:∀ i,RMu q' i\/RCo q' i->RMu q i\/RCo q i\/w.heap.size<=i
 mm:∀ i,RMu q' i->RMu q i\/w.heap.size<=i
 fr:Fr (RMu q) w w'
def ybT (q:QP):Z:=.pointer (some ⟨q.yb,0,none⟩)
def xbT (q:QP):Z:=.pointer (some ⟨q.xb,0,none⟩)
def ubT (q:QP):Z:=.pointer (some ⟨q.ub,0,none⟩)
section
variable {w w':O} {K:Z->O->Prop}
end
section
variable {q:QP} {w w':O}
end
section
variable {q:QP} {w w':O} {K:Z->O->Prop}
end
section
variable {w w':O}
end
def RvR (q:QP) (w:O) (x:HF) (r:Z) (w':O):Prop:=∃ q',r=.tuple #[i32 x.1,i64 x.2.1]/\q'.ps=x.2.2/\aSj q' w'/\aUg q q' w w'
section
variable {q:QP} {w w':O} {av ov:Z} {R:Z->O->Prop} {s:PS}
end
structure aVl (op who sa sb:Int) (n:Nat) (ns:List Int) (X:PS->HF):Prop where
 prg:∀ {p:RP} {w:O} {av:Z},oF p w->p.tr.length<=99000->aA w av 1 n (ns.map i32)->aB prog 136 #[sS p,OS p,i64 who,i64 op,i64 sa,i64 sb,av] w λr w'=>SvR p w (X p.ps) r w'
 ref:∀ {q:QP} {w:O} {av:Z},aSj q w->q.tr.length<=99000->(∀ x∈q.ps.ar,okB x.data)->(∀ w',Fr (RMu q) w w'->aA w' av 1 n (ns.map i32))->aB prog 69 #[xbT q,ubT q,i64 who,i64 op,i64 sa,i64 sb,av] w λr w'=>RvR q w (X q.ps) r w'
 len:∀ s,(X s).2.2.tr.length<=s.tr.length+2
end Go.Proofs.YtgkkecladbmjkaaGreatDoor
namespace Go.Proofs.YtgkkecladbmjkaaGreatDoor
open Tryz
open Go.Vc Go.Tc
variable {a who:Int} {k n pc:Nat} {i:dN} {m:gA} {x:gN} {fd:List (List Int)} {loc:List Int}
def kY (a:Int):Prop:=-2147483648<=a/\a<=2147483647
def c31 (b:Int):Int:=IntKind.i32.wrap (BitVec.ofInt IntKind.i32.bits b &&& BitVec.ofInt IntKind.i32.bits 31).toNat
def nL (op a b:Int):Int:=
 if op=6 then IntKind.i32.wrap (a+b) else if op=7 then IntKind.i32.wrap (a - b) else if op=8 then IntKind.i32.wrap (a*b)
 else if op=9 then IntKind.i32.wrap (BitVec.ofInt IntKind.i32.bits a &&& BitVec.ofInt IntKind.i32.bits b).toNat
 else if op=10 then IntKind.i32.wrap (BitVec.ofInt IntKind.i32.bits a ||| BitVec.ofInt IntKind.i32.bits b).toNat
 else if op=11 then IntKind.i32.wrap (BitVec.ofInt IntKind.i32.bits a ^^^ BitVec.ofInt IntKind.i32.bits b).toNat
 else if op=12 then IntKind.i32.wrap (a*2 ^ (min (c31 b).toNat IntKind.i32.bits))
 else if op=13 then IntKind.i32.wrap ((IntKind.u32.wrap a).fdiv (2 ^ (min (c31 b).toNat IntKind.u32.bits)))
 else if op=14 then a.fdiv (2 ^ (min (c31 b).toNat IntKind.i32.bits))
 else if op=19 then (if a=b then 1 else 0)
 else if op=20 then (if a < b then 1 else 0)
 else if IntKind.u32.wrap a < IntKind.u32.wrap b then 1 else 0
def unF (op a:Int):Int:=
 if op=15 then IntKind.i32.wrap (0 - a)
 else if op=16 then IntKind.i32.wrap (BitVec.ofInt IntKind.i32.bits (-1) ^^^ BitVec.ofInt IntKind.i32.bits a).toNat
 else if a=0 then 1 else 0
def sB (c a b:Int):Int:=if c=0 then b else a
theorem rU (n:Int):kY (IntKind.i32.wrap n):=by
 unfold kY;simp only [IntKind.wrap_i32];omega
theorem aMk (ha:kY a):kY (a.fdiv (2 ^ k)):=by
 have hp:(0:Int) < 2 ^ k:=by
  have:(0:Int) < ((2 ^ k:Nat):Int):=by exact_mod_cast Nat.two_pow_pos k
  simpa using this
 rw [Int.fdiv_eq_ediv_of_nonneg _ (Int.le_of_lt hp)];generalize (2:Int) ^ k=d at hp;unfold kY at *;refine ⟨?_,?_⟩
 ·rw [Int.le_ediv_iff_mul_le hp];have:=Int.mul_le_mul_of_nonpos_left (show (-2147483648:Int)<=0 by decide) (show (1:Int)<=d by omega);omega
 ·have:a / d < 2147483648:=by
   rw [Int.ediv_lt_iff_lt_mul hp];have:=Int.mul_le_mul_of_nonneg_left (show (1:Int)<=d by omega) (show (0:Int)<=2147483648 by decide);omega
  omega
theorem GE {c:Prop} [Decidable c] {b:Int} (ha:kY a) (hb:kY b):kY (if c then a else b):=by split<;>assumption
theorem r01 {c:Prop} [Decidable c]:kY (if c then 1 else 0):=GE (by unfold kY;omega) (by unfold kY;omega)
theorem YY {op b:Int} (ha:kY a):kY (nL op a b):=by
 unfold nL
 repeat' (with_reducible apply GE)
 all_goals first|exact rU _|exact aMk ha|(unfold kY;omega)
theorem aIq {op:Int}:kY (unF op a):=by
 unfold unF
 repeat' (with_reducible apply GE)
 all_goals first|exact rU _|(unfold kY;omega)
structure kC where
 who:Nat
 mth:Nat
 pc:Nat
 loc:List Int
 st:List Int
structure Rm where
 ps:PS
 fd:List (List Int)
def Rm.ev (r:Rm) (e:OM):Rm:={ r with ps:=r.ps.ev [e] }
def Rm.ends (r:Rm) (s:Int):Rm:=r.ev ⟨5,s,0,0⟩
structure PM where
 fs:List kC
 f:kC
 fuel:Nat
 r:Rm
inductive Out
 | run (m:PM)
 | fin (s:Int) (depth fuel:Nat) (r:Rm)
def fG (l:List dN) (k:Nat):dN:=l.getD k ⟨ByteArray.empty,[],[],[],[]⟩
def kC.img (l:List dN) (f:kC):dN:=fG l f.who
def kC.me (l:List dN) (f:kC):gA:=(f.img l).meth f.mth
def kC.ins (l:List dN) (f:kC):gN:=(f.me l).ins f.pc
def aJl (l:List dN) (name:ByteArray):Option Nat:=l.findIdx? λi=>i.name.toList == name.toList
def CS (l:List dN) (who:Nat) (k:Int):Option (Nat × Nat):=
 (aJl l ((fG l who).imp k).name).bind λt=>
  if ((fG l who).imp k).exp < (fG l t).exports.length/\((fG l t).meth ((fG l t).exports.getD ((fG l who).imp k).exp.toNat 0)).params=((fG l who).imp k).params/\((fG l t).meth ((fG l t).exports.getD ((fG l who).imp k).exp.toNat 0)).result=((fG l who).imp k).result
  then some (t,((fG l t).exports.getD ((fG l who).imp k).exp.toNat 0).toNat) else none
def kA (op:Int):Prop:=op=17\/op=18\/(27<=op/\op<=32)\/op=36
instance (op:Int):Decidable (kA op):=by unfold kA;exact inferInstance
def kS (s:PS) (who:Int) (x:gN) (t:List Int):HF:=
 if x.op=17 then VS s (cT t 0) (cT t 1) else if x.op=18 then VO s (cT t 0) (cT t 1)
 else if x.op=27 then EU s who x.a x.b (cT t 0) else if x.op=28 then VQ s who (cT t 0)
 else if x.op=29 then VR s who (cT t 0) (cT t 1) else if x.op=30 then VP s who (cT t 0) (cT t 1) (cT t 2)
 else if x.op=31 then EV s who (cT t 0) (cT t 1) (cT t 2) (cT t 3) (cT t 4)
 else if x.op=32 then ET s who (cT t 0) (cT t 1) (cT t 2) (cT t 3) (cT t 4)
 else ES s who x.a (cT t 0) (cT t 1) (cT t 2)
def sJ (l:List dN) (to mth:Nat) (t:List Int):kC:=⟨to,mth,0,t++List.replicate ((fG l to).meth mth).locals.length 0,[]⟩
def kT (x:gN) (f:kC) (fd:List (List Int)) (t:List Int):List Int:=
 if x.op=1\/x.op=35 then [x.a] else if x.op=2 then [f.loc.getD x.a.toNat 0] else if x.op=5 then [cT t 0,cT t 0] else if x.op=25 then [0]
 else if x.op=33 then [(fd.getD f.who []).getD x.a.toNat 0]
 else if x.op=3\/x.op=4\/x.op=23\/x.op=24\/x.op=34 then []
 else if x.op=15\/x.op=16\/x.op=26 then [unF x.op (cT t 0)] else if x.op=22 then [sB (cT t 0) (cT t 1) (cT t 2)]
 else [nL x.op (cT t 0) (cT t 1)]
def uW (x:gN) (pc:Nat) (t:List Int):Nat:=if x.op=23 then x.a.toNat else if x.op=24 then (if cT t 0=0 then pc+1 else x.a.toNat) else pc+1
def oN (x:gN) (loc t:List Int):List Int:=if x.op=3 then loc.set x.a.toNat (cT t 0) else loc
def QE (x:gN) (who:Nat) (fd:List (List Int)) (t:List Int):List (List Int):=if x.op=34 then fd.set who ((fd.getD who []).set x.a.toNat (cT t 0)) else fd
def jE (n:Nat) (s:List Int):List Int:=s.drop (s.length - n)
def kX (n:Nat) (s:List Int):List Int:=s.take (s.length - n)
def pK (op:Int):Prop:=op=30\/op=31\/op=36
instance (op:Int):Decidable (pK op):=by unfold pK;exact inferInstance
def YG (l:List dN) (f:kC) (x:gN):Option (Nat × Nat):=if x.op=37 then some (f.who,x.a.toNat) else CS l f.who x.a
def vY (l:List dN) (fs:List kC) (f:kC) (fuel:Nat) (r:Rm) (x:gN) (t u:List Int):Out:=
 if x.op=39 then
  match fs with
  | []=>.fin 36864 0 fuel (r.ends 36864)
  | g::gs=>.run ⟨gs,{ g with st:=g.st++t },fuel,r⟩
 else if x.op=37\/x.op=38 then
  match YG l f x with
  | none=>.fin 28424 (fs.length+1) fuel (r.ends 28424)
  | some q=>if 8<=fs.length+1 then .fin 28422 (fs.length+1) fuel (r.ends 28422) else .run ⟨{ f with st:=u,pc:=f.pc+1 }::fs,sJ l q.1 q.2 t,fuel,r⟩
 else if kA x.op then
  if (kS r.ps f.who x t).2.1=36864 then .run ⟨fs,{ f with st:=u++(if pK x.op then [] else [(kS r.ps f.who x t).1]),pc:=f.pc+1 },fuel,{ r with ps:=(kS r.ps f.who x t).2.2 }⟩
  else .fin (kS r.ps f.who x t).2.1 (fs.length+1) fuel (Rm.ends { r with ps:=(kS r.ps f.who x t).2.2 } (kS r.ps f.who x t).2.1)
 else .run ⟨fs,{ f with st:=u++kT x f r.fd t,pc:=uW x f.pc t,loc:=oN x f.loc t },fuel,{ r with fd:=QE x f.who r.fd t }⟩
def fW (l:List dN) (f:kC):Nat:=(aI (f.img l) (f.me l) (f.ins l)).length
def lQ (l:List dN) (f:kC):OM:=⟨1,f.who,1000*f.mth+f.pc,(f.ins l).op⟩
def jY (l:List dN) (m:PM):Out:=
 if m.fuel=0 then .fin 28423 (m.fs.length+1) 0 (m.r.ends 28423)
 else vY l m.fs m.f (m.fuel - 1) (m.r.ev (lQ l m.f)) (m.f.ins l) (jE (fW l m.f) m.f.st) (kX (fW l m.f) m.f.st)
def oL (i:dN) (m:gA) (pc:Nat) (K:List Int):Prop:=∃ s,lK i m (some s)/\pc < m.code.length/\s.h pc=true/\s.s pc=K
theorem oL.det {i:dN} {m:gA} {pc:Nat} {K K':List Int} (h:oL i m pc K) (h':oL i m pc K'):K=K':=by
 obtain ⟨s,h1,_,_,rfl⟩:=h;obtain ⟨s',h2,_,_,rfl⟩:=h';cases h1.det h2;rfl
theorem oL.first (hi:i.right) (hm:m.right) (h:∃ s,lK i m (some s)):oL i m 0 []:=by
 obtain ⟨s,hs⟩:=h;obtain ⟨_,_,h0,h1,_⟩:=hs.led hi hm;exact ⟨s,hs,hm.2.2.2.1.1,h0,h1⟩
theorem oL.go {K:List Int} (hi:i.right) (hm:m.right) (h:oL i m pc K):pc < m.code.length/\rT i m (m.ins pc)/\lM K/\K.length<=8/\∃ out,tS i m (m.ins pc) K=some out/\lM out/\∀ to∈fK (m.ins pc) pc,0<=to/\∃ K',oL i m to.toNat K'/\mU K' out:=by
 obtain ⟨s,hs,hp,hh,rfl⟩:=h;obtain ⟨hx,hw,_⟩:=hs.led hi hm;obtain ⟨out,h1,h2,h3⟩:=hs.flow hi hm pc hh;refine ⟨hp,hx _ (vU hp),(hw.kd pc hh).1,(hw.kd pc hh).2,out,h1,h2,λto ht=>?_⟩;obtain ⟨t1,t2,t3,t4⟩:=h3 to ht;exact ⟨t1,_,⟨s,hs,by omega,t3,rfl⟩,t4⟩
theorem DT {s out:List Int} (h:tS i m x s=some out):(aI i m x).length<=s.length/\out.length=s.length - (aI i m x).length+hgt i m x/\out=s.take (s.length - (aI i m x).length)++fU i m x (s.drop (s.length - (aI i m x).length))/\kM x (aI i m x) (s.drop (s.length - (aI i m x).length))=true/\iR x (aI i m x) (s.drop (s.length - (aI i m x).length))=false:=by
 simp only [tS] at h;split at h
 ·cases h
 rename_i hn
 split at h
 ·rename_i hk
  cases h;refine ⟨by omega,?_,rfl,hk.1,hk.2⟩;rw [List.length_append,List.length_take,xX];omega
 ·cases h
structure kC.ok (l:List dN) (f:kC) (n:Nat):Prop where
 who:f.who < l.length
 mth:f.mth < (f.img l).methods.length
 rch:∃ K,oL (f.img l) (f.me l) f.pc K/\K.length=f.st.length+n
 loc:f.loc.length=(f.me l).locs.length
 l32:kD f.loc
 s32:kD f.st
def aQn (l:List dN) (f:kC):Nat:=(jD (f.me l).result).length
def aAg (l:List dN):kC->List kC->Prop
 | _,[]=>True
 | f,g::gs=>g.ok l (aQn l f)/\aAg l g gs
structure UN (l:List dN) (fd:List (List Int)):Prop where
 len:fd.length=l.length
 row:∀ k,k < l.length->(fd.getD k []).length=(fG l k).fields.length/\kD (fd.getD k [])
structure PM.ok (l:List dN) (m:PM):Prop where
 top:m.f.ok l 0
 ch:aAg l m.f m.fs
 dep:m.fs.length < 8
 fd:UN l m.r.fd
def rL (l:List dN):Prop:=∀ i∈l,lL i
theorem lY {l:List dN} (h:k < l.length):fG l k∈l:=by
 unfold fG;rw [List.getD_eq_getElem?_getD,List.getElem?_eq_getElem h];exact List.getElem_mem h
theorem meth_mem (h:k < i.methods.length):i.meth k∈i.methods:=dN.meth_mem (by omega) (by omega)
theorem kC.ok.rt {l:List dN} {f:kC} (h:f.ok l n) (hT:rL l):(f.img l).right/\(f.me l).right/\∃ s,lK (f.img l) (f.me l) (some s):=by
 have h1:=hT _ (lY h.who);have h2:=meth_mem h.mth;exact ⟨h1.1,h1.1.2.2.1.2.1 _ h2,h1.2 _ h2⟩
theorem rM {t:List Int} (h:kD t) (n:Nat):kY (cT t n):=by
 unfold cT;rw [List.getD_eq_getElem?_getD];cases e:t[n]? with
 | none=>unfold kY;simp
 | some z=>exact h z (List.mem_of_getElem? e)
theorem qT {a b:List Int} (ha:kD a) (hb:kD b):kD (a++b):=λz hz=>(List.mem_append.1 hz).elim (ha z) (hb z)
theorem lI (h:kY a):kD [a]:=λz hz=>by rw [List.mem_singleton] at hz;subst hz;exact h
theorem tP:kD []:=λ_ h=>(List.not_mem_nil h).elim
theorem PX {s:List Int} (h:kD s) (n:Nat):kD (jE n s)/\kD (kX n s):=⟨λz hz=>h z (List.mem_of_mem_drop hz),λz hz=>h z (List.mem_of_mem_take hz)⟩
theorem oE {s:List Int} (h:kD s) {v:Int} (hv:kY v):kD (s.set k v):=λz hz=>by
 rcases List.mem_or_eq_of_mem_set hz with h1|rfl
 ·exact h z h1
 ·exact hv
theorem xW (n:Nat):kD (List.replicate n 0):=λz hz=>by rw [List.eq_of_mem_replicate hz];omega
theorem WU (h:x.right):x.op=1\/x.op=2\/x.op=3\/x.op=4\/x.op=5\/fP x.op\/x.op=15\/x.op=16\/x.op=17\/x.op=18\/x.op=22\/x.op=23\/x.op=24\/x.op=25\/x.op=26\/x.op=27\/x.op=28\/x.op=29\/x.op=30\/x.op=31\/x.op=32\/x.op=33\/x.op=34\/x.op=35\/x.op=36\/x.op=37\/x.op=38\/x.op=39:=by
 have h1:=h.1;unfold fP;omega
def oG (op:Int):Prop:=op≠37/\op≠38/\op≠39/\¬ kA op
theorem AP {me:gA} (hr:x.right) (hp:oG x.op) (f:kC) (fd:List (List Int)) (t:List Int):(kT x f fd t).length=hgt i me x:=by
 obtain ⟨op,a,b⟩:=x;obtain ⟨p1,p2,p3,p4⟩:=hp;have hop:=WU hr;dsimp only at *;unfold kA at p4;unfold hgt;rcases hop with rfl|rfl|rfl|rfl|rfl|hb|rfl|rfl|rfl|rfl|rfl|rfl|rfl|rfl|rfl|rfl|rfl|rfl|rfl|rfl|rfl|rfl|rfl|rfl|rfl|rfl|rfl|rfl
 case _=>rfl
 case _=>rfl
 case _=>rfl
 case _=>rfl
 case _=>rfl
 case _=>
  unfold fP at hb;simp only [kT,fU]
  repeat rw [if_neg (by omega)]
  rw [if_pos (by unfold fP;omega)];rfl
 all_goals first|rfl|omega
theorem MD {me:gA} (hs:kA x.op):(if pK x.op then 0 else 1)=hgt i me x:=by
 obtain ⟨op,a,b⟩:=x;dsimp only at *;unfold kA at hs;have:op=17\/op=18\/op=27\/op=28\/op=29\/op=30\/op=31\/op=32\/op=36:=by omega
 unfold hgt;rcases this with rfl|rfl|rfl|rfl|rfl|rfl|rfl|rfl|rfl
 case _=>rfl
 case _=>rfl
 case _=>rfl
 case _=>rfl
 case _=>rfl
 case _=>rfl
 case _=>rfl
 case _=>
  simp [fU,fP,pK];split<;>rfl
 case _=>rfl
theorem WZ (h:x.op≠23) (h2:x.op≠39):((pc:Int)+1)∈fK x pc:=by
 unfold fK;rw [if_neg h];by_cases h3:x.op=24
 ·rw [if_pos h3];exact List.mem_cons_self
 ·rw [if_neg h3,if_neg h2];exact List.mem_singleton.2 rfl
theorem FI (hr:x.right) (h39:x.op≠39) (pc:Nat) (t:List Int):∃ to∈fK x pc,to=(uW x pc t:Int):=by
 obtain ⟨op,a,b⟩:=x;have ha:=hr.2.1;unfold uW;dsimp only at *;by_cases h1:op=23
 ·subst h1;have ha:0<=a:=ha;exact ⟨a,by simp [fK],by simp;omega⟩
 rw [if_neg h1];by_cases h2:op=24
 ·subst h2;have ha:0<=a:=ha;rw [if_pos rfl];split
  ·exact ⟨(pc:Int)+1,by simp [fK],by omega⟩
  ·exact ⟨a,by simp [fK],by omega⟩
 ·rw [if_neg h2];exact ⟨(pc:Int)+1,WZ h1 h39,by omega⟩
theorem aBk (hr:x.right) {f:kC} {t:List Int} (hl:kD f.loc) (hf:kD (fd.getD f.who [])) (ht:kD t):kD (kT x f fd t):=by
 obtain ⟨op,a,b⟩:=x;have ha:=hr.2;have gd:∀ {l:List Int} (k:Nat),kD l->kY (l.getD k 0):=λk h=>rM h k;unfold kT;dsimp only at *;split
 ·rename_i h
  refine lI ?_;rcases h with rfl|rfl
  ·exact ⟨ha.1,ha.2.1⟩
  ·have h1:1<=a:=ha.1;have h2:a<=2:=ha.2.1;unfold kY;omega
 split
 ·exact lI (gd _ hl)
 split
 ·exact qT (a:=[cT t 0]) (lI (rM ht 0)) (lI (rM ht 0))
 split
 ·exact lI (by unfold kY;omega)
 split
 ·exact lI (gd _ hf)
 split
 ·exact tP
 split
 ·exact lI aIq
 split
 ·exact lI (GE (rM ht 2) (rM ht 1))
 ·exact lI (YY (rM ht 0))
theorem aBc {c:Prop} [Decidable c] {a b:HF} (ha:kY a.1) (hb:kY b.1):kY (if c then a else b).1:=by split<;>assumption
theorem VN {s:PS} {t:List Int}:kY (kS s who x t).1:=by
 have z:kY 0:=by unfold kY;omega
 unfold kS VS VO EU VQ VR VP EV ET ES
 repeat' (with_reducible apply aBc)
 all_goals first|exact rU _|exact z|exact r01
theorem MH {l:List dN} (hT:rL l) {who:Nat} (hw:who < l.length) {k:Int} (h0:0<=k) (hk:k < (fG l who).imports.length) {q:Nat × Nat} (h:CS l who k=some q) :
  q.1 < l.length/\q.2 < (fG l q.1).methods.length/\((fG l q.1).meth q.2).params=((fG l who).imp k).params/\((fG l q.1).meth q.2).result=((fG l who).imp k).result:=by
 unfold CS at h;obtain ⟨t,ht,h⟩:=Option.bind_eq_some_iff.1 h;split at h
 ·rename_i hc
  cases h;obtain ⟨c1,c2,c3⟩:=hc
  have htl:t < l.length:=by
   unfold aJl at ht;exact (List.findIdx?_eq_some_iff_findIdx_eq.1 ht).1
  have hx:=(hT _ (lY hw)).1.2.1.2 _ (dN.imp_mem h0 hk);have hx0:=hx.1.1
  have he:=(hT _ (lY htl)).1.2.2.2.2 ((fG l t).exports.getD ((fG l who).imp k).exp.toNat 0) (by
   rw [List.getD_eq_getElem?_getD,List.getElem?_eq_getElem (by omega)];exact List.getElem_mem _)
  have e:((((fG l t).exports.getD ((fG l who).imp k).exp.toNat 0).toNat:Nat):Int)=(fG l t).exports.getD ((fG l who).imp k).exp.toNat 0:=by omega
  refine ⟨htl,by dsimp only;omega,?_,?_⟩
  ·dsimp only;rw [e];exact c2
  ·dsimp only;rw [e];exact c3
 ·cases h
theorem AZ {l:List dN} (hT:rL l) {to mth:Nat} (h1:to < l.length) (h2:mth < (fG l to).methods.length) {t:List Int} (ht:kD t) (hl:t.length=((fG l to).meth mth).params.length):(sJ l to mth t).ok l 0:=by
 have hi:=hT _ (lY h1);have hm:=meth_mem h2;refine ⟨h1,h2,⟨[],oL.first hi.1 (hi.1.2.2.1.2.1 _ hm) (hi.2 _ hm),rfl⟩,?_,qT ht (xW _),tP⟩;show (t++List.replicate _ 0).length=(((fG l to).meth mth).params++((fG l to).meth mth).locals).length;rw [List.length_append,List.length_replicate,List.length_append,hl]
theorem aMl {l:List dN} (h:UN l fd) {who:Nat} {t:List Int} (ht:kD t):UN l (QE x who fd t):=by
 unfold QE;split
 ·refine ⟨by simpa using h.len,λk hk=>?_⟩;have hr:=h.row k hk;by_cases hkw:who=k
  ·subst hkw
   have e:(fd.set who ((fd.getD who []).set x.a.toNat (cT t 0))).getD who []=(fd.getD who []).set x.a.toNat (cT t 0):=by
    rw [List.getD_eq_getElem?_getD,List.getElem?_set_self (by have:=h.len;omega)];rfl
   rw [e];exact ⟨by simpa using hr.1,oE hr.2 (rM ht 0)⟩
  ·have e:(fd.set who ((fd.getD who []).set x.a.toNat (cT t 0))).getD k []=fd.getD k []:=by
    rw [List.getD_eq_getElem?_getD,List.getElem?_set_ne hkw,List.getD_eq_getElem?_getD]
   rw [e];exact hr
 ·exact h
theorem aCd {t:List Int} (hl:kD loc) (ht:kD t):(oN x loc t).length=loc.length/\kD (oN x loc t):=by
 unfold oN;split
 ·exact ⟨by simp,oE hl (rM ht 0)⟩
 ·exact ⟨rfl,hl⟩
structure AtI (l:List dN) (f:kC):Prop where
 pc:f.pc < (f.me l).code.length
 okx:rT (f.img l) (f.me l) (f.ins l)
 nt:fW l f<=f.st.length
 hi:f.st.length<=8
theorem kC.ok.at_ {l:List dN} {f:kC} (h:f.ok l 0) (hT:rL l):AtI l f:=by
 obtain ⟨h1,h2,_⟩:=h.rt hT;obtain ⟨K,hK,hl⟩:=h.rch;obtain ⟨g1,g2,g3,g4,out,g5,_⟩:=hK.go h1 h2;have:=DT g5;exact ⟨g1,g2,by unfold fW;have:=this.1;unfold kC.ins;omega,by omega⟩
theorem kC.ok.next {l:List dN} {f:kC} (h:f.ok l 0) (hT:rL l) {to:Int} (ht:to∈fK (f.ins l) f.pc) {st:List Int} (hs:st.length+n=f.st.length - fW l f+hgt (f.img l) (f.me l) (f.ins l)) (s32:kD st) (hl:loc.length=f.loc.length) (l32:kD loc) {f':kC} (e:f'=⟨f.who,f.mth,to.toNat,loc,st⟩):f'.ok l n:=by
 subst e;obtain ⟨h1,h2,_⟩:=h.rt hT;obtain ⟨K,hK,hlen⟩:=h.rch;obtain ⟨g1,g2,g3,g4,out,g5,g6,g7⟩:=hK.go h1 h2;obtain ⟨_,K',hK',hin⟩:=g7 to ht;have hd:=(DT g5).2.1;refine ⟨h.who,h.mth,⟨K',hK',?_⟩,hl.trans h.loc,l32,s32⟩;have:=hin.len;have e:(aI (f.img l) (f.me l) ((f.me l).ins f.pc)).length=fW l f:=rfl;have e2:hgt (f.img l) (f.me l) ((f.me l).ins f.pc)=hgt (f.img l) (f.me l) (f.ins l):=rfl;show K'.length=st.length+n;omega
theorem mV {s:List Int}:(kX n s).length=s.length - n:=by unfold kX;simp
theorem rA {s:List Int} (h:n<=s.length):(jE n s).length=n:=by unfold jE;simp;omega
theorem pI {l:List dN} (hT:rL l) {m m':PM} (h:m.ok l) (he:jY l m=.run m'):m'.ok l:=by
 obtain ⟨fs,f,fuel,r⟩:=m;obtain ⟨h1,h2,h3,h4⟩:=h;dsimp only at h1 h2 h3 h4;have hA:=h1.at_ hT;have hrt:=h1.rt hT;have ht:=PX h1.s32 (fW l f);unfold jY at he;dsimp only at he;split at he
 ·cases he
 unfold vY at he;split at he
 ·rename_i h39
  cases fs with
  | nil=>cases he
  | cons g gs=>
   cases he;obtain ⟨c1,c2⟩:=h2
   have hn:fW l f=aQn l f:=by
    unfold fW aI;simp only [h39,fP,Int.reduceEq,or_self,Int.reduceLE,and_false,if_false,if_true];rfl
   obtain ⟨K,hK,hl⟩:=c1.rch;refine ⟨⟨c1.who,c1.mth,⟨K,hK,?_⟩,c1.loc,c1.l32,qT c1.s32 ht.1⟩,?_,by simp at h3;dsimp only;omega,h4⟩
   ·show K.length=(g.st++jE (fW l f) f.st).length+0;rw [List.length_append,rA hA.nt,hn];omega
   ·cases gs with
    | nil=>trivial
    | cons g2 gs=>exact c2
 rename_i h39
 split at he
 ·rename_i hc
  split at he
  ·cases he
  rename_i q hq
  split at he
  ·cases he
  rename_i hd
  cases he
  have key:q.1 < l.length/\q.2 < (fG l q.1).methods.length/\fW l f=((fG l q.1).meth q.2).params.length/\hgt (f.img l) (f.me l) (f.ins l)=(jD ((fG l q.1).meth q.2).result).length:=by
   have hnm:=hA.okx.nm;have hxr:=hA.okx.xr;unfold YG at hq;unfold fW hgt;generalize hx:f.ins l=x at *;obtain ⟨op,a,b⟩:=x;dsimp only at hc hq h39;rcases hc with rfl|rfl
   ·rw [if_pos rfl] at hq;cases hq;have ha:0<=a:=hxr.2.1;have hn:a < ((f.img l).methods.length:Int):=hnm;have e:((a.toNat:Nat):Int)=a:=by omega
    refine ⟨h1.who,by show a.toNat < (fG l f.who).methods.length;have:f.img l=fG l f.who:=rfl;rw [this] at hn;omega,?_,?_⟩
    iterate 2
     ·simp only [e];rfl
   ·rw [if_neg (by decide)] at hq;have ha:0<=a:=hxr.2.1;have hn:a < ((f.img l).imports.length:Int):=hnm;obtain ⟨r1,r2,r3,r4⟩:=MH hT h1.who ha hn hq;refine ⟨r1,r2,?_,?_⟩
    ·rw [r3];rfl
    ·rw [r4];rfl
  obtain ⟨k1,k2,k3,k4⟩:=key;have hne:(f.ins l).op≠23:=by omega
  refine ⟨AZ hT k1 k2 ht.1 (by rw [rA hA.nt,k3]),⟨h1.next hT (WZ hne h39) (loc:=f.loc) (st:=kX (fW l f) f.st) ?_ ht.2 rfl h1.l32 ?_,?_⟩,by simp only [List.length_cons];omega,h4⟩
  ·show _+(jD ((sJ l q.1 q.2 (jE (fW l f) f.st)).me l).result).length=_;have e:(sJ l q.1 q.2 (jE (fW l f) f.st)).me l=(fG l q.1).meth q.2:=rfl;rw [e,<- k4,mV]
  ·have:((f.pc:Int)+1).toNat=f.pc+1:=by omega
   rw [this]
  ·cases fs with
   | nil=>trivial
   | cons g gs=>exact h2
 rename_i hc
 split at he
 ·rename_i hs
  split at he
  ·cases he;have hne:(f.ins l).op≠23:=by unfold kA at hs;omega
   refine ⟨h1.next hT (WZ hne h39) (loc:=f.loc) (n:=0) (st:=kX (fW l f) f.st++if pK (f.ins l).op then [] else [(kS (r.ev (lQ l f)).ps f.who (f.ins l) (jE (fW l f) f.st)).1]) ?_ ?_ rfl h1.l32 ?_,?_,h3,h4⟩
   ·have:=MD (i:=f.img l) (me:=f.me l) hs;rw [List.length_append,mV];split at this<;>simp_all<;>omega
   ·refine qT ht.2 ?_;split
    ·exact tP
    ·exact lI VN
   ·have:((f.pc:Int)+1).toNat=f.pc+1:=by omega
    rw [this]
   ·cases fs with
    | nil=>trivial
    | cons g gs=>exact h2
  ·cases he
 ·rename_i hs
  cases he;obtain ⟨to,hto,hpc⟩:=FI hA.okx.xr h39 f.pc (jE (fW l f) f.st);have hlo:=aCd (x:=f.ins l) h1.l32 ht.1;refine ⟨h1.next hT hto (n:=0) (st:=kX (fW l f) f.st++kT (f.ins l) f r.fd (jE (fW l f) f.st)) (loc:=oN (f.ins l) f.loc (jE (fW l f) f.st)) ?_ ?_ hlo.1 hlo.2 ?_,?_,h3,aMl h4 ht.1⟩
  ·rw [List.length_append,mV,AP (i:=f.img l) (me:=f.me l) hA.okx.xr ⟨by omega,by omega,h39,hs⟩];omega
  ·exact qT ht.2 (aBk hA.okx.xr h1.l32 (h4.row _ h1.who).2 ht.1)
  ·rw [hpc];simp;rfl
  ·cases fs with
   | nil=>trivial
   | cons g gs=>exact h2
structure ON where
 s:Int
 depth:Nat
 fuel:Nat
 r:Rm
inductive vN (l:List dN):PM->ON->Prop
 | fin {m:PM} {s:Int} {d f:Nat} {r:Rm}:jY l m=.fin s d f r->vN l m ⟨s,d,f,r⟩
 | go {m m':PM} {e:ON}:jY l m=.run m'->vN l m' e->vN l m e
theorem vN.det {l:List dN} {m:PM} {e e':ON} (h:vN l m e) (h':vN l m e'):e=e':=by
 induction h with
 | fin h1=>cases h' with
  | fin h2=>rw [h1] at h2;cases h2;rfl
  | go h2 _=>rw [h1] at h2;cases h2
 | go h1 _ ih=>cases h' with
  | fin h2=>rw [h1] at h2;cases h2
  | go h2 h3=>rw [h1] at h2;cases h2;exact ih h3
theorem mY {c:Prop} [Decidable c] {b n:Int} (ha:a≠n) (hb:b≠n):(if c then a else b)≠n:=by split<;>assumption
theorem VD {c:Prop} [Decidable c] {a b:HF} {n:Int} (ha:a.2.1≠n) (hb:b.2.1≠n):(if c then a else b).2.1≠n:=by split<;>assumption
theorem YV {l:List PA} {r:Int}:GV l r who≠28423:=by
 unfold GV;refine mY ?_ (by decide);split
 ·exact mY (by decide) (by decide)
 ·decide
theorem MG {l:List PA} {r n:Int}:uC l r a n who≠28423:=by
 unfold uC;refine mY ?_ YV;split
 ·exact mY (by decide) (by decide)
 ·decide
theorem aCy {s:PS} {r1 a1 r2 a2 n:Int}:AF s who r1 a1 r2 a2 n≠28423:=mY MG MG
theorem SN {s:PS} {t:List Int}:(kS s who x t).2.1≠28423:=by
 unfold kS VS VO EU VQ VR VP EV ET ES
 repeat' (with_reducible apply VD)
 all_goals first|exact YV|exact MG|exact aCy|(dsimp only;decide)
theorem GT {l:List dN} {fs:List kC} {f:kC} {r:Rm} {t u:List Int} :
  (∀ m',vY l fs f n r x t u=.run m'->m'.fuel=n/\∀ d,vY l fs f (n+d) r x t u=.run { m' with fuel:=n+d }) /\
  (∀ s k q r',vY l fs f n r x t u=.fin s k q r'->q=n/\s≠28423/\∀ d,vY l fs f (n+d) r x t u=.fin s k (n+d) r'):=by
 unfold vY;split
 ·cases fs with
  | nil=>exact ⟨λm' h=>(by cases h),λs k q r' h=>(by cases h;exact ⟨rfl,by decide,λd=>rfl⟩)⟩
  | cons g gs=>exact ⟨λm' h=>(by cases h;exact ⟨rfl,λd=>rfl⟩),λs k q r' h=>(by cases h)⟩
 split
 ·split
  ·exact ⟨λm' h=>(by cases h),λs k q r' h=>(by cases h;exact ⟨rfl,by decide,λd=>rfl⟩)⟩
  ·split
   ·exact ⟨λm' h=>(by cases h),λs k q r' h=>(by cases h;exact ⟨rfl,by decide,λd=>rfl⟩)⟩
   ·exact ⟨λm' h=>(by cases h;exact ⟨rfl,λd=>rfl⟩),λs k q r' h=>(by cases h)⟩
 split
 ·split
  ·exact ⟨λm' h=>(by cases h;exact ⟨rfl,λd=>rfl⟩),λs k q r' h=>(by cases h)⟩
  ·refine ⟨λm' h=>(by cases h),λs k q r' h=>?_⟩;cases h;refine ⟨rfl,?_,λd=>rfl⟩;exact SN
 ·exact ⟨λm' h=>(by cases h;exact ⟨rfl,λd=>rfl⟩),λs k q r' h=>(by cases h)⟩
theorem wS {l:List dN} {m m':PM} (h:jY l m=.run m'):m.fuel=m'.fuel+1/\∀ d,jY l { m with fuel:=m.fuel+d }=.run { m' with fuel:=m'.fuel+d }:=by
 unfold jY at *;split at h
 ·cases h
 rename_i h0
 obtain ⟨h1,h2⟩:=GT.1 m' h;refine ⟨by omega,λd=>?_⟩;dsimp only;rw [if_neg (by omega),show m.fuel+d - 1=m.fuel - 1+d by omega];rw [h1];exact h2 d
def Pre (a b:List OM):Prop:=∃ c,b=a++c
def Out.r:Out->Rm
 | .run m=>m.r
 | .fin _ _ _ r=>r
end Go.Proofs.YtgkkecladbmjkaaGreatDoor
