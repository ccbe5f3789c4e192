/- The reference's walk over a method. -/
import Derived.Test.YtjcmcfidblhnnaaGreatDoorFe
import Derived.Lib.AppendZeros
import Derived.Great.FillDense
import Derived.Great.BuildSlice
import Derived.Laws.RangeString
set_option maxHeartbeats 4000000
namespace Go.Vc
theorem least {p:Nat->Prop} (h:∃ n,p n):∃ n,p n/\∀ m,p m->n<=m:=by
 obtain ⟨n,hn⟩:=h;induction n using Nat.strongRecOn with
 | ind n ih=>
  by_cases hm:∃ m,m < n/\p m
  ·obtain ⟨m,h1,h2⟩:=hm;exact ih m h1 h2
  ·refine ⟨n,hn,λm h2=>?_⟩;by_cases hlt:m < n
   ·exact absurd ⟨m,hlt,h2⟩ hm
   ·omega
theorem YC {P:Program} {w:O} {K:Y->O->Prop} {a b c d:Y}:V P (Instr.extract (.tuple #[a,b,c,d]) 0) w K↔K a w:=V.iff (by simp [Instr.extract])
theorem YB {P:Program} {w:O} {K:Y->O->Prop} {a b c d:Y}:V P (Instr.extract (.tuple #[a,b,c,d]) 1) w K↔K b w:=V.iff (by simp [Instr.extract])
theorem YA {P:Program} {w:O} {K:Y->O->Prop} {a b c d:Y}:V P (Instr.extract (.tuple #[a,b,c,d]) 2) w K↔K c w:=V.iff (by simp [Instr.extract])
theorem XZ {P:Program} {w:O} {K:Y->O->Prop} {a b c d:Y}:V P (Instr.extract (.tuple #[a,b,c,d]) 3) w K↔K d w:=V.iff (by simp [Instr.extract])
open Classical in
noncomputable def mu (p:Nat->Prop):Nat:=if h:∃ n,p n then Classical.choose (least h) else 0
theorem xT {p:Nat->Prop} (h:∃ n,p n):p (mu p):=by
 unfold mu;rw [dif_pos h];exact (Classical.choose_spec (least h)).1
theorem LW {p:Nat->Prop} {n:Nat} (h:p n):mu p<=n:=by
 unfold mu;rw [dif_pos ⟨n,h⟩];exact (Classical.choose_spec (least ⟨n,h⟩)).2 n h
end Go.Vc
namespace Go.Tc
theorem EJ {n:Nat} {stack:List Int}:∀ {l:List Int} {x:Int} {s:St},lY n stack (l++[x]) s=(lY n stack l s).bind λs'=>nX n s' x stack
 | [],x,s=>by simp [lY]
 | y::l,x,s=>by
  simp only [List.cons_append,lY];cases nX n s y stack with
  | none=>rfl
  | some s1=>exact EJ (l:=l)
theorem HN {n:Nat} {stack:List Int}:∀ {l m:List Int} {s:St},lY n stack (l++m) s=(lY n stack l s).bind λs'=>lY n stack m s'
 | [],m,s=>rfl
 | y::l,m,s=>by
  simp only [List.cons_append,lY];cases nX n s y stack with
  | none=>rfl
  | some s1=>exact HN (l:=l)
theorem GV (x:kJ) (pc:Nat):(fO x pc).length<=2:=by
 unfold fO;split
 ·exact Nat.le_succ 1
 split
 ·exact Nat.le_refl _
 split
 ·exact Nat.zero_le _
 ·exact Nat.le_succ 1
theorem EK {n j:Nat} {stack l:List Int} {x:Int} {s s':St} (h1:lY n stack (l.take j) s=some s') (h2:l[j]?=some x) (h3:nX n s' x stack=none):lY n stack l s=none:=by
 have e:l=l.take j++x::l.drop (j+1):=by
  have h4:=List.getElem?_eq_some_iff.1 h2;obtain ⟨hlt,rfl⟩:=h4;rw [<- List.drop_eq_getElem_cons hlt,List.take_append_drop]
 rw [e,HN,h1];simp [lY,h3]
theorem EI {n j:Nat} {stack l:List Int} {x:Int} {s s1 s2:St} (h1:lY n stack (l.take j) s=some s1) (h2:l[j]?=some x) (h3:nX n s1 x stack=some s2):lY n stack (l.take (j+1)) s=some s2:=by
 rw [List.take_add_one,h2];simp only [Option.toList_some];rw [EJ,h1];exact h3
end Go.Tc
namespace Go.Proofs.YtjcmcfidblhnnaaGreatDoor
open Tryz
open Go.Vc Go.Tc
variable {w:O} {K:Y->O->Prop}
structure Mem (g1 g2 g3 B:Nat) (w:O) (n:Nat) (st:St):Prop where
 s1:∃ vs:List Y,vs.length=n/\bO w g1 vs 23/\∀ k,k < n->∃ v,vs[k]?=some v/\w.ownsRow B 3 1 v (st.s k).length ((st.s k).map i64)
 s2:bO w g2 (st.has.map .bool) 4
 s3:bO w g3 (st.todo.map .bool) 4
 l1:st.st.length=n
 l2:st.has.length=n
 l3:st.todo.length=n
 o:(g1≠g2/\g1≠g3/\g2≠g3)/\g1 < B/\g2 < B/\g3 < B/\B<=w.heap.size
variable {g1 g2 g3 B n:Nat} {st:St}
theorem Mem.ext {w':O} (h:Mem g1 g2 g3 B w n st) (hx:aE w w'):Mem g1 g2 g3 B w' n st:=by
 obtain ⟨⟨vs,h1,h2,h3⟩,h4,h5,l1,l2,l3,o⟩:=h;refine ⟨⟨vs,h1,h2.ext hx,λk hk=>?_⟩,h4.ext hx,h5.ext hx,l1,l2,l3,o.1,o.2.1,o.2.2.1,o.2.2.2.1,Nat.le_trans o.2.2.2.2 hx.size⟩;obtain ⟨v,hv,ho⟩:=h3 k hk;exact ⟨v,hv,hx.own ho⟩
theorem lN {g j:Nat} {u v:Y} {xs:List Y} {e sz m:Nat} (ho:w.ownsRow B e sz v m xs) (hg:g < B):(w.setCell ⟨g,j,none⟩ u).ownsRow B e sz v m xs:=
 (Fr.of_set (S:=λi=>i=g) rfl).own ho λk hk he=>by have:=(ho.lt k hk).1;omega
theorem Mem.setT (h:Mem g1 g2 g3 B w n st) (k:Nat) (b:Bool):Mem g1 g2 g3 B (w.setCell ⟨g3,k,none⟩ (.bool b)) n { st with todo:=st.todo.set k b }:=by
 obtain ⟨⟨vs,h1,h2,h3⟩,h4,h5,l1,l2,l3,o⟩:=h;refine ⟨⟨vs,h1,h2.other (by omega),λq hq=>?_⟩,h4.other (by omega),?_,l1,l2,by simpa using l3,o.1,o.2.1,o.2.2.1,o.2.2.2.1,by simpa using o.2.2.2.2⟩
 ·obtain ⟨v,hv,ho⟩:=h3 q hq;exact ⟨v,hv,lN ho o.2.2.2.1⟩
 ·have:=h5.set k (.bool b)
  rwa [<- List.map_set] at this
theorem Mem.setH (h:Mem g1 g2 g3 B w n st) (k:Nat) (b:Bool):Mem g1 g2 g3 B (w.setCell ⟨g2,k,none⟩ (.bool b)) n { st with has:=st.has.set k b }:=by
 obtain ⟨⟨vs,h1,h2,h3⟩,h4,h5,l1,l2,l3,o⟩:=h;refine ⟨⟨vs,h1,h2.other (by omega),λq hq=>?_⟩,?_,h5.other (by omega),l1,by simpa using l2,l3,o.1,o.2.1,o.2.2.1,o.2.2.2.1,by simpa using o.2.2.2.2⟩
 ·obtain ⟨v,hv,ho⟩:=h3 q hq;exact ⟨v,hv,lN ho o.2.2.1⟩
 ·have:=h4.set k (.bool b)
  rwa [<- List.map_set] at this
theorem Mem.setS (h:Mem g1 g2 g3 B w n st) {k:Nat} {v:Y} {s:List Int} (hv:w.ownsRow B 3 1 v s.length (s.map i64)) (hk:k < n):Mem g1 g2 g3 B (w.setCell ⟨g1,k,none⟩ v) n { st with st:=st.st.set k s }:=by
 obtain ⟨⟨vs,h1,h2,h3⟩,h4,h5,l1,l2,l3,o⟩:=h;refine ⟨⟨vs.set k v,by simpa using h1,h2.set k v,λq hq=>?_⟩,h4.other (by omega),h5.other (by omega),by simpa using l1,l2,l3,o.1,o.2.1,o.2.2.1,o.2.2.2.1,by simpa using o.2.2.2.2⟩
 have e:St.s { st with st:=st.st.set k s } q=if q=k then s else st.s q:=by
  simp only [St.s,lZ];by_cases hqk:q=k
  ·rw [if_pos ⟨hqk,by omega⟩,if_pos hqk]
  ·rw [if_neg (λh=>hqk h.1),if_neg hqk]
 rw [e];by_cases hqk:q=k
 ·subst hqk;rw [if_pos rfl];exact ⟨v,by rw [List.getElem?_set_self (by omega)],lN hv o.2.1⟩
 ·rw [if_neg hqk];obtain ⟨u,hu,ho⟩:=h3 q hq;exact ⟨u,by rw [List.getElem?_set_ne (λe=>hqk e.symm)];exact hu,lN ho o.2.1⟩
theorem HO {l:List Bool} {j:Nat} (h:j < l.length):(l.map Value.bool)[(j:Int).toNat]?=some (.bool (l.getD j false)):=by
 simp [List.getD_eq_getElem?_getD,h]
theorem Mem.hs (h:Mem g1 g2 g3 B w n st) (hn:n<=1000):aA w (.slice (some ⟨g2,0,none⟩) n n) 1 n (st.has.map .bool):=h.s2.slice (by simpa using h.l2) (by unfold maxLen;omega)
theorem Mem.ts (h:Mem g1 g2 g3 B w n st) (hn:n<=1000):aA w (.slice (some ⟨g3,0,none⟩) n n) 1 n (st.todo.map .bool):=h.s3.slice (by simpa using h.l3) (by unfold maxLen;omega)
theorem Mem.ss (h:Mem g1 g2 g3 B w n st) (hn:n<=1000) {k:Nat} (hk:k < n):∃ vs v,aA w (.slice (some ⟨g1,0,none⟩) n n) 1 n vs/\vs[(k:Int).toNat]?=some v/\w.ownsRow B 3 1 v (st.s k).length ((st.s k).map i64):=by
 obtain ⟨vs,h1,h2,h3⟩:=h.s1;obtain ⟨v,hv,ho⟩:=h3 k hk;exact ⟨vs,v,h2.slice h1 (by unfold maxLen;omega),by simpa using hv,ho⟩
def qQ (w:O) (v:Y) (l:List (List Int)):Prop:=∃ vs,aA w v 1 l.length vs/\∀ k,k < l.length->∃ u,vs[k]?=some u/\aN w u (l.getD k [])
theorem qQ.ext {w':O} {v:Y} {l:List (List Int)} (h:qQ w v l) (hx:aE w w'):qQ w' v l:=by
 obtain ⟨vs,h1,h2⟩:=h;refine ⟨vs,h1.ext hx,λk hk=>?_⟩;obtain ⟨u,h3,h4⟩:=h2 k hk;exact ⟨u,h3,h4.ext hx⟩
theorem Mem.states (h:Mem g1 g2 g3 B w n st) (hn:n<=1000):qQ w (.slice (some ⟨g1,0,none⟩) n n) st.st:=by
 obtain ⟨vs,h1,h2,h3⟩:=h.s1;refine ⟨vs,by rw [h.l1];exact h2.slice h1 (by unfold maxLen;omega),λk hk=>?_⟩;obtain ⟨v,hv,ho⟩:=h3 k (by rw [<- h.l1];exact hk);exact ⟨v,hv,aA.of_own ho⟩
theorem Mem.bools (h:Mem g1 g2 g3 B w n st) (hn:n<=1000):gF w (.slice (some ⟨g2,0,none⟩) n n) st.has:=by
 unfold gF;rw [h.l2];exact h.hs hn
theorem yI {S:O->Prop} {L:Y->Prop} {v:Y} {l:List kJ} {i:Nat} {x:kJ} (hs:lT w v l) (hx:∀ w',S w'->aE w w') (hi:l[i]?=some x) (hk:L (.agg #[i64 x.op,i64 x.a,i64 x.b])):aD prog S (Instr.indexAt 36 v (i64 i)) λp=>aD prog S (Instr.loadAt 88 p) L:=by
 have hlt:i < l.length:=(List.getElem?_eq_some_iff.1 hi).1;obtain ⟨e,z,b',hte,hinf⟩:=jY;obtain ⟨d,z',by_,h2,h3,h4⟩:=iG;obtain ⟨b,off,cap,rfl,hcell⟩:=aA.there hs (by omega);refine aD.ok (λw' _=>iL hte hinf (by omega) (by omega)) (aD.ok (λw' hw=>nT (cs:=[i64 x.op,i64 x.a,i64 x.b]) h2 h3 h4 rfl λj hj=>?_) hk);have hrow:=sL hi;obtain ⟨u,hu⟩:∃ u,([i64 x.op,i64 x.a,i64 x.b]:List Y)[j]?=some u:=⟨_,List.getElem?_eq_getElem hj⟩;rw [hu,Nat.add_assoc];refine (hx w' hw).cell (hcell _ u ?_);rw [<- hrow,List.getElem?_take,List.getElem?_drop] at hu;split at hu
 ·simpa using hu
 ·cases hu
theorem sN {m:jN} {k:Nat} (h:k < m.code.length):m.code[k]?=some (m.ins k):=by
 unfold jN.ins;rw [List.getD_eq_getElem?_getD,List.getElem?_eq_getElem h];rfl
theorem bAu {p:jO} {i:iK} {k:Nat} (h:kP w p i) (ir:i.right) (hk:k < i.methods.length)
  (yes:∀ st sv hv w',rY i (i.meth k) (some st)->qQ w' sv st.st->gF w' hv st.has->aE w w'->K (.tuple #[sv,hv,i64 0,i64 0]) w')
  (no:∀ pc e w',rY i (i.meth k) none->e≠0->aE w w'->K (.tuple #[aX,aX,i64 pc,i64 e]) w') :
  aC prog 45 #[p.val i,i64 k] w K:=by
 have hm:=fY (i:=i) (a:=(k:Int)) (by omega) (by omega);rw [Int.toNat_natCast] at hm;have mr:(i.meth k).right:=ir.2.2.1.2.1 _ (List.mem_of_getElem? hm);generalize i.meth k=m at hm mr yes no;have hn1:=mr.2.2.2.1.1;have hn2:=mr.2.2.2.1.2;apply bGs;unfold ZY jO.val;refine bx λb1 w1 hb1 x1=>?_;refine bC hb1 bP dE rfl ?_;refine ldS gO oK (h.ext x1).mt hm qL λrow hrow=>?_;have hrow0:=hrow;obtain ⟨pv,lv,cv,rfl,hp,hl,hc⟩:=hrow;obtain ⟨pa,pc,rfl⟩:=hp.shape;obtain ⟨la,lc,rfl⟩:=hl.shape;obtain ⟨ca,cc,rfl⟩:=aA.shape hc;refine wV GK rfl rfl λb2 w2 hb2 x2=>?_;have hb2:aY w2 b2 [.slice pa m.params.length pc,i64 m.result,.slice la m.locals.length lc,.slice ca m.code.length cc]:=hb2;have hc:=hc.ext x2;have hrow0:=hrow0.ext x2;have x12:=x1.trans x2;have h2:=h.ext x12;have hb1:=hb1.ext x2;refine ⟨λv w'=>∃ j:Nat,v=i64 j/\j<=m.code.length/\aE w2 w'/\∀ x∈m.code.take j,fD i m x,λv _=>m.code.length - (RowKit.intOf v).toNat,⟨0,rfl,Nat.zero_le _,aE.refl _,λ_ h=>by simp at h⟩,?_⟩;rintro _ w3 ⟨j,rfl,hj,x3,hnm⟩ _;refine bC (hb2.ext x3) cG iM rfl (fQ jY (hc.ext x3) (aW.2 (aB (λhlt=>?_) λhge=>?_)))
 ·have hj':j < m.code.length:=by omega
  have hx:=sN hj';have hxm:=List.mem_of_getElem? hx;have D1:aE w3 w3.drew:=(aE.refl _).drew;have xd:=x3.trans D1;refine aK.mk' (λw'=>aE w2 w') xd ?_;refine yA (λw' hw=>hb1.ext hw) lM rfl ?_;refine yA (λw' hw=>hb2.ext hw) oK rfl ?_;refine jG (λw' hw=>hb2.ext hw) cG iM rfl ?_;refine yI hc (λ_ h=>h) hx ?_;refine (aQc (h2.ext xd) (hrow0.ext xd) mr (mr.2.2.2.2 _ hxm)).mono λv w4 ⟨b,hv,hb,x4⟩=>?_;subst hv;refine ⟨xd.trans x4,aD.ok (λw' _=>xK) ?_⟩;cases b with
  | false=>simp only [aR];exact no _ 9 _ (.inl ⟨⟨_,hxm,λh=>by have:=hb.2 h;cases this⟩,rfl⟩) (by decide) ((x12.trans xd).trans x4)
  | true=>
   simp only [aR];refine kQ (by omega) ?_;refine ⟨⟨j+1,rfl,by omega,xd.trans x4,λy hy=>?_⟩,by simp only [aL];omega⟩;rw [List.take_add_one,hx] at hy;rcases List.mem_append.1 hy with hy|hy
   ·exact hnm y hy
   ·simp at hy;subst hy;exact hb.1 rfl
 have hjl:j=m.code.length:=by omega
 subst hjl;rw [List.take_length] at hnm;have hox:∀ x∈m.code,BE i m x:=λx hx=>⟨ir,mr,mr.2.2.2.2 x hx,hnm x hx⟩;refine bC (hb2.ext x3) cG iM rfl (fQ jY (hc.ext x3) ?_);refine mkB underlying92 mO rfl (by omega) (by omega) λw4 hB1 x4 z4=>?_;have x34:=x3.trans x4;refine bC (hb2.ext x34) cG iM rfl (fQ jY (hc.ext x34) ?_);refine mkB underlying95 kS rfl (by omega) (by omega) λw5 hB2 x5 z5=>?_;have x35:=x34.trans x5;refine bC (hb2.ext x35) cG iM rfl (fQ jY (hc.ext x35) ?_);refine mkB underlying95 kS rfl (by omega) (by omega) λw6 hB3 x6 z6=>?_;have x36:=x35.trans x6
 have hmem:Mem w3.heap.size w4.heap.size w5.heap.size w6.heap.size w6 m.code.length (St.ini m.code.length):=by
  refine ⟨⟨_,by simp,(hB1.ext x5).ext x6,λq hq=>⟨.slice none 0 0,by simp [hq],?_⟩⟩,?_,?_,by simp [St.ini],by simp [St.ini],by simp [St.ini],by omega,by omega,by omega,by omega,Nat.le_refl _⟩
  ·have:(St.ini m.code.length).s q=[]:=by simp [St.ini,St.s,List.getD_eq_getElem?_getD,hq]
   rw [this];exact World.ownsRow_nil _ _ _ _
  ·have:(St.ini m.code.length).has.map Value.bool=List.replicate m.code.length (.bool false):=by simp [St.ini]
   rw [this];exact hB2.ext x6
  ·have:(St.ini m.code.length).todo.map Value.bool=List.replicate m.code.length (.bool false):=by simp [St.ini]
   rw [this];exact hB3
 have hg1:w3.heap.size < w6.heap.size:=by omega
 have hw2:w2.heap.size<=w3.heap.size:=x3.size;have hw3:w3.heap.size+1=w4.heap.size:=by omega
 have hw4:w4.heap.size+1=w5.heap.size:=by omega
 generalize w3.heap.size=g1 at hmem hg1 hw2 hw3;generalize w4.heap.size=g2 at hmem hw3 hw4;generalize w5.heap.size=g3 at hmem hw4;generalize w6.heap.size=B at hmem hg1;refine VI hY kS hmem.s2 (n:=m.code.length) (by simp [St.ini]) (by omega) (by omega) rfl ?_;simp only [show (0:Int).toNat=0 from rfl];have hmem:=hmem.setH 0 true;refine VI hY kS hmem.s3 (n:=m.code.length) (by simp [St.ini]) (by omega) (by omega) rfl ?_;simp only [show (0:Int).toNat=0 from rfl];have hmem:=hmem.setT 0 true;have x38:=(x36.setCell (b:=g2) (o:=0) (by omega) (.bool true)).setCell (b:=g3) (o:=0) (by omega) (.bool true)
 have efirst:({ St.ini m.code.length with has:=(St.ini m.code.length).has.set 0 true,todo:=(St.ini m.code.length).todo.set 0 true }:St)=St.first m.code.length:=by
  simp only [St.ini,St.first,St.mk.injEq,and_true];apply List.ext_getElem?;intro q;by_cases e:q=0
  ·subst e;simp [List.getElem?_replicate]
  ·simp []
 have hmem:Mem g1 g2 g3 B _ m.code.length (St.first m.code.length):=efirst▸hmem;obtain ⟨wf0,inv0⟩:=EM (i:=i) hn1;generalize ((w6.setCell ⟨g2,0,none⟩ (.bool true)).setCell ⟨g3,0,none⟩ (.bool true))=w8 at hmem x38;have hn:m.code.length<=1000:=by omega
 generalize hnn:m.code.length=n at *;refine ⟨λw'=>∃ st,(Mem g1 g2 g3 B w' n st/\aE w2 w'/\WF m st/\Inv i m st/\∀ r,oV i m st r->oV i m (St.first n) r),λw'=>mu λq=>∃ st,(Mem g1 g2 g3 B w' n st/\aE w2 w'/\WF m st/\Inv i m st/\∀ r,oV i m st r->oV i m (St.first n) r)/\msr n st=q,⟨_,hmem,x38,wf0,inv0,λ_ h=>h⟩,?_⟩;rintro w9 ⟨st0,hst0⟩ _;obtain ⟨st,⟨hM,x9,wf,inv,hR⟩,hmu⟩:=xT (p:=λq=>∃ st,(Mem g1 g2 g3 B w9 n st/\aE w2 w9/\WF m st/\Inv i m st/\∀ r,oV i m st r->oV i m (St.first n) r)/\msr n st=q) ⟨_,_,hst0,rfl⟩;clear hst0 st0;refine ⟨λv w'=>∃ q:Nat,v=i64 q/\q<=n/\w'=w9/\∀ j,j < q->st.t j=false,λv _=>n - (RowKit.intOf v).toNat,⟨0,rfl,Nat.zero_le _,rfl,λ_ h=>absurd h (Nat.not_lt_zero _)⟩,?_⟩;rintro _ w9' ⟨q,rfl,hq,hw9,hno⟩ _;have hw9:=hw9.symm;subst hw9;have hWk:∀ {r},oV i m st r->rY i m r:=λ{r} hr=>.inr ⟨hnm,by rw [hnn];exact hR r hr⟩;refine fQ hY (hM.ts hn) (aW.2 ?_);by_cases hqn:(q:Int) < (n:Int)
 case neg=>
  have hqe:(q:Int)=(n:Int):=by omega
  simp only [hqn,aR];refine fQ hY (hM.ts hn) (aH.2 ?_);simp only [hqe,aR];exact yes st _ _ _ (hWk (.done (wM λj hj=>hno j (by rw [hM.l3] at hj;omega)))) (hM.states hn) (hM.bools hn) (x12.trans x9)
 have hqn':q < n:=by omega
 simp only [hqn,aR];refine lV hY oM (hM.ts hn) (by omega) (by omega) (HO (by rw [hM.l3];exact hqn')) (dC.2 ?_);have ett:st.todo.getD q false=st.t q:=rfl;rw [ett];cases htq:st.t q with
 | false=>
  simp only [aR];refine kQ (by omega) ?_;refine ⟨⟨q+1,rfl,by omega,rfl,λj hj=>?_⟩,by simp only [aL];omega⟩;by_cases hjq:j=q
  ·rw [hjq];exact htq
  ·exact hno j (by omega)
 | true=>
 simp only [aR];refine fQ hY (hM.ts hn) (aH.2 ?_);have hne:¬ ((q:Int)=(n:Int)):=by omega
 simp only [hne,aR];have hfirst:nG st.todo=some q:=zU htq λj hj=>hno j hj
 have hhq:st.h q=true:=by
  cases e:st.h q with
  | true=>rfl
  | false=>have:=(wf.no q e).2;rw [htq] at this;cases this
 obtain ⟨hkd,hl8⟩:=wf.kd q hhq;have hxq:=sN (m:=m) (k:=q) (by omega);have ox:=hox _ (List.mem_of_getElem? hxq);refine VI hY kS hM.s3 (n:=n) (by simpa using hM.l3) (by omega) (by omega) rfl ?_;rw [Int.toNat_natCast];have hM1:=hM.setT q false;have x10:=x9.setCell (b:=g3) (o:=q) (by omega) (.bool false);generalize w9.setCell ⟨g3,q,none⟩ (.bool false)=w10 at hM1 x10;have estep:tZ i m st q=(BU i m (m.ins q) (st.s q)).bind λstack=>lY n stack (fO (m.ins q) q) { st with todo:=st.todo.set q false }:=by unfold tZ;rw [hnn]
 generalize hst1:({ st with todo:=st.todo.set q false }:St)=st1 at hM1 estep;have es1:st1.s q=st.s q:=by rw [<- hst1];rfl
 obtain ⟨vs,v,hvs,hv,hov⟩:=hM1.ss hn hqn';rw [es1] at hov;have D1:aE w10 w10.drew:=(aE.refl _).drew;have xd:=x10.trans D1;refine aK.mk' (λw'=>aE w10 w') D1 ?_;refine yA (λw' hw=>hb1.ext (x10.trans hw)) lM rfl ?_;refine yA (λw' hw=>hb2.ext (x10.trans hw)) oK rfl ?_;refine jG (λw' hw=>hb2.ext (x10.trans hw)) cG iM rfl ?_;have hcn:lT w2 (.slice ca n cc) m.code:=hc;refine yI hcn (λ_ h=>x10.trans h) hxq ?_;refine oE pV bF hvs (λ_ h=>h) (by omega) (by omega) hv ?_;refine bDn (h2.ext xd) (hrow0.ext xd) ox (aA.of_own (D1.own hov)) hkd hl8 (λout v2 w11 hdo ho2 x11=>?_) λe w11 hdo hne x11=>?_
 case refine_2=>
  refine ⟨D1.trans x11,aD.ok (λw' _=>nE) (aD.ok (λw' _=>nD) (cH.2 ?_))⟩;simp only [hne,aR];refine no q e _ (hWk (.fail hfirst ?_)) hne ((x12.trans xd).trans x11);rw [estep,hdo];rfl
 refine ⟨D1.trans x11,aD.ok (λw' _=>nE) (aD.ok (λw' _=>nD) (cH.2 ?_))⟩;simp only [aR];obtain ⟨od1,od2,_,_⟩:=ES ox hkd hdo;rw [hdo] at estep;have estep:tZ i m st q=lY n out (fO (m.ins q) q) st1:=estep;have xd11:=D1.trans x11;have hM2:=hM1.ext xd11;have x11':=x10.trans xd11;have ho2:=aU ho2 (B':=B) (Nat.le_trans hM1.o.2.2.2.2 D1.size);refine bC (hb2.ext x11') cG iM rfl ?_;refine ldI (hcn.ext x11') hxq ?_;refine aBi (x:=m.ins q) (pc:=q) (by omega) λtv w12 hot x12'=>?_;have ht0:=WE ox (pc:=q);have hLl:(fO (m.ins q) q).length<=2:=GV _ _;generalize fO (m.ins q) q=L at hot ht0 estep hLl;have hM3:=hM2.ext x12';have hot:=aU hot (B':=B) hM2.o.2.2.2.2;have ho3:=x12'.own ho2;have x13:=x11'.trans x12'
 have wf1:WF m st1:=by
  rw [<- hst1];refine ⟨wf.l1,wf.l2,by simpa using wf.l3,wf.kd,λk hk=>⟨(wf.no k hk).1,?_⟩⟩;simp only [St.t,lZ];split
  ·rfl
  ·exact (wf.no k hk).2
 have fail:∀ {j to st' w'} (pc e:Int),lY n out (L.take j) st1=some st'->L[j]?=some to->nX n st' to out=none->e≠0->aE w2 w'->K (.tuple #[aX,aX,i64 pc,i64 e]) w':=by
  intro j to st' w' pc e h1 h2 h3 h4 h5;exact no pc e _ (hWk (.fail hfirst (by rw [estep];exact EK h1 h2 h3))) h4 (x12.trans h5)
 refine ⟨λv w'=>∃ (j:Nat) (st':St),v=i64 j/\j<=L.length/\aE w2 w'/\Mem g1 g2 g3 B w' n st'/\lY n out (L.take j) st1=some st'/\w'.ownsRow B 3 1 tv L.length (L.map i64)/\w'.ownsRow B 3 1 v2 out.length (out.map i64),λv _=>L.length - (RowKit.intOf v).toNat,⟨0,st1,rfl,Nat.zero_le _,x13,hM3,rfl,hot,ho3⟩,?_⟩;rintro _ w13 ⟨j,st',rfl,hj,xx,hM4,hgo,hot4,ho4⟩ _;refine fQ aQ (aA.of_own hot4) (aW.2 (aB (λhlt=>?_) λhge=>?_))
 case refine_2=>
  have hjL:j=L.length:=by omega
  subst hjL;rw [List.take_length] at hgo;have es:tZ i m st q=some st':=by rw [estep];exact hgo
  obtain ⟨s1,s2,s3⟩:=IV hox wf inv hfirst es;have hI:Mem g1 g2 g3 B w13 n st'/\aE w2 w13/\WF m st'/\Inv i m st'/\∀ r,oV i m st' r->oV i m (St.first n) r:=⟨hM4,xx,s1,s2,λr hr=>hR r (.go hfirst es hr)⟩;rw [hnn] at s3;exact ⟨⟨st',hI⟩,Nat.lt_of_le_of_lt (LW ⟨st',hI,rfl⟩) (Nat.lt_of_lt_of_eq s3 hmu)⟩
 obtain ⟨to,hto⟩:=bE (l:=L) (j:=j) (by omega);have hto0:=ht0 to (List.mem_of_getElem? hto);refine JN aQ aG hot4 (by omega) (by omega) (cK hto) ?_;refine bC (hb2.ext xx) cG iM rfl ?_;refine fQ jY (hc.ext xx) (kO.2 (aB (λhbig=>?_) λhsm=>?_))
 ·rw [hnn] at hbig;exact fail _ 13 hgo hto (by unfold nX;rw [if_pos (by omega)]) (by decide) xx
 rw [hnn] at hsm;obtain ⟨t,rfl⟩:∃ t:Nat,to=t:=⟨to.toNat,by omega⟩;have htn:t < n:=by omega
 have wf':WF m st':=(yD od1 od2 wf1 (λto ht=>ht0 to (List.mem_of_mem_take ht)) (by rw [hnn];exact hgo)).1
 have next:∀ {w' st''},aE w2 w'->Mem g1 g2 g3 B w' n st''->nX n st' t out=some st''->w'.ownsRow B 3 1 tv L.length (L.map i64)->w'.ownsRow B 3 1 v2 out.length (out.map i64)->V prog (binOp .add 3 (i64 j) (i64 1)) w' λt2 w'=>
   (∃ (j:Nat) (st':St),t2=i64 j/\j<=L.length/\aE w2 w'/\Mem g1 g2 g3 B w' n st'/\lY n out (L.take j) st1=some st'/\w'.ownsRow B 3 1 tv L.length (L.map i64)/\w'.ownsRow B 3 1 v2 out.length (out.map i64))/\L.length - (RowKit.intOf t2).toNat < L.length - (RowKit.intOf (i64 (j:Int))).toNat:=by
  intro w' st'' h1 h2 h3 h4 h5;refine kQ (by omega) ?_;exact ⟨⟨j+1,st'',rfl,by omega,h1,h2,EI hgo hto h3,h4,h5⟩,by simp only [aL];omega⟩
 refine lV hY oM (hM4.hs hn) (by omega) (by omega) (HO (by rw [hM4.l2];exact htn)) (dC.2 ?_);have ehh:st'.has.getD t false=st'.h t:=rfl;rw [ehh]
 have hgG:∀ {r},(if st'.h t then (lX (st'.s t) out).bind λj=>if j=st'.s t then some st' else some { st' with st:=st'.st.set t j,todo:=st'.todo.set t true } else some ⟨st'.st.set t out,st'.has.set t true,st'.todo.set t true⟩)=r->nX n st' t out=r:=by
  rintro _ rfl;unfold nX;rw [if_neg (by omega)];simp only [Int.toNat_natCast]
 have hlo1:w2.heap.size<=g1:=hw2;have hlo2:w2.heap.size<=g2:=by omega
 have hlo3:w2.heap.size<=g3:=by omega
 have hBo:=hM4.o;cases hht:st'.h t with
 | false=>
  simp only [aR];obtain ⟨vs4,q1,q2,q3⟩:=hM4.s1
  refine VI pV mO q2 (n:=n) q1 (by omega) (by omega) (by
   rcases ho4.2 with ⟨rfl,_⟩|⟨_,_,_,rfl,_⟩<;>rfl) ?_
  rw [Int.toNat_natCast];have hM5:=hM4.setS ho4 htn;refine VI hY kS hM5.s2 (n:=n) (by simpa using hM5.l2) (by omega) (by omega) rfl ?_;rw [Int.toNat_natCast];have hM6:=hM5.setH t true;refine VI hY kS hM6.s3 (n:=n) (by simpa using hM6.l3) (by omega) (by omega) rfl ?_;rw [Int.toNat_natCast];have hM7:=hM6.setT t true;refine next (((xx.setCell hlo1 _).setCell hlo2 _).setCell hlo3 _) hM7 (hgG (by rw [hht];rfl)) ?_ ?_
  ·exact lN (lN (lN hot4 hBo.2.1) hBo.2.2.1) hBo.2.2.2.1
  ·exact lN (lN (lN ho4 hBo.2.1) hBo.2.2.1) hBo.2.2.2.1
 | true=>
  simp only [aR];obtain ⟨hkt,hlt8⟩:=wf'.kd t hht;obtain ⟨vs5,v5,hvs5,hv5,hov5⟩:=hM4.ss hn htn;refine lV pV bF hvs5 (by omega) (by omega) hv5 ?_;refine aDr (aA.of_own hov5) (aA.of_own ho4) hkt od1 (by omega) (λjo v6 w14 hjo ho6 x14=>?_) λw14 hjo x14=>?_
  case refine_2=>
   refine hU.2 (hO.2 (dC.2 ?_));simp only [aR];exact fail _ 14 hgo hto (hgG (by rw [hht,hjo];rfl)) (by decide) (xx.trans x14)
  refine hU.2 (hO.2 (dC.2 ?_));simp only [aR];have hM5:=hM4.ext x14;obtain ⟨vs7,v7,hvs7,hv7,hov7⟩:=hM5.ss hn htn;refine lV pV bF hvs7 (by omega) (by omega) hv7 ?_;refine SG (aA.of_own ho6) (aA.of_own hov7) λw15 x15=>dC.2 ?_;have hM6:=hM5.ext x15;have xx15:=(xx.trans x14).trans x15;have hot6:=(x14.trans x15).own hot4;have ho46:=(x14.trans x15).own ho4;have ho6:=aU (x15.own ho6) (B':=B) hBo.2.2.2.2;by_cases hje:jo=st'.s t
  ·simp only [hje,aR];exact next xx15 hM6 (hgG (by rw [hht,hjo];simp [hje])) hot6 ho46
  ·simp only [hje,aR];obtain ⟨vs8,q1,q2,q3⟩:=hM6.s1
   refine VI pV mO q2 (n:=n) q1 (by omega) (by omega) (by
    rcases ho6.2 with ⟨rfl,_⟩|⟨_,_,_,rfl,_⟩<;>rfl) ?_
   rw [Int.toNat_natCast];have hM7:=hM6.setS ho6 htn;refine VI hY kS hM7.s3 (n:=n) (by simpa using hM7.l3) (by omega) (by omega) rfl ?_;rw [Int.toNat_natCast];have hM8:=hM7.setT t true;refine next ((xx15.setCell hlo1 _).setCell hlo3 _) hM8 (hgG (by rw [hht,hjo];simp [hje])) ?_ ?_
   ·exact lN (lN hot6 hBo.2.1) hBo.2.2.2.1
   ·exact lN (lN ho46 hBo.2.1) hBo.2.2.2.1
theorem aEd {p:jO} {i:iK} (h:kP w p i) (hn:lA w i) (hk:∀ a b e w',(e=0↔mU i)->aE w w'->K (.tuple #[.agg #[i64 a,i64 b],i64 e]) w'):aC prog 21 #[p.val i] w K:=by
 apply bHm;unfold aAq jO.val;refine bx λb1 w1 hb1 x1=>?_;refine zA AR λw2 hB2 x2=>?_;have x12:=x1.trans x2;have hg:w.heap.size<=w1.heap.size:=x1.size;have hb1:=hb1.ext x2;generalize w1.heap.size=g at hB2 hg;have hB2:bO w2 g [i64 0,i64 0] 78:=hB2;refine iF hb1 lM rfl ?_;refine (aPg (h.ext x12) (hn.ext x12)).mono λv w3 ⟨b,hv,hb,x3⟩=>?_;subst hv;have x13:=x12.trans x3
 have fin:∀ {w':O} {a b e:Int},bO w' g [i64 0,i64 0] 78->aE w w'->(e=0↔mU i)->U prog (Instr.storeAt 78 (.pointer (some ⟨g,0,none⟩)) (.agg #[i64 a,i64 b])) w' λ_ w7=>
   ∃ r1,(loadVar 78 (match (Value.pointer (some ⟨g,0,none⟩)) with|.pointer (some p)=>p|_=>⟨0,0,none⟩)).run prog w7=.ok r1 w7/\(∃ p,(Value.pointer (some ⟨g,0,none⟩))=Value.pointer (some p))/\K (.tuple #[r1,i64 e]) w7:=by
  intro w' a b e hB hx he;refine yW AR hB (l:=[i64 a,i64 b]) rfl rfl rfl rfl λw7 hB7 hc=>?_;exact ⟨_,nS underlying78 rfl AR hB7 rfl,⟨_,rfl⟩,hk a b e _ he (hc.ext _ hx hg)⟩
 cases b with
 | false=>
  simp only [aR];refine oD HV [] rfl rfl ?_;exact fin (hB2.ext x3) x13 ⟨λh=>(by cases h),λh=>by have:=hb.2 h.1;cases this⟩
 | true=>
 simp only [aR];have ir:=hb.1 rfl;have hm8:=ir.2.2.1.1.2;refine ⟨λv w'=>∃ j:Nat,v=i64 j/\j<=i.methods.length/\aE w2 w'/\∀ q,q < j->∃ st,rY i (i.meth q) (some st),λv _=>i.methods.length - (RowKit.intOf v).toNat,⟨0,rfl,Nat.zero_le _,x3,λ_ h=>absurd h (Nat.not_lt_zero _)⟩,?_⟩;rintro _ w4 ⟨j,rfl,hj,x4,hall⟩ _;refine bC (hb1.ext x4) bP dE rfl (yY gO ((h.ext x12).ext x4).mt (aW.2 (aB (λhlt=>?_) λhge=>?_)))
 ·refine iF (hb1.ext x4) lM rfl ?_;refine bAu ((h.ext x12).ext x4) ir (by omega) (λst sv hv w5 hw _ _ x5=>?_) λpc e w5 hw hne x5=>?_
  ·refine YC.2 (YB.2 (YA.2 (XZ.2 (cH.2 ?_))));simp only [aR];refine kQ (by omega) ?_;refine ⟨⟨j+1,rfl,by omega,x4.trans x5,λq hq=>?_⟩,by simp only [aL];omega⟩;by_cases hqj:q=j
   ·subst hqj;exact ⟨st,hw⟩
   ·exact hall q (by omega)
  ·refine YC.2 (YB.2 (YA.2 (XZ.2 (cH.2 ?_))));simp only [hne,aR];refine oD HV [(0,i64 j),(1,i64 pc)] rfl rfl ?_;refine fin (hB2.ext (x4.trans x5)) ((x12.trans x4).trans x5) ⟨λh=>absurd h hne,λht=>?_⟩;have hmm:=fY (i:=i) (a:=(j:Int)) (by omega) (by omega);obtain ⟨s,hs⟩:=ht.2 _ (List.mem_of_getElem? hmm);have:=hs.det hw;cases this
 ·have hjl:j=i.methods.length:=by omega
  subst hjl;refine oD HV [] rfl rfl ?_;refine fin (hB2.ext x4) (x12.trans x4) ⟨λ_=>⟨ir,λm hm=>?_⟩,λ_=>rfl⟩;obtain ⟨q,hq⟩:=List.getElem?_of_mem hm;have hlt:=(List.getElem?_eq_some_iff.1 hq).1;have hmm:=fY (i:=i) (a:=(q:Int)) (by omega) (by omega);rw [Int.toNat_natCast,hq] at hmm;cases hmm;exact hall q hlt
end Go.Proofs.YtjcmcfidblhnnaaGreatDoor
namespace Go.Vc
section
variable {P:Program} {w:O} {K:Y->O->Prop}
theorem LL {t ty e:TypeId} (ht:P.underlying t=some (.slice e)):(Builtin.cap_ #[t] ty #[.slice none 0 0]).run P w=.ok (i64 0) w:=by
 simp [Builtin.cap_,run_underlying ht,goInt]
theorem GR {B e sz n a:Nat} {g cap:Nat} {xs:List Y} (h:w.ownsRow B e sz (.slice (some ⟨g,0,none⟩) n cap) n xs) (ha:a<=n):w.ownsRow B e sz (.slice (some ⟨g,0,none⟩) a cap) a (xs.take (a*sz)):=by
 obtain ⟨hl,h⟩:=h;rcases h with ⟨he,_⟩|⟨g',cap',cur,he,h1,h2,h3,h4,h5,h6⟩
 ·cases he
 ·cases he;have hle:a*sz<=n*sz:=Nat.mul_le_mul_right _ ha;refine ⟨by simp;omega,.inr ⟨g,cap,cur,rfl,h1,h2,by omega,h4,h5,?_⟩⟩;rw [<- h6,List.take_take,Nat.min_eq_left hle]
theorem bLk {t tn ty e:TypeId} {z:Y} {by_:Nat} {kn:IntKind} (ht:P.underlying t=some (.slice e)) (htn:P.underlying tn=some (.int kn)) (hi:dD P e z 1 by_) (hz:z.cells=#[z]) {n:Nat} (h0:0 < n) (h63:n<=maxLen) (hb:n*by_<=281474976710656)
  (hk:∀ g cap w',w'.ownsRow w.heap.size e 1 (.slice (some ⟨g,0,none⟩) n cap) n (List.replicate n z)->aE w w'->K (.slice (some ⟨g,0,none⟩) n cap) w'):V P (Builtin.append_ #[t,tn] ty #[.slice none 0 0,i64 n]) w K:=by
 obtain ⟨i,hi',hz',hn,hby⟩:=info_parts hi;have hr:=Go.Lib.run_append_nil_zeros (P:=P) w t tn ty e i z .i64 kn ht htn hi' hz' n h0 (by omega) (by unfold maxLen at h63;omega) (by rw [hby];exact hb);have hge:=grownCap_ge w n 0 e;have hle:=grownCap_le_maxLen w n 0 e h63;generalize grownCap w n 0 e=cap at hr hge hle;refine V.ok hr (hk _ _ _ ?_ (((aE.refl w).drew).alloc _))
 have e1:(Builtin.zeroCells z.cells n++Builtin.zeroCells z.cells (cap - n)).toList=List.replicate cap z:=by
  rw [hz]
  have:∀ k,(Builtin.zeroCells #[z] k).toList=List.replicate k z:=λk=>List.eq_replicate_iff.2 ⟨by simp [Builtin.zeroCells],λb hb=>by
   simp only [Builtin.zeroCells,Array.toList_map,List.mem_map] at hb;obtain ⟨q,_,rfl⟩:=hb;simp [Nat.mod_one]⟩
  rw [Array.toList_append,this,this,List.replicate_append_replicate]
  congr 1;omega
 have e2:(Builtin.zeroCells z.cells n++Builtin.zeroCells z.cells (cap - n))=(List.replicate cap z).toArray:=by rw [<- e1]
 rw [e2];refine ⟨by simp,.inr ⟨w.heap.size,cap,(List.replicate cap z).toArray,rfl,Nat.le_refl _,?_,hge,hle,by simp,?_⟩⟩
 ·have:=heap_alloc_new w.drew (.cells (List.replicate cap z).toArray e);exact this
 ·simp [List.take_replicate,Nat.min_eq_left hge]
end
end Go.Vc
namespace Go.Proofs.YtjcmcfidblhnnaaGreatDoor
open Tryz
open Go.Vc Go.Tc
variable {w:O} {K:Y->O->Prop}
theorem aQu {n:Nat} (hn:n<=1000) (hk:∀ v w',w'.ownsRow w.heap.size 3 1 v 0 []->aE w w'->K v w'):aC prog 167 #[aX,i64 n] w K:=by
 apply aWr;unfold PO;refine ⟨λw'=>w'=w,?_,?_⟩
 ·refine aW.2 (aB (λh=>by omega) λ_=>rfl)
 rintro w3 hw3 _;have hw3:=hw3.symm;subst hw3;refine V.ok (LL underlying23) (V.ok (xL underlying23) (eY.2 ?_));have e0:IntKind.i64.wrap (0 - ((0:Nat):Int))=0:=by decide
 rw [e0];refine eY.2 ?_;rw [aM (by omega),Int.sub_zero];refine iH.2 (aB (λh=>?_) λh=>?_)
 ·refine V.ok (LL underlying23) ?_;refine V.ok (w':=w) (v:=aX) ?_ ?_
  ·simp [Instr.sliceAt,Instr.slice,run_underlying underlying23,fX bW,Instr.sliceBounds,Instr.sliceBound,asIntOf]
  refine bLk underlying23 underlying3 bW rfl (by omega) (by unfold maxLen;omega) (by omega) λg cap w1 ho1 x1=>?_;refine V.ok (xL underlying23) ?_;refine V.ok (w':=w1) (v:=.slice (some ⟨g,0,none⟩) 0 cap) ?_ (hk _ _ ?_ x1)
  ·simp [Instr.sliceAt,Instr.slice,run_underlying underlying23,fX bW,Instr.sliceBounds,Instr.sliceBound,asIntOf,lE]
  ·have:=GR (a:=0) ho1 (Nat.zero_le _);simpa using this
 ·exact hk _ _ (World.ownsRow_nil _ _ _ _) (aE.refl _)
theorem aDf {v av bv:Y} {a b:List Int} (hv:aA w v 1 2 [av,bv]) (ha:aN w av a) (hb:aN w bv b) (la:a.length<=100) (lb:b.length<=100) (hk:∀ v w',w'.ownsRow w.heap.size 3 1 v (a++b).length ((a++b).map i64)->aE w w'->K v w') :
  aC prog 114 #[v] w K:=by
 apply aYt;unfold RO;refine fQ pV hv ?_;refine ⟨λs v w'=>∃ j:Nat,v=i64 j/\w'=w/\((j=0/\s=i64 ((0:Nat):Int))\/(j=1/\s=i64 (a.length:Int))\/(j=2/\s=i64 ((a.length+b.length:Nat):Int))),λ_ v _=>2 - (RowKit.intOf v).toNat,⟨0,rfl,rfl,.inl ⟨rfl,rfl⟩⟩,?_⟩;rintro s _ w1 ⟨j,rfl,hw1,hj⟩ _;have hw1:=hw1.symm;subst hw1;refine aW.2 (aB (λhlt=>?_) λhge=>?_)
 ·rcases hj with ⟨rfl,rfl⟩|⟨rfl,rfl⟩|⟨rfl,rfl⟩
  ·refine lV pV bF hv (by omega) (by omega) (u:=av) rfl (fQ aQ ha (bA.2 ?_));rw [aM (by omega)];refine aW.2 (aB (λh=>by omega) λ_=>bA.2 ?_);exact ⟨⟨1,rfl,rfl,.inr (.inl ⟨rfl,by simp⟩)⟩,by show (2 - 1:Nat) < 2 - 0;decide⟩
  ·refine lV pV bF hv (by omega) (by omega) (u:=bv) rfl (fQ aQ hb (bA.2 ?_));rw [aM (by omega)];refine aW.2 (aB (λh=>by omega) λ_=>bA.2 ?_);exact ⟨⟨2,rfl,rfl,.inr (.inr ⟨rfl,by simp⟩)⟩,by show (2 - 2:Nat) < 2 - 1;decide⟩
  ·omega
 have hs:s=i64 ((a.length+b.length:Nat):Int):=by
  rcases hj with ⟨rfl,rfl⟩|⟨rfl,rfl⟩|⟨rfl,rfl⟩
  iterate 2
   ·exact absurd hge (by simp)
  ·rfl
 subst hs;refine aQu (by omega) λgv w2 ho2 x2=>?_;refine fQ pV (hv.ext x2) ?_;refine ⟨λov v w'=>∃ j:Nat,v=i64 j/\aE w w'/\((j=0/\w'.ownsRow w.heap.size 3 1 ov 0 [])\/(j=1/\w'.ownsRow w.heap.size 3 1 ov a.length (a.map i64))\/(j=2/\w'.ownsRow w.heap.size 3 1 ov (a++b).length ((a++b).map i64))),λ_ v _=>2 - (RowKit.intOf v).toNat,⟨0,rfl,x2,.inl ⟨rfl,ho2⟩⟩,?_⟩;rintro ov _ w3 ⟨j,rfl,x3,hj⟩ _;refine aW.2 (aB (λhlt=>?_) λhge=>?_)
 ·rcases hj with ⟨rfl,ho⟩|⟨rfl,ho⟩|⟨rfl,ho⟩
  ·refine lV pV bF (hv.ext x3) (by omega) (by omega) (u:=av) rfl ?_;refine UQ bB ho (ha.ext x3) (NG _) (by omega) (by unfold maxLen;omega) x3.size λv4 w4 ho4 hg4=>?_;refine bA.2 ?_;refine ⟨⟨1,rfl,x3.grown hg4 λk hk=>(ho.lt k hk).1,.inr (.inl ⟨rfl,by simpa using ho4⟩)⟩,by show (2 - 1:Nat) < 2 - 0;decide⟩
  ·refine lV pV bF (hv.ext x3) (by omega) (by omega) (u:=bv) rfl ?_;refine UQ bB ho (hb.ext x3) (NG _) (by omega) (by unfold maxLen;omega) x3.size λv4 w4 ho4 hg4=>?_;refine bA.2 ?_;refine ⟨⟨2,rfl,x3.grown hg4 λk hk=>(ho.lt k hk).1,.inr (.inr ⟨rfl,by simpa using ho4⟩)⟩,by show (2 - 2:Nat) < 2 - 1;decide⟩
  ·omega
 ·rcases hj with ⟨rfl,ho⟩|⟨rfl,ho⟩|⟨rfl,ho⟩
  iterate 2
   ·exact absurd hge (by simp)
  ·exact hk _ _ ho x3
end Go.Proofs.YtjcmcfidblhnnaaGreatDoor
namespace Go.Vc
section
variable {P:Program} {w:O} {K:Y->O->Prop} {S:O->Prop} {L:Y->Prop}
theorem aQj {s f o s2 f2 o2 ft b:Nat} {cs:List Y} {u:Y} (hb:aY w b cs) (h:FA P s f o) (h2:FA P s2 f2 o2) (hl:L1 P ft) (hc:cs[o+o2]?=some u) (hk:K u w) :
  V P (Instr.fieldAt s (.pointer (some ⟨b,0,none⟩)) f) w λq w1=>V P (Instr.fieldAt s2 q f2) w1 λq2 w2=>V P (Instr.loadAt ft q2) w2 K:=by
 obtain ⟨d,hd,ha⟩:=hl;refine V.ok (h.ex w b 0) (V.ok (h2.ex w b _) (V.ok (jD hd ha ?_) hk));have:=hb (o+o2) u hc;simpa [Nat.add_assoc] using this
theorem yF2 {s f o s2 f2 o2 ft b:Nat} {cs:List Y} {u:Y} (hb:∀ w',S w'->aY w' b cs) (h:FA P s f o) (h2:FA P s2 f2 o2) (hl:L1 P ft) (hc:cs[o+o2]?=some u) (hk:L u) :
  aD P S (Instr.fieldAt s (.pointer (some ⟨b,0,none⟩)) f) λq=>aD P S (Instr.fieldAt s2 q f2) λq2=>aD P S (Instr.loadAt ft q2) L:=by
 obtain ⟨d,hd,ha⟩:=hl;refine aD.ok (λw' _=>h.ex w' b 0) (aD.ok (λw' _=>h2.ex w' b _) (aD.ok (λw' hw=>jD hd ha ?_) hk));have:=hb w' hw (o+o2) u hc;simpa [Nat.add_assoc] using this
end
end Go.Vc
namespace Go.Proofs.YtjcmcfidblhnnaaGreatDoor
open Tryz
open Go.Vc Go.Tc
variable {w:O} {K:Y->O->Prop}
variable {w0:O} {i:iK} {m:jN} {tv:Y} {x:kJ}
structure tU where
 gb:Nat
 g1:Nat
 g2:Nat
 g3:Nat
 B:Nat
 p:jO
 pv:Y
 lv:Y
 cv:Y
 loc:Y
def tU.row (c:tU) (m:jN):List Y:=[c.pv,i64 m.result,c.lv,c.cv]
def tU.cells (c:tU) (i:iK) (m:jN):List Y:=
 [.string i.name,c.p.fv,c.p.iv,c.p.mv,c.p.xv,c.pv,i64 m.result,c.lv,c.cv,c.loc,.slice (some ⟨c.g1,0,none⟩) m.code.length m.code.length,.slice (some ⟨c.g2,0,none⟩) m.code.length m.code.length,.slice (some ⟨c.g3,0,none⟩) m.code.length m.code.length]
def tU.G (c:tU) (k:Nat):Prop:=k=c.g1\/k=c.g2\/k=c.g3
structure Wk (w0 w:O) (c:tU) (i:iK) (m:jN) (st:St):Prop where
 x:aE w0 w
 lo:w0.heap.size<=c.gb/\w0.heap.size<=c.g1/\w0.heap.size<=c.g2/\w0.heap.size<=c.g3
 ne:c.gb≠c.g1/\c.gb≠c.g2/\c.gb≠c.g3
 box:bO w c.gb (c.cells i m) 166
 img:kP w0 c.p i
 row:lH w0 (c.row m) m
 loc:w.ownsRow w0.heap.size 3 1 c.loc m.locs.length (m.locs.map i64)
 locne:∀ k,c.loc.ownBlock=some k->¬ c.G k
 mem:Mem c.g1 c.g2 c.g3 c.B w m.code.length st
theorem Wk.boxed {w0:O} {c:tU} {i:iK} {m:jN} {st:St} (h:Wk w0 w c i m st):aY w c.gb (c.cells i m):=bO.boxed h.box
theorem Wk.ext {w0 w':O} {c:tU} {i:iK} {m:jN} {st:St} (h:Wk w0 w c i m st) (hx:aE w w'):Wk w0 w' c i m st:=
 ⟨h.x.trans hx,h.lo,h.ne,h.box.ext hx,h.img,h.row,hx.own h.loc,h.locne,h.mem.ext hx⟩
theorem Wk.chg {w':O} {c:tU} {st st':St} (h:Wk w0 w c i m st) (hf:Fr c.G w w') (hm:Mem c.g1 c.g2 c.g3 c.B w' m.code.length st'):Wk w0 w' c i m st':=by
 have hlo:=h.lo;refine ⟨hf.ext h.x λk hk=>?_,h.lo,h.ne,hf.blk h.box ?_,h.img,h.row,hf.own h.loc h.locne,h.locne,hm⟩
 ·rcases hk with rfl|rfl|rfl
  ·exact hlo.2.1
  ·exact hlo.2.2.1
  ·exact hlo.2.2.2
 ·rintro (e|e|e)
  ·exact h.ne.1 e
  ·exact h.ne.2.1 e
  ·exact h.ne.2.2 e
theorem Wk.imgAt {c:tU} {st:St} (h:Wk w0 w c i m st):kP w c.p i:=h.img.ext h.x
theorem Wk.rowAt {c:tU} {st:St} (h:Wk w0 w c i m st):lH w (c.row m) m:=h.row.ext h.x
theorem Wk.locAt {c:tU} {st:St} (h:Wk w0 w c i m st):aN w c.loc m.locs:=aA.of_own h.loc
theorem Wk.codeAt {c:tU} {st:St} (h:Wk w0 w c i m st):lT w c.cv m.code:=by
 obtain ⟨pv,lv,cv,e,_,_,hc⟩:=h.rowAt;simp only [tU.row,List.cons.injEq] at e;obtain ⟨_,_,_,rfl,_⟩:=e;exact hc
def slB (v:Y):Option Nat:=match v with
 | .slice (some a) _ _=>some a.block
 | _=>none
theorem IY {B e sz n:Nat} {v:Y} {xs:List Y} (h:w.ownsRow B e sz v n xs):v.ownBlock=slB v:=by
 rcases h.2 with ⟨rfl,_⟩|⟨g,cap,cur,rfl,_⟩<;>rfl
def aJm (B0 n:Nat) (z:Y) (e:TypeId) (v:Y) (w:O):Prop:=∃ g,v=.slice (some ⟨g,0,none⟩) n n/\bO w g (List.replicate n z) e/\B0<=g
structure aJr (B0:Nat) (p:jO) (row:List Y) (m:jN) (c:tU) (w:O):Prop where
 p:c.p=p
 row:c.row m=row
 loc:w.ownsRow B0 3 1 c.loc m.locs.length (m.locs.map i64)
 r1:bO w c.g1 (List.replicate m.code.length (.slice none 0 0)) 23
 r2:bO w c.g2 (List.replicate m.code.length (.bool false)) 4
 r3:bO w c.g3 (List.replicate m.code.length (.bool false)) 4
 lo:B0<=c.g1/\B0<=c.g2/\B0<=c.g3
 ne:c.g1≠c.g2/\c.g1≠c.g3/\c.g2≠c.g3
 locne:∀ k,c.loc.ownBlock=some k->¬ c.G k
theorem aJr.ext {B0:Nat} {p:jO} {row:List Y} {m:jN} {c:tU} {w w':O} (h:aJr B0 p row m c w) (hx:aE w w'):aJr B0 p row m c w':=
 ⟨h.p,h.row,hx.own h.loc,h.r1.ext hx,h.r2.ext hx,h.r3.ext hx,h.lo,h.ne,h.locne⟩
structure aRt (B0:Nat) (p:jO) (i:iK) (pv lv cv:Y) (m:jN) (q:Nat) (v:Y) (w:O):Prop where
 c6:q=6->aA w v 1 2 [pv,lv]
 c7:q=7->w.ownsRow B0 3 1 v m.locs.length (m.locs.map i64)
 c9:q=9->aJm B0 m.code.length (.slice none 0 0) 23 v w
 c11:q=11\/q=13->aJm B0 m.code.length (.bool false) 4 v w
 c14:q=14->∃ c:tU,v=.agg (c.cells i m).toArray/\aJr B0 p [pv,i64 m.result,lv,cv] m c w
 c15:q=15->∃ c:tU,v=.pointer (some ⟨c.gb,0,none⟩)/\aJr B0 p [pv,i64 m.result,lv,cv] m c w/\bO w c.gb (c.cells i m) 166/\B0<=c.gb/\c.gb≠c.g1/\c.gb≠c.g2/\c.gb≠c.g3
theorem aJm.ext {B0 n:Nat} {z:Y} {e:TypeId} {v:Y} {w w':O} (h:aJm B0 n z e v w) (hx:aE w w'):aJm B0 n z e v w':=by
 obtain ⟨g,h1,h2,h3⟩:=h;exact ⟨g,h1,h2.ext hx,h3⟩
theorem aRt.ext {B0:Nat} {p:jO} {i:iK} {pv lv cv:Y} {m:jN} {q:Nat} {v:Y} {w w':O} (h:aRt B0 p i pv lv cv m q v w) (hx:aE w w'):aRt B0 p i pv lv cv m q v w':=
 ⟨λe=>(h.c6 e).ext hx,λe=>hx.own (h.c7 e),λe=>(h.c9 e).ext hx,λe=>(h.c11 e).ext hx,λe=>by
  obtain ⟨c,h1,h2⟩:=h.c14 e;exact ⟨c,h1,h2.ext hx⟩,λe=>by
  obtain ⟨c,h1,h2,h3,h4⟩:=h.c15 e;exact ⟨c,h1,h2.ext hx,h3.ext hx,h4⟩⟩
theorem GW {p:jO} {k:Nat} (h:kP w p i) (ir:i.right) (hk:k < i.methods.length)
  (hK:∀ (w0:O) (c:tU) w',aE w w0->Wk w0 w' c i (i.meth k) (St.ini (i.meth k).code.length)->aE w w'->K (.pointer (some ⟨c.gb,0,none⟩)) w') :
  aC prog 57 #[p.val i,i64 k] w K:=by
 have hm:=fY (i:=i) (a:=(k:Int)) (by omega) (by omega);rw [Int.toNat_natCast] at hm;have mr:(i.meth k).right:=ir.2.2.1.2.1 _ (List.mem_of_getElem? hm);generalize i.meth k=m at hm mr hK;have hn1:=mr.2.2.2.1.1;have hn2:=mr.2.2.2.1.2;have lp:=mr.1.2;have ll:=mr.2.2.1.2;apply bGg;unfold ZN jO.val;refine bx λb1 w1 hb1 x1=>?_;refine bC hb1 bP dE rfl ?_;refine ldS gO oK (h.ext x1).mt hm qL λrow hrow=>?_;have hrow0:=hrow;obtain ⟨pv,lv,cv,rfl,hp,hl,hc⟩:=hrow;obtain ⟨pa,pc,rfl⟩:=hp.shape;obtain ⟨la,lc,rfl⟩:=hl.shape;obtain ⟨ca,cc,rfl⟩:=aA.shape hc;refine wV GK rfl rfl λb2 w2 hb2 x2=>?_;have hb2:aY w2 b2 [.slice pa m.params.length pc,i64 m.result,.slice la m.locals.length lc,.slice ca m.code.length cc]:=hb2;refine bC hb2 cG iM rfl (fQ jY (hc.ext x2) ?_);have D1:aE w2 w2.drew:=(aE.refl _).drew;refine aK.mk' (λw'=>aE w2 w') D1 ?_;have hb1:=hb1.ext x2;refine yA (λw' hw=>hb1.ext hw) lM rfl ?_;refine yA (λw' hw=>hb2.ext hw) oK rfl ?_;refine jG (λw' hw=>hb2.ext hw) dM bF rfl ?_;refine jG (λw' hw=>hb2.ext hw) kX bF rfl ?_;have hpd:=(hp.ext x2).ext D1;have hld:=(hl.ext x2).ext D1;generalize hwd:w2.drew=w3 at D1 hpd hld;have hmade:∀ {w'},aE w3 w'->aE w w':=λhx=>((x1.trans x2).trans D1).trans hx;refine ⟨aRt w3.heap.size p i (.slice pa m.params.length pc) (.slice la m.locals.length lc) (.slice ca m.code.length cc) m,λ_ v=>slB v,⟨λ_ _ _ _ hq hg=>hq.ext hg,λw1 hg=>D1.trans hg⟩,?_,?_,?_,?_,?_,?_,?_,?_⟩
 ·intro w4 hg _ _;refine jX bIi [.slice pa m.params.length pc,.slice la m.locals.length lc] rfl rfl (by simp) rfl λv w5 ho x5=>⟨x5,⟨λ_=>aA.of_own ho,λe=>absurd e (by decide),λe=>absurd e (by decide),λe=>absurd e (by decide),λe=>absurd e (by decide),λe=>absurd e (by decide)⟩,λg hg'=>?_⟩;have hg':slB v=some g:=hg';rw [<- IY ho] at hg';exact ho.lt g hg'
 ·intro v w4 hg hq _ _;have hx:aE w3 w4:=hg;refine aDf (hq.c6 rfl) (hpd.ext hx) (hld.ext hx) (by omega) (by omega) λv5 w5 ho x5=>⟨x5,⟨λe=>absurd e (by decide),λ_=>aU ho hx.size,λe=>absurd e (by decide),λe=>absurd e (by decide),λe=>absurd e (by decide),λe=>absurd e (by decide)⟩,λg hg'=>?_⟩;have hg':slB v5=some g:=hg';rw [<- IY ho] at hg';exact ho.lt g hg'
 ·intro w4 hg _ _;have hx:aE w3 w4:=hg;refine mkB underlying92 mO rfl (by omega) (by omega) λw5 hB x5 z5=>⟨x5,⟨λe=>absurd e (by decide),λe=>absurd e (by decide),λ_=>⟨_,rfl,hB,hx.size⟩,λe=>absurd e (by decide),λe=>absurd e (by decide),λe=>absurd e (by decide)⟩,λg hg'=>?_⟩;have:w4.heap.size=g:=by simpa [slB] using hg'
  subst this;exact ⟨Nat.le_refl _,hB.lt⟩
 iterate 2
  ·intro w4 hg _ _;have hx:aE w3 w4:=hg;refine mkB underlying95 kS rfl (by omega) (by omega) λw5 hB x5 z5=>⟨x5,⟨λe=>absurd e (by decide),λe=>absurd e (by decide),λe=>absurd e (by decide),λ_=>⟨_,rfl,hB,hx.size⟩,λe=>absurd e (by decide),λe=>absurd e (by decide)⟩,λg hg'=>?_⟩;have:w4.heap.size=g:=by simpa [slB] using hg'
   subst this;exact ⟨Nat.le_refl _,hB.lt⟩
 ·intro v7 v9 v11 v13 w4 hg q7 q9 q11 q13 hA _;obtain ⟨s1,rfl,r1,l1⟩:=q9.c9 rfl;obtain ⟨s2,rfl,r2,l2⟩:=q11.c11 (.inl rfl);obtain ⟨s3,rfl,r3,l3⟩:=q13.c11 (.inr rfl);have ho7:=q7.c7 rfl;obtain ⟨za,zc,rfl⟩:=(aA.of_own ho7).shape;refine V.ok (v:=.agg #[.string i.name,p.fv,p.iv,p.mv,p.xv,.slice pa m.params.length pc,i64 m.result,.slice la m.locals.length lc,.slice ca m.code.length cc,.slice za m.locs.length zc,.slice (some ⟨s1,0,none⟩) m.code.length m.code.length,.slice (some ⟨s2,0,none⟩) m.code.length m.code.length,.slice (some ⟨s3,0,none⟩) m.code.length m.code.length]) (w':=w4) ?_ ⟨bAf _,⟨λe=>absurd e (by decide),λe=>absurd e (by decide),λe=>absurd e (by decide),λe=>absurd e (by decide),λ_=>⟨⟨0,s1,s2,s3,0,p,.slice pa m.params.length pc,.slice la m.locals.length lc,.slice ca m.code.length cc,.slice za m.locs.length zc⟩,rfl,rfl,rfl,ho7,r1,r2,r3,⟨l1,l2,l3⟩,⟨?_,?_,?_⟩,λk hk=>?_⟩,λe=>absurd e (by decide)⟩,λg hg'=>by simp [slB] at hg'⟩
  ·kernel_rfl
  ·exact λ(e:s1=s2)=>hA _ (.tail _ (.head _)) _ (.tail _ (.tail _ (.head _))) (show (9:Nat)≠11 by decide) s1 rfl (by rw [e];rfl)
  ·exact λ(e:s1=s3)=>hA _ (.tail _ (.head _)) _ (.tail _ (.tail _ (.tail _ (.head _)))) (show (9:Nat)≠13 by decide) s1 rfl (by rw [e];rfl)
  ·exact λ(e:s2=s3)=>hA _ (.tail _ (.tail _ (.head _))) _ (.tail _ (.tail _ (.tail _ (.head _)))) (show (11:Nat)≠13 by decide) s2 rfl (by rw [e];rfl)
  ·have hk:=(IY ho7).symm.trans hk;rintro (e|e|e)
   ·have e:k=s1:=e;subst e;exact hA _ (List.Mem.head _) _ (.tail _ (.head _)) (show (7:Nat)≠9 by decide) _ hk rfl
   ·have e:k=s2:=e;subst e;exact hA _ (List.Mem.head _) _ (.tail _ (.tail _ (.head _))) (show (7:Nat)≠11 by decide) _ hk rfl
   ·have e:k=s3:=e;subst e;exact hA _ (List.Mem.head _) _ (.tail _ (.tail _ (.tail _ (.head _)))) (show (7:Nat)≠13 by decide) _ hk rfl
 ·intro v14 w4 hg q14 _ _;have hx:aE w3 w4:=hg;obtain ⟨c,rfl,hc⟩:=q14.c14 rfl;have a1:=hc.r1.lt;have a2:=hc.r2.lt;have a3:=hc.r3.lt;refine bxK λw5 hB x5=>⟨x5,⟨λe=>absurd e (by decide),λe=>absurd e (by decide),λe=>absurd e (by decide),λe=>absurd e (by decide),λe=>absurd e (by decide),λ_=>⟨{ c with gb:=w4.heap.size },rfl,?_,?_,hx.size,?_,?_,?_⟩⟩,λg hg'=>by simp [slB] at hg'⟩
  ·have:=hc.ext x5;exact ⟨this.p,this.row,this.loc,this.r1,this.r2,this.r3,this.lo,this.ne,this.locne⟩
  ·exact hB
  iterate 3
   ·exact λe=>by simp only at e;omega
 ·intro v6 v7 v9 v11 v13 v14 v15 w4 hg _ _ _ _ _ _ q15 _ _;have hx:aE w3 w4:=hg;obtain ⟨c,rfl,hc',hB,hlo,n1,n2,n3⟩:=q15.c15 rfl;have a1:=hc'.r1.lt;have a2:=hc'.r2.lt;have a3:=hc'.r3.lt;have hp':=hc'.p;have hr':=hc'.row;refine hK w3 { c with B:=w4.heap.size } w4 (hmade (aE.refl _)) ⟨hx,⟨hlo,hc'.lo⟩,⟨n1,n2,n3⟩,hB,?_,?_,hc'.loc,hc'.locne,⟨⟨_,by simp,hc'.r1,λq hq=>⟨.slice none 0 0,by simp [hq],?_⟩⟩,?_,?_,by simp [St.ini],by simp [St.ini],by simp [St.ini],hc'.ne,a1,a2,a3,Nat.le_refl _⟩⟩ (hmade hx)
  ·show kP w3 c.p i;rw [hp'];exact h.ext (hmade (aE.refl _))
  ·show lH w3 (c.row m) m;rw [hr'];exact hrow0.ext (x2.trans D1)
  ·have:(St.ini m.code.length).s q=[]:=by simp [St.ini,St.s,List.getD_eq_getElem?_getD,hq]
   rw [this];exact World.ownsRow_nil _ _ _ _
  ·have:(St.ini m.code.length).has.map Value.bool=List.replicate m.code.length (.bool false):=by simp [St.ini]
   rw [this];exact hc'.r2
  ·have:(St.ini m.code.length).todo.map Value.bool=List.replicate m.code.length (.bool false):=by simp [St.ini]
   rw [this];exact hc'.r3
structure WR (w:O) (c:tU) (i:iK) (m:jN):Prop where
 box:aY w c.gb (c.cells i m)
 img:kP w c.p i
 row:lH w (c.row m) m
 loc:aN w c.loc m.locs
theorem WR.ext {w':O} {c:tU} {i:iK} {m:jN} (h:WR w c i m) (hx:aE w w'):WR w' c i m:=⟨h.box.ext hx,h.img.ext hx,h.row.ext hx,h.loc.ext hx⟩
theorem Wk.wr {c:tU} {st:St} (h:Wk w0 w c i m st):WR w c i m:=⟨h.boxed,h.imgAt,h.rowAt,h.locAt⟩
theorem WR.code {c:tU} {i:iK} {m:jN} (h:WR w c i m):lT w c.cv m.code:=by
 obtain ⟨pv,lv,cv,e,_,_,hc⟩:=h.row;simp only [tU.row,List.cons.injEq] at e;obtain ⟨_,_,_,rfl,_⟩:=e;exact hc
theorem fS {v:Y} (h:K v w):aC prog 202 #[v] w K:=by
 apply aVg;unfold OJ;exact h
theorem zI {r:Int} (hk:∀ v w',aN w' v (mL r)->aE w w'->K v w'):aC prog 203 #[i64 r] w K:=by
 apply aVf;unfold OI;refine aH.2 (aB (λh=>?_) λh=>?_)
 ·refine hk _ _ ?_ (aE.refl _);rw [mL,if_pos h];exact aA.nil _ _
 ·refine jX bB [i64 r] rfl rfl (by simp) rfl λv w1 ho x1=>fS (hk _ _ ?_ x1);rw [mL,if_neg h];exact aA.of_own ho
theorem aPq {l:List Int} (ht:aN w tv l) (hl:3<=l.length) (hk:∀ w',aE w w'->K (i64 (AH l)) w'):aC prog 209 #[tv] w K:=by
 apply aUz;unfold OB;unfold AH at hk;refine lV aQ aG ht (by omega) (by omega) (cK (j:=1) (lL (by omega))) (sK ?_);cases hz:fR (cI l 1) with
 | true=>
  rw [hz] at hk;refine bJ.2 ?_;exact lV aQ aG ht (by omega) (by omega) (cK (j:=1) (lL (by omega))) (hk _ (aE.refl _))
 | false=>
  rw [hz] at hk;refine aP.2 ?_;have D1:aE w w.drew:=(aE.refl _).drew;refine aK.mk' (λw'=>aE w w') D1 ?_;refine oE aQ aG ht (λ_ h=>h) (by omega) (by omega) (cK (j:=0) (lL (by omega))) ?_;refine oE aQ aG ht (λ_ h=>h) (by omega) (by omega) (cK (j:=1) (lL (by omega))) ?_;refine oE aQ aG ht (λ_ h=>h) (by omega) (by omega) (cK (j:=2) (lL (by omega))) ?_;exact yM ⟨D1,yM ⟨D1,hk _ D1⟩⟩
theorem yP (h:BE i m x):(aT i m x).length<=5:=by
 obtain ⟨op,a,b⟩:=x;obtain ⟨ir,mr,⟨ho,a1,a2,_⟩,hn⟩:=h;by_cases c1:op=37
 ·subst c1;have:((i.meth a).params.length:Int)<=4:=(ir.2.2.1.2.1 _ (iK.meth_mem a1 hn)).1.2;have e:aT i m ⟨37,a,b⟩=(i.meth a).params:=rfl;rw [e];omega
 by_cases c2:op=38
 ·subst c2;have:((i.imp a).params.length:Int)<=4:=(ir.2.1.2 _ (iK.imp_mem a1 hn)).2.1.2;have e:aT i m ⟨38,a,b⟩=(i.imp a).params:=rfl;rw [e];omega
 by_cases c3:op=39
 ·subst c3;have e:aT i m ⟨39,a,b⟩=mL m.result:=rfl;rw [e];have:=DA m.result;omega
 have ho:1<=op/\op<=39:=ho;rcases BB ho with rfl|rfl|rfl|rfl|rfl|rfl|rfl|rfl|rfl|rfl|rfl|rfl|rfl|rfl|rfl|rfl|rfl|rfl|rfl|rfl|rfl|rfl|rfl|rfl|rfl|rfl|rfl|rfl|rfl|rfl|rfl|rfl|rfl|rfl|rfl|rfl|rfl|rfl|rfl<;>first|contradiction|(simp [aT,kH];done)
theorem aGg {c:tU} (h:WR w c i m) (hx:x.right) :
  aC prog 115 #[.pointer (some ⟨c.gb,0,none⟩),.agg #[i64 x.op,i64 x.a,i64 x.b]] w (cR (fD i m x) w):=by
 obtain ⟨op,a,b⟩:=x;obtain ⟨ho,a1,a2,_⟩:=hx;apply aYs;suffices key:∀ R:Y->O->Prop,(∀ v w',cR (fD i m ⟨op,a,b⟩) w v w'->R v w')->FJ (.pointer (some ⟨c.gb,0,none⟩)) (.agg #[i64 op,i64 a,i64 b]) w R from key _ λ_ _ h=>h;intro R hR;unfold FJ;refine bx λb3 w3 hb3 x3=>?_;have h':=h.ext x3;have D1:aE w3 w3.drew:=(aE.refl _).drew;have xd:=x3.trans D1;obtain ⟨mcs,hms⟩:=h'.img.mt.sl;obtain ⟨ics,hims⟩:=h'.img.im.sl;refine bC hb3 bH aG rfl ?_;by_cases c1:op=2\/op=3
 ·have hs:fD i m ⟨op,a,b⟩↔a < (m.locs.length:Int):=by unfold fD;dsimp only;rw [if_pos c1]
  rcases c1 with rfl|rfl
  all_goals
   simp only [aR,Int.reduceEq];refine aK.mk' (λw'=>aE w3 w') D1 ?_;refine jG (λw' hw=>hb3.ext hw) (by first|exact dB|exact dA|exact cF|exact cZ|exact cQ|exact cP|exact cE|exact cY|exact cX|exact cW|exact cO|exact cN|exact cM|exact bV|exact cV|exact bU|exact dI|exact cU|exact cT|exact dH|exact dG|exact dL|exact dF|exact dK|exact dV|exact dU|exact eG|exact eW|exact eF|exact eE|exact eV|exact eD|exact eU|exact bR|exact dT|exact dS|exact dR|exact eC|exact dJ|exact bX|exact cD|exact eR|exact eB|exact dQ|exact cC|exact dP|exact eZ|exact dO|exact fL|exact eQ|exact aZ|exact eO|exact cB|exact eA|exact eN|exact fK|exact cS|exact fI|exact gD|exact fU|exact iD|exact iU|exact dN|exact gC|exact iT|exact gW|exact gV|exact gU|exact iC|exact iB|exact gA|exact bQ|exact fT|exact fZ|exact dZ|exact dY|exact kC|exact kB|exact kZ|exact jI|exact fH|exact bP|exact kF|exact kY|exact gK|exact eI|exact dM|exact fW|exact kX|exact cG|exact nN|exact oP|exact lS|exact lR|exact nM|exact pU|exact lQ|exact mH|exact mG|exact lP|exact qN|exact nA|exact mF|exact qM|exact bH|exact bD) (by first|exact gZ|exact gJ|exact gY|exact iR|exact kK|exact iQ|exact iP|exact iO|exact bF|exact jF|exact iN|exact dE|exact aG) rfl ⟨.inl ⟨_,rfl⟩,?_⟩
   refine jG (λw' hw=>h'.box.ext hw) (by first|exact dB|exact dA|exact cF|exact cZ|exact cQ|exact cP|exact cE|exact cY|exact cX|exact cW|exact cO|exact cN|exact cM|exact bV|exact cV|exact bU|exact dI|exact cU|exact cT|exact dH|exact dG|exact dL|exact dF|exact dK|exact dV|exact dU|exact eG|exact eW|exact eF|exact eE|exact eV|exact eD|exact eU|exact bR|exact dT|exact dS|exact dR|exact eC|exact dJ|exact bX|exact cD|exact eR|exact eB|exact dQ|exact cC|exact dP|exact eZ) (by first|exact gZ|exact gJ|exact gY|exact iR|exact kK|exact iQ|exact iP|exact iO|exact bF) rfl (sS aQ h'.loc (aBc ?_));exact hR _ _ ⟨_,rfl,decide_eq_true_iff.trans hs.symm,xd⟩
 by_cases c2:op=33\/op=34
 ·have hs:fD i m ⟨op,a,b⟩↔a < (i.fields.length:Int):=by unfold fD;dsimp only;rw [if_neg c1,if_pos c2]
  rcases c2 with rfl|rfl
  all_goals
   simp only [aR,Int.reduceEq];refine aK.mk' (λw'=>aE w3 w') D1 ?_;refine jG (λw' hw=>hb3.ext hw) (by first|exact dB|exact dA|exact cF|exact cZ|exact cQ|exact cP|exact cE|exact cY|exact cX|exact cW|exact cO|exact cN|exact cM|exact bV|exact cV|exact bU|exact dI|exact cU|exact cT|exact dH|exact dG|exact dL|exact dF|exact dK|exact dV|exact dU|exact eG|exact eW|exact eF|exact eE|exact eV|exact eD|exact eU|exact bR|exact dT|exact dS|exact dR|exact eC|exact dJ|exact bX|exact cD|exact eR|exact eB|exact dQ|exact cC|exact dP|exact eZ|exact dO|exact fL|exact eQ|exact aZ|exact eO|exact cB|exact eA|exact eN|exact fK|exact cS|exact fI|exact gD|exact fU|exact iD|exact iU|exact dN|exact gC|exact iT|exact gW|exact gV|exact gU|exact iC|exact iB|exact gA|exact bQ|exact fT|exact fZ|exact dZ|exact dY|exact kC|exact kB|exact kZ|exact jI|exact fH|exact bP|exact kF|exact kY|exact gK|exact eI|exact dM|exact fW|exact kX|exact cG|exact nN|exact oP|exact lS|exact lR|exact nM|exact pU|exact lQ|exact mH|exact mG|exact lP|exact qN|exact nA|exact mF|exact qM|exact bH|exact bD) (by first|exact gZ|exact gJ|exact gY|exact iR|exact kK|exact iQ|exact iP|exact iO|exact bF|exact jF|exact iN|exact dE|exact aG) rfl ⟨.inl ⟨_,rfl⟩,?_⟩
   refine yF2 (λw' hw=>h'.box.ext hw) (by first|exact dB|exact dA|exact cF|exact cZ|exact cQ|exact cP|exact cE|exact cY|exact cX|exact cW|exact cO|exact cN|exact cM|exact bV|exact cV|exact bU|exact dI|exact cU|exact cT|exact dH|exact dG|exact dL|exact dF|exact dK|exact dV|exact dU|exact eG|exact eW|exact eF|exact eE|exact eV|exact eD|exact eU|exact bR|exact dT|exact dS|exact dR|exact eC|exact dJ|exact bX|exact cD|exact eR|exact eB|exact dQ|exact cC) (by first|exact dB|exact dA|exact cF|exact cZ|exact cQ|exact cP|exact cE|exact cY|exact cX|exact cW|exact cO|exact cN|exact cM|exact bV|exact cV|exact bU|exact dI|exact cU|exact cT|exact dH|exact dG|exact dL|exact dF|exact dK|exact dV|exact dU|exact eG|exact eW|exact eF|exact eE|exact eV|exact eD|exact eU|exact bR|exact dT|exact dS|exact dR|exact eC|exact dJ|exact bX|exact cD|exact eR|exact eB|exact dQ|exact cC|exact dP|exact eZ|exact dO|exact fL|exact eQ|exact aZ|exact eO|exact cB|exact eA|exact eN|exact fK|exact cS|exact fI|exact gD|exact fU|exact iD|exact iU|exact dN|exact gC|exact iT|exact gW|exact gV|exact gU|exact iC|exact iB|exact gA|exact bQ|exact fT|exact fZ|exact dZ|exact dY|exact kC|exact kB|exact kZ|exact jI) (by first|exact gZ|exact gJ|exact gY|exact iR|exact kK|exact iQ|exact iP|exact iO|exact bF) rfl (sS aQ h'.img.fl (aBc ?_));exact hR _ _ ⟨_,rfl,decide_eq_true_iff.trans hs.symm,xd⟩
 by_cases c3:op=37
 ·have hs:fD i m ⟨op,a,b⟩↔a < (i.methods.length:Int):=by unfold fD;dsimp only;rw [if_neg c1,if_neg c2,if_pos c3]
  subst c3;simp only [aR,Int.reduceEq];refine aK.mk' (λw'=>aE w3 w') D1 ?_;refine jG (λw' hw=>hb3.ext hw) bD aG rfl ⟨.inl ⟨_,rfl⟩,?_⟩;refine yF2 (λw' hw=>h'.box.ext hw) cC bP dE rfl (sS gO hms (aBc ?_));exact hR _ _ ⟨_,rfl,decide_eq_true_iff.trans hs.symm,xd⟩
 by_cases c4:op=38
 ·have hs:fD i m ⟨op,a,b⟩↔a < (i.imports.length:Int):=by unfold fD;dsimp only;rw [if_neg c1,if_neg c2,if_neg c3,if_pos c4]
  subst c4;simp only [aR,Int.reduceEq];refine aK.mk' (λw'=>aE w3 w') D1 ?_;refine jG (λw' hw=>hb3.ext hw) bD aG rfl ⟨.inl ⟨_,rfl⟩,?_⟩;refine yF2 (λw' hw=>h'.box.ext hw) cC fH iN rfl (sS nQ hims (aBc ?_));exact hR _ _ ⟨_,rfl,decide_eq_true_iff.trans hs.symm,xd⟩
 by_cases c5:op=23\/op=24
 ·have hs:fD i m ⟨op,a,b⟩↔a < (m.code.length:Int):=by unfold fD;dsimp only;rw [if_neg c1,if_neg c2,if_neg c3,if_neg c4,if_pos c5]
  rcases c5 with rfl|rfl
  all_goals
   simp only [aR,Int.reduceEq];refine aK.mk' (λw'=>aE w3 w') D1 ?_;refine jG (λw' hw=>hb3.ext hw) (by first|exact dB|exact dA|exact cF|exact cZ|exact cQ|exact cP|exact cE|exact cY|exact cX|exact cW|exact cO|exact cN|exact cM|exact bV|exact cV|exact bU|exact dI|exact cU|exact cT|exact dH|exact dG|exact dL|exact dF|exact dK|exact dV|exact dU|exact eG|exact eW|exact eF|exact eE|exact eV|exact eD|exact eU|exact bR|exact dT|exact dS|exact dR|exact eC|exact dJ|exact bX|exact cD|exact eR|exact eB|exact dQ|exact cC|exact dP|exact eZ|exact dO|exact fL|exact eQ|exact aZ|exact eO|exact cB|exact eA|exact eN|exact fK|exact cS|exact fI|exact gD|exact fU|exact iD|exact iU|exact dN|exact gC|exact iT|exact gW|exact gV|exact gU|exact iC|exact iB|exact gA|exact bQ|exact fT|exact fZ|exact dZ|exact dY|exact kC|exact kB|exact kZ|exact jI|exact fH|exact bP|exact kF|exact kY|exact gK|exact eI|exact dM|exact fW|exact kX|exact cG|exact nN|exact oP|exact lS|exact lR|exact nM|exact pU|exact lQ|exact mH|exact mG|exact lP|exact qN|exact nA|exact mF|exact qM|exact bH|exact bD) (by first|exact gZ|exact gJ|exact gY|exact iR|exact kK|exact iQ|exact iP|exact iO|exact bF|exact jF|exact iN|exact dE|exact aG) rfl ⟨.inl ⟨_,rfl⟩,?_⟩
   refine yF2 (λw' hw=>h'.box.ext hw) (by first|exact dB|exact dA|exact cF|exact cZ|exact cQ|exact cP|exact cE|exact cY|exact cX|exact cW|exact cO|exact cN|exact cM|exact bV|exact cV|exact bU|exact dI|exact cU|exact cT|exact dH|exact dG|exact dL|exact dF|exact dK|exact dV|exact dU|exact eG|exact eW|exact eF|exact eE|exact eV|exact eD|exact eU|exact bR|exact dT|exact dS|exact dR|exact eC|exact dJ|exact bX|exact cD|exact eR|exact eB|exact dQ|exact cC|exact dP) (by first|exact dB|exact dA|exact cF|exact cZ|exact cQ|exact cP|exact cE|exact cY|exact cX|exact cW|exact cO|exact cN|exact cM|exact bV|exact cV|exact bU|exact dI|exact cU|exact cT|exact dH|exact dG|exact dL|exact dF|exact dK|exact dV|exact dU|exact eG|exact eW|exact eF|exact eE|exact eV|exact eD|exact eU|exact bR|exact dT|exact dS|exact dR|exact eC|exact dJ|exact bX|exact cD|exact eR|exact eB|exact dQ|exact cC|exact dP|exact eZ|exact dO|exact fL|exact eQ|exact aZ|exact eO|exact cB|exact eA|exact eN|exact fK|exact cS|exact fI|exact gD|exact fU|exact iD|exact iU|exact dN|exact gC|exact iT|exact gW|exact gV|exact gU|exact iC|exact iB|exact gA|exact bQ|exact fT|exact fZ|exact dZ|exact dY|exact kC|exact kB|exact kZ|exact jI|exact fH|exact bP|exact kF|exact kY|exact gK|exact eI|exact dM|exact fW|exact kX|exact cG) (by first|exact gZ|exact gJ|exact gY|exact iR|exact kK|exact iQ|exact iP|exact iO|exact bF|exact jF|exact iN|exact dE|exact aG|exact lF|exact iM) rfl (sS jY h'.code (aBc ?_));exact hR _ _ ⟨_,rfl,decide_eq_true_iff.trans hs.symm,xd⟩
 ·have hs:fD i m ⟨op,a,b⟩:=by unfold fD;dsimp only;rw [if_neg c1,if_neg c2,if_neg c3,if_neg c4,if_neg c5];trivial
  simp only [not_or] at c1 c2 c5;simp only [c1.1,c1.2,c2.1,c2.2,c3,c4,c5.1,c5.2,aR];exact hR _ _ (cR.yes hs x3)
theorem CL {c:tU} (h:WR w c i m) (hx:BE i m x) (hk:∀ v w',aN w' v (aT i m x)->aE w w'->K v w') :
  aC prog 170 #[.pointer (some ⟨c.gb,0,none⟩),.agg #[i64 x.op,i64 x.a,i64 x.b]] w K:=by
 obtain ⟨op,a,b⟩:=x;obtain ⟨ir,mr,⟨ho,a1,a2,_⟩,hn⟩:=hx;apply aWn;unfold PL;refine bx λb3 w3 hb3 x3=>?_;have h':=h.ext x3;refine bC hb3 bH aG rfl ?_;rcases BB ho with rfl|rfl|rfl|rfl|rfl|rfl|rfl|rfl|rfl|rfl|rfl|rfl|rfl|rfl|rfl|rfl|rfl|rfl|rfl|rfl|rfl|rfl|rfl|rfl|rfl|rfl|rfl|rfl|rfl|rfl|rfl|rfl|rfl|rfl|rfl|rfl|rfl|rfl|rfl<;>simp only [aR,Int.reduceEq,Int.reduceNeg]
 iterate 2
  ·exact hk _ _ (aA.nil _ _) x3
 ·have a1:0<=a:=a1;obtain ⟨k,rfl⟩:∃ k:Nat,a=k:=⟨a.toNat,by omega⟩;have ha:(k:Int) < (m.locs.length:Int):=hn;have D1:aE w3 w3.drew:=(aE.refl _).drew;refine aK.mk' (λw'=>aE w3 w') D1 ⟨.inl ⟨_,rfl⟩,?_⟩;refine jG (λw' hw=>h'.box.ext hw) eZ bF rfl ?_;refine jG (λw' hw=>hb3.ext hw) bD aG rfl ?_;refine oE aQ aG h'.loc (λ_ h=>h) (by omega) (by omega) (cK (fG (by omega))) ?_;refine jX bB [i64 (m.locs.getD k 0)] rfl rfl (by simp) rfl λv w4 ho x4=>⟨D1.trans x4,fS ⟨D1.trans x4,hk _ _ (aA.of_own ho) ((x3.trans D1).trans x4)⟩⟩
 iterate 2
  ·refine jX bB [i64 (-1)] rfl rfl (by simp) rfl λv w4 ho x4=>fS (hk _ _ (aA.of_own ho) (x3.trans x4))
 iterate 9
  ·refine jX bB [i64 (-2),i64 (-2)] rfl rfl (by simp) rfl λv w4 ho x4=>fS (hk _ _ (aA.of_own ho) (x3.trans x4))
 iterate 2
  ·refine jX bB [i64 (-2)] rfl rfl (by simp) rfl λv w4 ho x4=>fS (hk _ _ (aA.of_own ho) (x3.trans x4))
 iterate 2
  ·refine jX bB [i64 (-3),i64 (-3)] rfl rfl (by simp) rfl λv w4 ho x4=>fS (hk _ _ (aA.of_own ho) (x3.trans x4))
 iterate 3
  ·refine jX bB [i64 (-2),i64 (-2)] rfl rfl (by simp) rfl λv w4 ho x4=>fS (hk _ _ (aA.of_own ho) (x3.trans x4))
 ·refine jX bB [i64 (-2),i64 (-1),i64 (-1)] rfl rfl (by simp) rfl λv w4 ho x4=>fS (hk _ _ (aA.of_own ho) (x3.trans x4))
 ·exact hk _ _ (aA.nil _ _) x3
 ·refine jX bB [i64 (-3)] rfl rfl (by simp) rfl λv w4 ho x4=>fS (hk _ _ (aA.of_own ho) (x3.trans x4))
 ·exact hk _ _ (aA.nil _ _) x3
 ·refine jX bB [i64 (-4)] rfl rfl (by simp) rfl λv w4 ho x4=>fS (hk _ _ (aA.of_own ho) (x3.trans x4))
 ·refine jX bB [i64 (-3)] rfl rfl (by simp) rfl λv w4 ho x4=>fS (hk _ _ (aA.of_own ho) (x3.trans x4))
 ·refine jX bB [i64 (-4)] rfl rfl (by simp) rfl λv w4 ho x4=>fS (hk _ _ (aA.of_own ho) (x3.trans x4))
 ·refine jX bB [i64 (-4),i64 (-3)] rfl rfl (by simp) rfl λv w4 ho x4=>fS (hk _ _ (aA.of_own ho) (x3.trans x4))
 ·refine jX bB [i64 (-4),i64 (-3),i64 (-2)] rfl rfl (by simp) rfl λv w4 ho x4=>fS (hk _ _ (aA.of_own ho) (x3.trans x4))
 iterate 2
  ·refine jX bB [i64 (-4),i64 (-3),i64 (-4),i64 (-3),i64 (-3)] rfl rfl (by simp) rfl λv w4 ho x4=>fS (hk _ _ (aA.of_own ho) (x3.trans x4))
 ·exact hk _ _ (aA.nil _ _) x3
 ·have a1:0<=a:=a1;obtain ⟨k,rfl⟩:∃ k:Nat,a=k:=⟨a.toNat,by omega⟩;have ha:(k:Int) < (i.fields.length:Int):=hn;have D1:aE w3 w3.drew:=(aE.refl _).drew;refine aK.mk' (λw'=>aE w3 w') D1 ⟨.inl ⟨_,rfl⟩,?_⟩;refine yF2 (λw' hw=>h'.box.ext hw) cC jI bF rfl ?_;refine jG (λw' hw=>hb3.ext hw) bD aG rfl ?_;refine oE aQ aG h'.img.fl (λ_ h=>h) (by omega) (by omega) (cK (fG (by omega))) ?_;refine jX bB [i64 (i.fields.getD k 0)] rfl rfl (by simp) rfl λv w4 ho x4=>⟨D1.trans x4,fS ⟨D1.trans x4,hk _ _ (aA.of_own ho) ((x3.trans D1).trans x4)⟩⟩
 ·exact hk _ _ (aA.nil _ _) x3
 ·refine jX bB [i64 (-4),i64 (-3),i64 (-3)] rfl rfl (by simp) rfl λv w4 ho x4=>fS (hk _ _ (aA.of_own ho) (x3.trans x4))
 ·have a1:0<=a:=a1;obtain ⟨k,rfl⟩:∃ k:Nat,a=k:=⟨a.toNat,by omega⟩;have ha:(k:Int) < (i.methods.length:Int):=hn;have D1:aE w3 w3.drew:=(aE.refl _).drew;refine aK.mk' (λw'=>aE w3 w') D1 ⟨.inl ⟨_,rfl⟩,?_⟩;refine yF2 (λw' hw=>h'.box.ext hw) cC bP dE rfl ?_;refine jG (λw' hw=>hb3.ext hw) bD aG rfl ?_;have hmi:=fY a1 hn;simp only [Int.toNat_natCast] at hmi;refine ySF gO dM bF h'.img.mt (λ_ h=>h) hmi λrow hrow=>?_;obtain ⟨pv9,lv9,cv9,rfl,hp9,_,_⟩:=hrow;exact ⟨pv9,rfl,by decide,hk _ _ (hp9.ext D1) (x3.trans D1)⟩
 ·have a1:0<=a:=a1;obtain ⟨k,rfl⟩:∃ k:Nat,a=k:=⟨a.toNat,by omega⟩;have ha:(k:Int) < (i.imports.length:Int):=hn;have D1:aE w3 w3.drew:=(aE.refl _).drew;refine aK.mk' (λw'=>aE w3 w') D1 ⟨.inl ⟨_,rfl⟩,?_⟩;refine yF2 (λw' hw=>h'.box.ext hw) cC fH iN rfl ?_;refine jG (λw' hw=>hb3.ext hw) bD aG rfl ?_;have hmi:=tE a1 hn;simp only [Int.toNat_natCast] at hmi;refine ySF nQ bX bF h'.img.im (λ_ h=>h) hmi λrow hrow=>?_;obtain ⟨pv9,rfl,hp9⟩:=hrow;exact ⟨pv9,rfl,by decide,hk _ _ (hp9.ext D1) (x3.trans D1)⟩
 ·refine ⟨.inl ⟨_,rfl⟩,?_⟩;refine aQj h'.box dP fW aG rfl ?_;exact zI λv w4 hv x4=>hk _ _ hv (x3.trans x4)
theorem MR {c:tU} {l:List Int} (h:WR w c i m) (hx:BE i m x) (ht:aN w tv l) (hln:(aT i m x).length<=l.length) (hk:∀ v w',aN w' v (iX i m x l)->aE w w'->K v w') :
  aC prog 174 #[.pointer (some ⟨c.gb,0,none⟩),.agg #[i64 x.op,i64 x.a,i64 x.b],tv] w K:=by
 obtain ⟨op,a,b⟩:=x;obtain ⟨ir,mr,⟨ho,a1,a2,_⟩,hn⟩:=hx;apply aWj;unfold PH;refine bx λb3 w3 hb3 x3=>?_;have h':=h.ext x3;refine bC hb3 bH aG rfl ?_;rcases BB ho with rfl|rfl|rfl|rfl|rfl|rfl|rfl|rfl|rfl|rfl|rfl|rfl|rfl|rfl|rfl|rfl|rfl|rfl|rfl|rfl|rfl|rfl|rfl|rfl|rfl|rfl|rfl|rfl|rfl|rfl|rfl|rfl|rfl|rfl|rfl|rfl|rfl|rfl|rfl<;>simp only [aR,Int.reduceEq]
 ·refine jX bB [i64 (1)] rfl rfl (by simp) rfl λv w4 ho x4=>fS (hk _ _ (aA.of_own ho) (x3.trans x4))
 ·have a1:0<=a:=a1;obtain ⟨k,rfl⟩:∃ k:Nat,a=k:=⟨a.toNat,by omega⟩;have ha:(k:Int) < (m.locs.length:Int):=hn;have D1:aE w3 w3.drew:=(aE.refl _).drew;refine aK.mk' (λw'=>aE w3 w') D1 ⟨.inl ⟨_,rfl⟩,?_⟩;refine jG (λw' hw=>h'.box.ext hw) eZ bF rfl ?_;refine jG (λw' hw=>hb3.ext hw) bD aG rfl ?_;refine oE aQ aG h'.loc (λ_ h=>h) (by omega) (by omega) (cK (fG (by omega))) ?_;refine jX bB [i64 (m.locs.getD k 0)] rfl rfl (by simp) rfl λv w4 ho x4=>⟨D1.trans x4,fS ⟨D1.trans x4,hk _ _ (aA.of_own ho) ((x3.trans D1).trans x4)⟩⟩
 iterate 2
  ·exact hk _ _ (aA.nil _ _) x3
 ·have hl1:1<=l.length:=hln;have D1:aE w3 w3.drew:=(aE.refl _).drew;refine aK.mk' (λw'=>aE w3 w') D1 ?_;refine oE aQ aG (ht.ext x3) (λ_ h=>h) (by omega) (by omega) (cK (j:=0) (lL (by omega))) ?_;refine oE aQ aG (ht.ext x3) (λ_ h=>h) (by omega) (by omega) (cK (j:=0) (lL (by omega))) ?_;refine jX bB [i64 (cI l 0),i64 (cI l 0)] rfl rfl (by simp) rfl λv w4 ho x4=>⟨D1.trans x4,fS ⟨D1.trans x4,hk _ _ (aA.of_own ho) ((x3.trans D1).trans x4)⟩⟩
 iterate 9
  ·have hl1:2<=l.length:=hln;have D1:aE w3 w3.drew:=(aE.refl _).drew;refine aK.mk' (λw'=>aE w3 w') D1 ?_;refine oE aQ aG (ht.ext x3) (λ_ h=>h) (by omega) (by omega) (cK (j:=0) (lL (by omega))) ?_;refine oE aQ aG (ht.ext x3) (λ_ h=>h) (by omega) (by omega) (cK (j:=1) (lL (by omega))) ?_;refine yM ⟨D1,?_⟩;refine jX bB [i64 (rF (cI l 0) (cI l 1))] rfl rfl (by simp) rfl λv w4 ho x4=>⟨D1.trans x4,fS ⟨D1.trans x4,hk _ _ (aA.of_own ho) ((x3.trans D1).trans x4)⟩⟩
 iterate 2
  ·have hl1:1<=l.length:=hln;refine lV aQ aG (ht.ext x3) (by omega) (by omega) (cK (j:=0) (lL (by omega))) ?_;refine jX bB [i64 (cI l 0)] rfl rfl (by simp) rfl λv w4 ho x4=>fS (hk _ _ (aA.of_own ho) (x3.trans x4))
 iterate 2
  ·refine jX bB [i64 (1)] rfl rfl (by simp) rfl λv w4 ho x4=>fS (hk _ _ (aA.of_own ho) (x3.trans x4))
 iterate 3
  ·have hl1:2<=l.length:=hln;have D1:aE w3 w3.drew:=(aE.refl _).drew;refine aK.mk' (λw'=>aE w3 w') D1 ?_;refine oE aQ aG (ht.ext x3) (λ_ h=>h) (by omega) (by omega) (cK (j:=0) (lL (by omega))) ?_;refine oE aQ aG (ht.ext x3) (λ_ h=>h) (by omega) (by omega) (cK (j:=1) (lL (by omega))) ?_;refine yM ⟨D1,?_⟩;refine jX bB [i64 (rF (cI l 0) (cI l 1))] rfl rfl (by simp) rfl λv w4 ho x4=>⟨D1.trans x4,fS ⟨D1.trans x4,hk _ _ (aA.of_own ho) ((x3.trans D1).trans x4)⟩⟩
 ·have hl1:3<=l.length:=hln;refine aPq (ht.ext x3) hl1 λw5 x5=>?_;refine jX bB [i64 (AH l)] rfl rfl (by simp) rfl λv w4 ho x4=>fS (hk _ _ (aA.of_own ho) ((x3.trans x5).trans x4))
 iterate 2
  ·exact hk _ _ (aA.nil _ _) x3
 ·refine bC hb3 bD aG rfl ?_;refine jX bB [i64 (a)] rfl rfl (by simp) rfl λv w4 ho x4=>fS (hk _ _ (aA.of_own ho) (x3.trans x4))
 ·refine jX bB [i64 (1)] rfl rfl (by simp) rfl λv w4 ho x4=>fS (hk _ _ (aA.of_own ho) (x3.trans x4))
 ·refine bC hb3 bD aG rfl ?_;refine jX bB [i64 (a)] rfl rfl (by simp) rfl λv w4 ho x4=>fS (hk _ _ (aA.of_own ho) (x3.trans x4))
 ·refine jX bB [i64 (1)] rfl rfl (by simp) rfl λv w4 ho x4=>fS (hk _ _ (aA.of_own ho) (x3.trans x4))
 ·have hl1:2<=l.length:=hln;refine lV aQ aG (ht.ext x3) (by omega) (by omega) (cK (j:=0) (lL (by omega))) ?_;refine bJa ?_;refine jX bB [i64 (ofK (cI l 0))] rfl rfl (by simp) rfl λv w4 ho x4=>fS (hk _ _ (aA.of_own ho) (x3.trans x4))
 iterate 2
  ·exact hk _ _ (aA.nil _ _) x3
 ·have hl1:5<=l.length:=hln;have e:∀ v w',aN w' v (if cI l 0=4\/cI l 2=4 then [2] else [1])->aE w w'->K v w':=hk;refine lV aQ aG (ht.ext x3) (by omega) (by omega) (cK (j:=0) (lL (by omega))) ?_;refine aH.2 ?_;by_cases z0:cI l 0=4
  ·simp only [z0,true_or,aR] at e ⊢;refine jX bB [i64 (2)] rfl rfl (by simp) rfl λv w4 ho x4=>fS (e _ _ (aA.of_own ho) (x3.trans x4))
  ·simp only [z0,aR];refine lV aQ aG (ht.ext x3) (by omega) (by omega) (cK (j:=2) (lL (by omega))) ?_;refine aH.2 ?_;by_cases z2:cI l 2=4
   ·simp only [z2,or_true,aR] at e ⊢;refine jX bB [i64 (2)] rfl rfl (by simp) rfl λv w4 ho x4=>fS (e _ _ (aA.of_own ho) (x3.trans x4))
   ·simp only [z0,z2,or_self,aR] at e ⊢;refine jX bB [i64 (1)] rfl rfl (by simp) rfl λv w4 ho x4=>fS (e _ _ (aA.of_own ho) (x3.trans x4))
 ·have a1:0<=a:=a1;obtain ⟨k,rfl⟩:∃ k:Nat,a=k:=⟨a.toNat,by omega⟩;have ha:(k:Int) < (i.fields.length:Int):=hn;have D1:aE w3 w3.drew:=(aE.refl _).drew;refine aK.mk' (λw'=>aE w3 w') D1 ⟨.inl ⟨_,rfl⟩,?_⟩;refine yF2 (λw' hw=>h'.box.ext hw) cC jI bF rfl ?_;refine jG (λw' hw=>hb3.ext hw) bD aG rfl ?_;refine oE aQ aG h'.img.fl (λ_ h=>h) (by omega) (by omega) (cK (fG (by omega))) ?_;refine jX bB [i64 (i.fields.getD k 0)] rfl rfl (by simp) rfl λv w4 ho x4=>⟨D1.trans x4,fS ⟨D1.trans x4,hk _ _ (aA.of_own ho) ((x3.trans D1).trans x4)⟩⟩
 ·exact hk _ _ (aA.nil _ _) x3
 ·have a1:1<=a:=a1;have a2:a<=2:=a2;refine bC hb3 bD aG rfl (bA.2 ?_);rw [lI (by dsimp only;omega) (by dsimp only;omega)];refine eY.2 ?_;rw [lI (by dsimp only;omega) (by dsimp only;omega)];refine jX bB [i64 (3+a - 1)] rfl rfl (by simp) rfl λv w4 ho x4=>fS (hk _ _ (aA.of_own ho) (x3.trans x4))
 ·exact hk _ _ (aA.nil _ _) x3
 ·have a1:0<=a:=a1;obtain ⟨k,rfl⟩:∃ k:Nat,a=k:=⟨a.toNat,by omega⟩;have ha:(k:Int) < (i.methods.length:Int):=hn;have D1:aE w3 w3.drew:=(aE.refl _).drew;refine aK.mk' (λw'=>aE w3 w') D1 ⟨.inl ⟨_,rfl⟩,?_⟩;refine yF2 (λw' hw=>h'.box.ext hw) cC bP dE rfl ?_;refine jG (λw' hw=>hb3.ext hw) bD aG rfl ?_;have hmi:=fY a1 hn;simp only [Int.toNat_natCast] at hmi;refine ySF gO fW aG h'.img.mt (λ_ h=>h) hmi λrow hrow=>?_;obtain ⟨pv9,lv9,cv9,rfl,_,_,_⟩:=hrow;refine ⟨i64 (i.meth (k:Int)).result,rfl,by decide,?_⟩;exact zI λv w4 hv x4=>⟨D1.trans x4,hk _ _ hv ((x3.trans D1).trans x4)⟩
 ·have a1:0<=a:=a1;obtain ⟨k,rfl⟩:∃ k:Nat,a=k:=⟨a.toNat,by omega⟩;have ha:(k:Int) < (i.imports.length:Int):=hn;have D1:aE w3 w3.drew:=(aE.refl _).drew;refine aK.mk' (λw'=>aE w3 w') D1 ⟨.inl ⟨_,rfl⟩,?_⟩;refine yF2 (λw' hw=>h'.box.ext hw) cC fH iN rfl ?_;refine jG (λw' hw=>hb3.ext hw) bD aG rfl ?_;have hmi:=tE a1 hn;simp only [Int.toNat_natCast] at hmi;refine ySF nQ cD aG h'.img.im (λ_ h=>h) hmi λrow hrow=>?_;obtain ⟨pv9,rfl,_⟩:=hrow;refine ⟨i64 (i.imp (k:Int)).result,rfl,by decide,?_⟩;exact zI λv w4 hv x4=>⟨D1.trans x4,hk _ _ hv ((x3.trans D1).trans x4)⟩
 ·exact hk _ _ (aA.nil _ _) x3
end Go.Proofs.YtjcmcfidblhnnaaGreatDoor
namespace Go.Tc
theorem ER:∀ {t l:List Int} {j:Nat},(∀ q,q < j->q < t.length->tQ (cI l q) (cI t q)=true)->t.length<=j->jS t l=true
 | [],_,_,_,_=>rfl
 | _::_,[],_,_,_=>rfl
 | a::t,k::l,0,_,h=>by simp at h
 | a::t,k::l,j+1,h,hl=>by
  simp only [jS,Bool.and_eq_true];refine ⟨h 0 (by omega) (by simp),ER (j:=j) (λq hq hqt=>?_) (by simpa using hl)⟩;have:=h (q+1) (by omega) (by simpa using hqt);simpa [cI] using this
theorem aIp:∀ {t l:List Int} {q:Nat},q < t.length->t.length<=l.length->jS t l=true->tQ (cI l q) (cI t q)=true:=λh1 h2 h=>zP h1 (by omega) h
theorem AF:∀ {t l:List Int} {j:Nat} {a k:Int},t[j]?=some a->l[j]?=some k->gI (t.take (j+1)) (l.take (j+1))=(gI (t.take j) (l.take j)||vW k a)
 | [],_,_,_,_,h,_=>by simp at h
 | _::_,[],_,_,_,_,h=>by simp at h
 | a::t,k::l,0,_,_,h1,h2=>by simp at h1 h2;subst h1 h2;simp [gI]
 | a::t,k::l,j+1,_,_,h1,h2=>by
  have:=AF (t:=t) (l:=l) (j:=j) (by simpa using h1) (by simpa using h2);simp only [List.take_succ_cons,gI] at this ⊢;rw [this,Bool.or_assoc]
end Go.Tc
namespace Go.Proofs.YtjcmcfidblhnnaaGreatDoor
open Tryz
open Go.Vc Go.Tc
variable {w:O} {K:Y->O->Prop}
variable {i:iK} {m:jN} {x:kJ} {av bv tv:Y} {a:List Int}
theorem HZ (h:BE i m x):∀ a∈aT i m x,Ask a:=by
 obtain ⟨op,a,b⟩:=x;obtain ⟨ir,mr,⟨ho,a1,a2,_⟩,hn⟩:=h;have hm1:Ask (-1):=.inl rfl;have hm2:Ask (-2):=.inr (.inl rfl);have hm3:Ask (-3):=.inr (.inr (.inl rfl));have hm4:Ask (-4):=.inr (.inr (.inr (.inl rfl)));have kd:∀ {l:List Int},sA l->∀ a∈l,Ask a:=λh a ha=>.inr (.inr (.inr (.inr (h a ha))));by_cases c3:op=3
 ·subst c3;intro q hq;have e:aT i m ⟨3,a,b⟩=[m.locs.getD a.toNat 0]:=rfl;rw [e,List.mem_singleton] at hq;subst hq;have hn:a < (m.locs.length:Int):=hn;have a1:0<=a:=a1;exact .inr (.inr (.inr (.inr (sZ (JG mr) (by omega)))))
 by_cases c34:op=34
 ·subst c34;intro q hq;have e:aT i m ⟨34,a,b⟩=[i.fields.getD a.toNat 0]:=rfl;rw [e,List.mem_singleton] at hq;subst hq;have hn:a < (i.fields.length:Int):=hn;have a1:0<=a:=a1;exact .inr (.inr (.inr (.inr (sZ ir.1.1 (by omega)))))
 by_cases c1:op=37
 ·subst c1;exact kd (LY ir a1 hn)
 by_cases c2:op=38
 ·subst c2;exact kd (WP ir a1 hn)
 by_cases c4:op=39
 ·subst c4;exact kd (DB mr.2.1)
 have ho:1<=op/\op<=39:=ho;rcases BB ho with rfl|rfl|rfl|rfl|rfl|rfl|rfl|rfl|rfl|rfl|rfl|rfl|rfl|rfl|rfl|rfl|rfl|rfl|rfl|rfl|rfl|rfl|rfl|rfl|rfl|rfl|rfl|rfl|rfl|rfl|rfl|rfl|rfl|rfl|rfl|rfl|rfl|rfl|rfl<;>first|contradiction|(simp [aT,kH,hm1,hm2,hm3,hm4];done)
theorem aCu {c:tU} (h:WR w c i m) (hx:BE i m x) (hk:∀ w',aE w w'->K (i64 (hgt i m x)) w') :
  aC prog 171 #[.pointer (some ⟨c.gb,0,none⟩),.agg #[i64 x.op,i64 x.a,i64 x.b]] w K:=by
 apply aWm;unfold PK;refine bx λb3 w3 hb3 x3=>?_;refine mkB (n:=8) underlying23 bW rfl (by decide) (by decide) λw4 hB x4 _=>?_;refine iF (hb3.ext x4) iG rfl ?_
 have hz:aN w4 (.slice (some ⟨w3.heap.size,0,none⟩) 8 8) (List.replicate 8 0):=by
  have:=hB.slice (n:=8) (by simp) (by unfold maxLen;decide);exact this
 refine MR (h.ext (x3.trans x4)) hx hz (by have:=yP hx;simp;omega) λv w5 hv x5=>?_;refine fQ aQ hv ?_;rw [JX];exact hk _ ((x3.trans x4).trans x5)
theorem aHe {c:tU} {l:List Int} (h:WR w c i m) (hx:BE i m x) (ht:aN w tv l) (hl:l.length=(aT i m x).length) (hkd:sA l) (hk:∀ e w',(e=0↔mM x (aT i m x) l=true)->aE w w'->K (i64 e) w') :
  aC prog 172 #[.pointer (some ⟨c.gb,0,none⟩),.agg #[i64 x.op,i64 x.a,i64 x.b],tv] w K:=by
 have hask:=HZ hx;have hle:=yP hx;have hx0:=hx;obtain ⟨op,a,b⟩:=x;apply aWl;unfold PJ;refine bx λb3 w3 hb3 x3=>?_;refine iF hb3 iG rfl ?_;refine CL (h.ext x3) hx0 λav w4 hav x4=>?_;have x34:=x3.trans x4;have hb3:=hb3.ext x4;generalize hA:aT i m ⟨op,a,b⟩=t at hav hl hask hle hk;refine fQ aQ hav ?_;refine ⟨λv w'=>∃ j:Nat,v=i64 j/\j<=t.length/\aE w4 w'/\∀ q,q < j->q < t.length->tQ (cI l q) (cI t q)=true,λv _=>t.length - (RowKit.intOf v).toNat,⟨0,rfl,Nat.zero_le _,aE.refl _,λ_ h=>absurd h (Nat.not_lt_zero _)⟩,?_⟩;rintro _ w5 ⟨j,rfl,hj,x5,hall⟩ _;refine aW.2 (aB (λhlt=>?_) λhge=>?_)
 ·have h1:=lL (l:=t) (j:=j) (by omega);have h2:=lL (l:=l) (j:=j) (by omega);refine lV aQ aG (hav.ext x5) (by omega) (by omega) (cK h1) ?_;refine lV aQ aG ((ht.ext x34).ext x5) (by omega) (by omega) (cK h2) ?_;refine aRd (hkd _ (List.mem_of_getElem? h2)) (hask _ (List.mem_of_getElem? h1)) (dC.2 ?_);cases hd:tQ (cI l j) (cI t j) with
  | false=>
   simp only [aR];refine hk 11 _ ⟨λh=>absurd h (by decide),λh=>?_⟩ (x34.trans x5);simp only [mM,Bool.and_eq_true] at h;have:=aIp (q:=j) (by omega) (by omega) h.1;rw [hd] at this;cases this
  | true=>
   simp only [aR];refine kQ (by omega) ?_;refine ⟨⟨j+1,rfl,by omega,x5,λq hq hqt=>?_⟩,by simp only [aL];omega⟩;by_cases hqj:q=j
   ·subst hqj;exact hd
   ·exact hall q (by omega) hqt
 have hdl:jS t l=true:=ER hall (by omega);have D1:aE w5 w5.drew:=(aE.refl _).drew;have xd:=(x34.trans x5).trans D1;refine aK.mk' (λw'=>aE w5 w') D1 ?_;have htd:=(ht.ext x34).ext x5;refine jG (λw' hw=>(hb3.ext x5).ext hw) bH aG rfl (aD.ok (λw' _=>zK) ?_);by_cases h22:op=22
 ·subst h22;have hl3:l.length=3:=by rw [hl,<- hA];rfl
  have e:mM ⟨22,a,b⟩ t l=true↔(dX (cI l 1)&&dX (cI l 2)||fR (cI l 1)&&cI l 1 == cI l 2)=true:=by
   unfold mM;rw [if_pos rfl,hdl,Bool.true_and]
  simp only [aR];have yr:∀ {n L},n < l.length->L (i64 (cI l n))->aD prog (λw'=>aE w5 w') (Instr.indexAt 23 tv (i64 (n:Nat))) λp=>aD prog (λw'=>aE w5 w') (Instr.loadAt 3 p) L:=λ{n L} hn hL=>oE aQ aG htd (λ_ h=>h) (by omega) (by omega) (cK (lL hn)) hL;have arrpart:dX (cI l 1)=true/\dX (cI l 2)=true->False\/True:=λ_=>.inr trivial;refine yr (n:=1) (by omega) (xZ ⟨D1,?_⟩);cases i1:dX (cI l 1) with
  | true=>
   simp only [aR];refine yr (n:=2) (by omega) (xZ ⟨D1,aD.ok (λw' _=>xK) ?_⟩);cases i2:dX (cI l 2) with
   | true=>
    simp only [aR];refine ⟨D1,hk 0 _ ⟨λ_=>e.2 (by rw [i1,i2];rfl),λ_=>rfl⟩ xd⟩
   | false=>
    simp only [aR];refine yr (n:=1) (by omega) (sK ⟨D1,?_⟩)
    have na:fR (cI l 1)=false:=by
     have:=KR (oH hkd (n:=1) (by omega));rcases this with h|h|h|h<;>rw [h] at i1 ⊢<;>first|rfl|(exact absurd i1 (by decide))
    rw [na];simp only [aR];refine aD.ok (λw' _=>xK) ?_;simp only [aR];exact hk 11 _ ⟨λh=>absurd h (by decide),λh=>by rw [e,i1,i2,na] at h;cases h⟩ xd
  | false=>
   simp only [aR];refine ⟨D1,aD.ok (λw' _=>xK) ?_⟩;simp only [aR];refine yr (n:=1) (by omega) (sK ⟨D1,?_⟩);cases a1':fR (cI l 1) with
   | false=>
    simp only [aR];refine aD.ok (λw' _=>xK) ?_;simp only [aR];exact hk 11 _ ⟨λh=>absurd h (by decide),λh=>by rw [e,i1,a1'] at h;cases h⟩ xd
   | true=>
    simp only [aR];refine yr (n:=1) (by omega) (yr (n:=2) (by omega) (aD.ok (λw' _=>zK) (aD.ok (λw' _=>xK) ?_)));by_cases he:cI l 1=cI l 2
    ·simp only [he,aR];exact hk 0 _ ⟨λ_=>e.2 (by rw [i1,a1'];simp [he]),λ_=>rfl⟩ xd
    ·simp only [he,aR];exact hk 11 _ ⟨λh=>absurd h (by decide),λh=>by rw [e,i1,a1'] at h;simp [he] at h⟩ xd
 ·have e:mM ⟨op,a,b⟩ t l=true:=by
   unfold mM;rw [if_neg h22,hdl,Bool.true_and]
  simp only [h22,aR];exact ⟨D1,D1,D1,hk 0 _ ⟨λ_=>e,λ_=>rfl⟩ xd⟩
theorem aGv {c:tU} {l:List Int} (h:WR w c i m) (hx:BE i m x) (ht:aN w tv l) (hl:l.length=(aT i m x).length) (hkd:sA l) (hk:∀ e w',(e=0↔kE x (aT i m x) l=false)->aE w w'->K (i64 e) w') :
  aC prog 173 #[.pointer (some ⟨c.gb,0,none⟩),.agg #[i64 x.op,i64 x.a,i64 x.b],tv] w K:=by
 have hask:=HZ hx;have hle:=yP hx;have hx0:=hx;obtain ⟨op,a,b⟩:=x;apply aWk;unfold PI;refine bx λb3 w3 hb3 x3=>?_;refine iF hb3 iG rfl ?_;refine CL (h.ext x3) hx0 λav w4 hav x4=>?_;have x34:=x3.trans x4;have hb3:=hb3.ext x4;have hlen:∀ {n:Nat},aT i m ⟨op,a,b⟩=aT i m ⟨op,a,b⟩->(aT i m ⟨op,a,b⟩).length=n->l.length=n:=λ_ h=>by omega
 generalize hA:aT i m ⟨op,a,b⟩=t at hav hl hask hle hk hlen;refine fQ aQ hav ?_;refine ⟨λbv v w'=>∃ j:Nat,v=i64 j/\j<=t.length/\aE w4 w'/\bv=.bool (gI (t.take j) (l.take j)),λ_ v _=>t.length - (RowKit.intOf v).toNat,⟨0,rfl,Nat.zero_le _,aE.refl _,rfl⟩,?_⟩;rintro _ _ w5 ⟨j,rfl,hj,x5,rfl⟩ _;refine aW.2 (aB (λhlt=>?_) λhge=>?_)
 ·have h1:=lL (l:=t) (j:=j) (by omega);have h2:=lL (l:=l) (j:=j) (by omega);have es:=AF h1 h2;refine lV aQ aG (hav.ext x5) (by omega) (by omega) (cK h1) ?_;generalize gI (t.take j) (l.take j)=A at es
  have go:∀ v,v=gI (t.take (j+1)) (l.take (j+1))->V prog (binOp .add 3 (i64 j) (i64 1)) w5 λt28 w16=>
    (∃ j:Nat,t28=i64 j/\j<=t.length/\aE w4 w16/\(.bool v:Y)=.bool (gI (t.take j) (l.take j)))/\t.length - (RowKit.intOf t28).toNat < t.length - (RowKit.intOf (i64 (j:Int))).toNat:=by
   rintro _ rfl;refine kQ (by omega) ?_;exact ⟨⟨j+1,rfl,by omega,x5,rfl⟩,by simp only [aL];omega⟩
  cases A with
  | true=>simp only [aR];exact go _ (by rw [es];rfl)
  | false=>
   simp only [aR];refine lV aQ aG ((ht.ext x34).ext x5) (by omega) (by omega) (cK h2) ?_;refine aEo (hkd _ (List.mem_of_getElem? h2)) (hask _ (List.mem_of_getElem? h1)) ?_;exact go _ (by rw [es];rfl)
 have hjt:j=t.length:=by omega
 subst hjt;rw [List.take_length,<- hl,List.take_length];have x35:=x34.trans x5
 have rd:∀ {n u K},n < l.length->u=i64 (cI l n)->K u w5->V prog (Instr.indexAt 23 tv (i64 (n:Nat))) w5 λp w1=>V prog (Instr.loadAt 3 p) w1 K:=λ{n u K} hn hu hK=>by
  subst hu;exact lV aQ aG (ht.ext x35) (by omega) (by omega) (cK (lL hn)) hK
 have yes:kE ⟨op,a,b⟩ t l=false->K (i64 0) w5:=λh=>hk 0 _ ⟨λ_=>h,λ_=>rfl⟩ x35;have no:kE ⟨op,a,b⟩ t l=true->K (i64 12) w5:=λh=>hk 12 _ ⟨λh=>absurd h (by decide),λh'=>by rw [h] at h';cases h'⟩ x35
 have fin:∀ v,v=kE ⟨op,a,b⟩ t l->aI (.bool v) (K (i64 12) w5) (K (i64 0) w5):=by
  rintro _ rfl;cases hv:kE ⟨op,a,b⟩ t l with
  | true=>rw [bJ];exact no hv
  | false=>rw [aP];exact yes hv
 refine bC (hb3.ext x5) bH aG rfl ?_;generalize hS:gI t l=A;by_cases c22:op=22
 ·subst c22;have hl3:l.length=3:=by rw [hl,<- hA];rfl
  simp only [aR,Int.reduceEq];refine rd (n:=1) (by omega) rfl (sK ?_);cases hz:fR (cI l 1) with
  | false=>simp only [aR];exact yes (by unfold kE;rw [if_pos rfl,hz];rfl)
  | true=>
   simp only [aR];refine rd (n:=0) (by omega) rfl (aH.2 ?_);exact fin _ (by unfold kE;rw [if_pos rfl,hz];rfl)
 by_cases c30:op=30
 ·subst c30;have hl3:l.length=3:=by rw [hl,<- hA];rfl
  have e:kE ⟨30,a,b⟩ t l=(A||(cI l 0 == 3&&cI l 2 == 2)):=by unfold kE;rw [hS];rfl
  simp only [aR,Int.reduceEq];cases A with
  | true=>simp only [aR];exact no (by rw [e];rfl)
  | false=>
   simp only [aR];refine rd (n:=0) (by omega) rfl (aH.2 ?_);by_cases z0:cI l 0=3
   ·simp only [z0,aR];refine rd (n:=2) (by omega) rfl (aH.2 ?_);exact fin _ (by rw [e,z0];rfl)
   ·simp only [z0,aR];exact yes (by rw [e];simp [z0])
 by_cases c31:op=31
 ·subst c31;have hl5:l.length=5:=by rw [hl,<- hA];rfl
  have e:kE ⟨31,a,b⟩ t l=(A||(cI l 0 == 3&&cI l 2 == 4)):=by unfold kE;rw [hS];rfl
  simp only [aR,Int.reduceEq];cases A with
  | true=>simp only [aR];exact no (by rw [e];rfl)
  | false=>
   simp only [aR];refine rd (n:=0) (by omega) rfl (aH.2 ?_);by_cases z0:cI l 0=3
   ·simp only [z0,aR];refine rd (n:=2) (by omega) rfl (aH.2 ?_);exact fin _ (by rw [e,z0];rfl)
   ·simp only [z0,aR];exact yes (by rw [e];simp [z0])
 by_cases c36:op=36
 ·subst c36;have hl3:l.length=3:=by rw [hl,<- hA];rfl
  have e:kE ⟨36,a,b⟩ t l=(A||(a == 1&&cI l 0 == 4)):=by unfold kE;rw [hS];rfl
  simp only [aR,Int.reduceEq];cases A with
  | true=>simp only [aR];exact no (by rw [e];rfl)
  | false=>
   simp only [aR];refine bC (hb3.ext x5) bD aG rfl (aH.2 ?_);by_cases z0:a=1
   ·subst z0;simp only [aR];refine rd (n:=0) (by omega) rfl (aH.2 ?_);exact fin _ (by rw [e];rfl)
   ·simp only [z0,aR];exact yes (by rw [e];simp [z0])
 have e:kE ⟨op,a,b⟩ t l=A:=by unfold kE;rw [if_neg c22,if_neg c30,if_neg c31,if_neg c36,hS]
 simp only [c22,c30,c31,c36,aR];exact fin _ e.symm
theorem MY {v:Y} {l:List Int} (h:aN w v l) (hl:l.length<=4294967296) (hk:∀ v' w',w'.ownsRow w.heap.size 3 1 v' l.length (l.map i64)->aE w w'->K v' w') :
  aC prog 132 #[v] w K:=by
 apply aAy;unfold FH;exact UK bB h (NG l) (by omega) hk
theorem aIg {b:List Int} (ha:aN w av a) (hb:aN w bv b) (hk:∀ w',aE w w'->K (.bool (decide (a=b))) w'):aC prog 169 #[av,bv] w K:=by
 have ca:=uJ ha;apply aWp;unfold PM;refine fQ aQ ha (fQ aQ hb (cH.2 (aB (λhne=>?_) λheq=>?_)))
 ·have:¬ a=b:=λe=>hne (by rw [e]);rw [decide_eq_false this] at hk;exact hk _ (aE.refl _)
 have hl:a.length=b.length:=by omega
 refine fQ aQ ha ?_;refine ⟨λv w'=>∃ j:Nat,v=i64 j/\j<=a.length/\aE w w'/\a.take j=b.take j,λv _=>a.length - (RowKit.intOf v).toNat,⟨0,rfl,Nat.zero_le _,aE.refl _,rfl⟩,?_⟩;rintro _ w1 ⟨j,rfl,hj,x1,hjs⟩ _;refine aW.2 (aB (λhlt=>?_) λhge=>?_)
 ·obtain ⟨x,hx⟩:=bE (l:=a) (j:=j) (by omega);obtain ⟨y,hy⟩:=bE (l:=b) (j:=j) (by omega);have D1:aE w1 w1.drew:=(aE.refl _).drew;refine aK.mk' (λw'=>aE w1 w') D1 ?_;refine oE aQ aG (ha.ext x1) (λ_ h=>h) (by omega) (by omega) (cK hx) ?_;refine oE aQ aG (hb.ext x1) (λ_ h=>h) (by omega) (by omega) (cK hy) ?_;refine aD.ok (λw' _=>zJ) (aB (λhne=>?_) λheq=>?_)
  ·have:¬ a=b:=λe=>hne (by subst e;rw [hx] at hy;cases hy;rfl);rw [decide_eq_false this] at hk;exact hk _ (x1.trans D1)
  ·have:x=y:=by simpa using heq
   subst this;refine bA.2 ?_;rw [lI (by omega) (by unfold maxLen at ca;omega),bK];exact ⟨⟨j+1,rfl,by omega,x1.trans D1,by rw [List.take_add_one,List.take_add_one,hx,hy,hjs]⟩,by simp only [aL];omega⟩
 ·have hjl:j=a.length:=by omega
  subst hjl
  have:a=b:=by
   rw [List.take_length,hl,List.take_length] at hjs;exact hjs
  rw [decide_eq_true this] at hk;exact hk _ x1
theorem TL {b:List Int} (ha:aN w av a) (hb:aN w bv b) (ka:sA a) (kb:sA b) (hl8:a.length<=1000)
  (yes:∀ j v w',lX a b=some j->w'.ownsRow w.heap.size 3 1 v j.length (j.map i64)->aE w w'->K (.tuple #[v,.bool true]) w') (no:∀ w',lX a b=none->aE w w'->K (.tuple #[aX,.bool false]) w') :
  aC prog 168 #[av,bv] w K:=by
 apply aWq;unfold PN;refine fQ aQ ha (fQ aQ hb (cH.2 (aB (λhne=>?_) λheq=>?_)))
 ·exact no _ (DS λe=>hne (by rw [e])) (aE.refl _)
 have hl:a.length=b.length:=by omega
 refine fQ aQ ha ?_
 refine ⟨λov v w'=>∃ (j:Nat) (acc:List Int),v=i64 j/\j<=a.length/\aE w w'/\lX (a.take j) (b.take j)=some acc/\acc.length=j/\w'.ownsRow w.heap.size 3 1 ov j (acc.map i64),λ_ v _=>a.length - (RowKit.intOf v).toNat,
  ⟨0,[],rfl,Nat.zero_le _,aE.refl _,rfl,rfl,World.ownsRow_nil _ _ _ _⟩,?_⟩
 rintro ov _ w1 ⟨j,acc,rfl,hj,x1,hacc,hal,ho⟩ _;refine aW.2 (aB (λhlt=>?_) λhge=>?_)
 ·obtain ⟨x,hx⟩:=bE (l:=a) (j:=j) (by omega);obtain ⟨y,hy⟩:=bE (l:=b) (j:=j) (by omega);have D1:aE w1 w1.drew:=(aE.refl _).drew;have xd:=x1.trans D1;refine aK.mk' (λw'=>aE w1 w') D1 ?_;refine oE aQ aG (ha.ext x1) (λ_ h=>h) (by omega) (by omega) (cK hx) ?_;refine oE aQ aG (hb.ext x1) (λ_ h=>h) (by omega) (by omega) (cK hy) ?_;refine aQo (ka x (List.mem_of_getElem? hx)) (kb y (List.mem_of_getElem? hy)) ⟨D1,?_⟩;unfold WJ;cases hk:AO x y with
  | none=>
   refine aD.ok (λw' _=>nE) (aD.ok (λw' _=>nD) (dC.2 (bJ.2 ?_)));exact no _ (DR hx hy hk) xd
  | some k=>
   refine aD.ok (λw' _=>nE) (aD.ok (λw' _=>nD) (dC.2 (aP.2 ?_)));refine jX bB [i64 k] rfl rfl (by simp) rfl λv2 w2 ho2 x2=>?_;have x12:=D1.trans x2;refine UQ bB (x12.own ho) (aA.of_own ho2) rfl (by omega) (by unfold maxLen;omega) (xd.trans x2).size λv3 w3 ho3 hg3=>?_;refine kQ (by omega) ?_;refine ⟨⟨j+1,acc++[k],rfl,by omega,(xd.trans x2).grown hg3 λq hq=>((x12.own ho).lt q hq).1,wJ hx hy hacc hk,by simp [hal],by simpa using ho3⟩,by simp only [aL];omega⟩
 ·have hjl:j=a.length:=by omega
  subst hjl;rw [List.take_length,hl,List.take_length] at hacc;refine yes acc ov _ hacc ?_ x1;have:=ho;rw [<- hal] at this;exact this
theorem aQb {pc:Nat} (hp:pc<=1000) (hk:∀ v w',w'.ownsRow w.heap.size 3 1 v (fO x pc).length ((fO x pc).map i64)->aE w w'->K v w'):aC prog 119 #[.agg #[i64 x.op,i64 x.a,i64 x.b],i64 pc] w K:=by
 obtain ⟨op,a,b⟩:=x;apply aYo;unfold RK;refine bx λb1 w1 hb x1=>?_;refine bC hb bH aG rfl (aH.2 (aB (λc1=>?_) λc1=>aH.2 (aB (λc2=>?_) λc2=>aH.2 (aB (λc3=>?_) λc3=>?_))))
 ·refine bC hb bD aG rfl ?_;refine jX bB [i64 a] rfl rfl (by simp) rfl λv w2 ho x2=>hk _ _ ?_ (x1.trans x2);have e:fO ⟨op,a,b⟩ pc=[a]:=by unfold fO;dsimp only;rw [if_pos c1]
  rw [e];exact aU ho x1.size
 ·refine bA.2 ?_;rw [aM (by omega)];refine bC hb bD aG rfl ?_;refine jX bB [i64 ((pc:Int)+1),i64 a] rfl rfl (by simp) rfl λv w2 ho x2=>hk _ _ ?_ (x1.trans x2);have e:fO ⟨op,a,b⟩ pc=[(pc:Int)+1,a]:=by unfold fO;dsimp only;rw [if_neg c1,if_pos c2]
  rw [e];exact aU ho x1.size
 ·have e:fO ⟨op,a,b⟩ pc=[]:=by unfold fO;dsimp only;rw [if_neg c1,if_neg c2,if_pos c3]
  refine hk _ _ ?_ x1;rw [e];exact World.ownsRow_nil _ _ _ _
 ·refine bA.2 ?_;rw [aM (by omega)];refine jX bB [i64 ((pc:Int)+1)] rfl rfl (by simp) rfl λv w2 ho x2=>hk _ _ ?_ (x1.trans x2);have e:fO ⟨op,a,b⟩ pc=[(pc:Int)+1]:=by unfold fO;dsimp only;rw [if_neg c1,if_neg c2,if_neg c3]
  rw [e];exact aU ho x1.size
def JW (l:List Bool):Int:=match nG l with
 | some q=>q
 | none=>-1
theorem aHr {v:Y} {l:List Bool} (h:gF w v l) (hl:l.length<=1000) (hk:K (i64 (JW l)) w):aC prog 117 #[v,.bool true] w K:=by
 apply aYq;unfold RM;have hs:aA w v 1 l.length (l.map .bool):=h;refine fQ hY hs ?_;refine ⟨λv w'=>∃ j:Nat,v=i64 j/\j<=l.length/\w'=w/\∀ q,q < j->l.getD q false=false,λv _=>l.length - (RowKit.intOf v).toNat,⟨0,rfl,Nat.zero_le _,rfl,λ_ h=>absurd h (Nat.not_lt_zero _)⟩,?_⟩;rintro _ w1 ⟨j,rfl,hj,hw1,hno⟩ _;have hw1:=hw1.symm;subst hw1;refine aW.2 (aB (λhlt=>?_) λhge=>?_)
 ·refine lV hY oM hs (by omega) (by omega) (HO (by omega)) ?_;refine V.ok (aFp underlying4) ?_;cases hb:l.getD j false with
  | true=>
   refine bJ.2 ?_;have:JW l=j:=by unfold JW;rw [zU hb hno]
   rw [this] at hk;exact hk
  | false=>
   refine aP.2 (bA.2 ?_);rw [aM (by omega),bK];refine ⟨⟨j+1,rfl,by omega,rfl,λq hq=>?_⟩,by simp only [aL];omega⟩;by_cases hqj:q=j
   ·rw [hqj];exact hb
   ·exact hno q (by omega)
 ·have:JW l=-1:=by unfold JW;rw [wM λq hq=>hno q (by omega)]
  rw [this] at hk;exact hk
theorem bJt {c:tU} {sv:Y} {s:List Int} (h:WR w c i m) (hx:BE i m x) (hs:aN w sv s) (ks:sA s) (h8:s.length<=8)
  (yes:∀ out v w',BU i m x s=some out->w'.ownsRow w.heap.size 3 1 v out.length (out.map i64)->aE w w'->K (.tuple #[v,i64 0]) w') (no:∀ e w',BU i m x s=none->e≠0->aE w w'->K (.tuple #[aX,i64 e]) w') :
  aC prog 118 #[.pointer (some ⟨c.gb,0,none⟩),.agg #[i64 x.op,i64 x.a,i64 x.b],sv] w K:=by
 have hle:=yP hx
 have hh2:hgt i m x<=2:=by
  obtain ⟨op,a,b⟩:=x;obtain ⟨_,_,⟨ho,_⟩,_⟩:=hx;have ho:1<=op/\op<=39:=ho;unfold hgt;rcases BB ho with rfl|rfl|rfl|rfl|rfl|rfl|rfl|rfl|rfl|rfl|rfl|rfl|rfl|rfl|rfl|rfl|rfl|rfl|rfl|rfl|rfl|rfl|rfl|rfl|rfl|rfl|rfl|rfl|rfl|rfl|rfl|rfl|rfl|rfl|rfl|rfl|rfl|rfl|rfl<;>first|exact Nat.zero_le _|exact Nat.le_succ 1|exact Nat.le_refl _|exact Nat.le_succ_of_le (DA _)
 apply aYp;unfold RL;refine bx λb1 w1 hb1 x1=>?_;refine fQ aQ (hs.ext x1) (iF hb1 iG rfl ?_);refine CL (h.ext x1) hx λav w2 hav x2=>?_;have x12:=x1.trans x2;have hb1:=hb1.ext x2;refine fQ aQ hav (eY.2 ?_);rw [aM (by omega)];refine aW.2 ?_;by_cases hlt:(s.length:Int) - ((aT i m x).length:Int) < 0
 ·simp only [hlt,aR];refine no 10 _ ?_ (by decide) x12;unfold BU;dsimp only;rw [if_pos (.inl (by omega))]
 have hsl:(aT i m x).length<=s.length:=by omega
 rw [show (s.length:Int) - ((aT i m x).length:Int)=((s.length - (aT i m x).length:Nat):Int) by omega] at hlt ⊢;simp only [hlt,aR];refine iF hb1 iG rfl ?_;refine aCu (h.ext x12) hx λw3 x3=>bA.2 ?_;have x13:=x12.trans x3;have hb1:=hb1.ext x3;rw [aM (by omega)];refine iH.2 ?_;by_cases hgt8:((s.length - (aT i m x).length:Nat):Int)+((hgt i m x:Nat):Int) > 8
 ·simp only [hgt8,aR];refine no 10 _ ?_ (by decide) x13;unfold BU;dsimp only;rw [if_pos (.inr (by omega))]
 simp only [hgt8,aR];obtain ⟨tv,trun,tsl⟩:=aBv underlying23 bW (hs.ext x13) (lo:=some (.int .i64 ((s.length - (aT i m x).length:Nat):Int))) (hi':=none) (a:=s.length - (aT i m x).length) (b:=s.length) (.inr rfl) (.inl ⟨rfl,rfl⟩) (by omega) (Nat.le_refl _);refine V.ok (trun _) ?_
 have ht3:aN w3 tv (s.drop (s.length - (aT i m x).length)):=by
  have:=tsl _ (hs.ext x13);unfold aN;rw [List.length_drop,List.map_drop];have e2:((s.map i64).drop (s.length - (aT i m x).length)).take (s.length - (s.length - (aT i m x).length))=(s.map i64).drop (s.length - (aT i m x).length):=List.take_of_length_le (by simp)
  rwa [e2] at this
 have hdo:∀ {l},l=s.drop (s.length - (aT i m x).length)->BU i m x s=if mM x (aT i m x) l=true/\kE x (aT i m x) l=false then some (s.take (s.length - (aT i m x).length)++iX i m x l) else none:=by
  rintro _ rfl;unfold BU;dsimp only;rw [if_neg (by omega)]
 have hkl:sA (s.drop (s.length - (aT i m x).length)):=λk hk=>ks k (List.mem_of_mem_drop hk);have hll:(s.drop (s.length - (aT i m x).length)).length=(aT i m x).length:=by rw [List.length_drop];omega
 generalize hL:s.drop (s.length - (aT i m x).length)=l at ht3 hkl hll;have hdo:=hdo hL.symm;refine iF hb1 iG rfl ?_;refine aHe (h.ext x13) hx ht3 hll hkl λe w4 he x4=>cH.2 ?_;have x14:=x13.trans x4;have hb1:=hb1.ext x4;by_cases he0:e=0
 case neg=>
  simp only [he0,aR];exact no e _ (by rw [hdo,if_neg (λhc=>he0 (he.2 hc.1))]) he0 x14
 have hkB:=he.1 he0;simp only [he0,aR];refine iF hb1 iG rfl ?_;refine aGv (h.ext x14) hx (ht3.ext x4) hll hkl λe' w5 he' x5=>cH.2 ?_;have x15:=x14.trans x5;have hb1:=hb1.ext x5;by_cases he1:e'=0
 case neg=>
  simp only [he1,aR];exact no e' _ (by rw [hdo,if_neg (λhc=>he1 (he'.2 hc.2))]) he1 x15
 have hlB:=he'.1 he1;simp only [he1,aR];have hdo:=hdo.trans (if_pos ⟨hkB,hlB⟩);have D1:aE w5 w5.drew:=(aE.refl _).drew;have xd:=x15.trans D1;refine aK.mk' (λw'=>aE w5 w') D1 ?_;obtain ⟨uv,urun,usl⟩:=aBv underlying23 bW hs (lo:=none) (hi':=some (.int .i64 ((s.length - (aT i m x).length:Nat):Int))) (a:=0) (b:=s.length - (aT i m x).length) (.inl ⟨rfl,rfl⟩) (.inr rfl) (by omega) (by omega);refine aD.ok (λw' _=>urun _) ?_
 have hu:aN w5.drew uv (s.take (s.length - (aT i m x).length)):=by
  have:=usl _ (hs.ext xd);have hul:(s.take (s.length - (aT i m x).length)).length=s.length - (aT i m x).length:=by rw [List.length_take];omega
  unfold aN;rw [hul];simpa [List.map_take] using this
 refine yA (λw' hw=>hb1.ext hw) iG rfl ?_;have hul:(s.take (s.length - (aT i m x).length)).length=s.length - (aT i m x).length:=by rw [List.length_take];omega
 generalize s.take (s.length - (aT i m x).length)=u at hu hdo hul;refine MY hu (by omega) λcv w6 hoc x6=>⟨D1.trans x6,?_⟩;refine MR (h.ext (xd.trans x6)) hx ((ht3.ext ((x4.trans x5).trans (D1.trans x6)))) (by omega) λgv w7 hg x7=>⟨(D1.trans x6).trans x7,?_⟩;have hgl:(iX i m x l).length<=2:=by rw [JX];exact hh2
 refine UQ bB (x7.own hoc) hg (NG _) (by omega) (by unfold maxLen;omega) (x6.trans x7).size λv4 w12 ho12 hg12=>?_;have x12':aE w5.drew w12:=(x6.trans x7).grown hg12 λk hk=>((x7.own hoc).lt k hk).1;refine ⟨D1.trans x12',yes _ v4 w12 hdo ?_ (xd.trans x12')⟩;have:=aU ho12 xd.size;rw [List.length_append,List.map_append];exact this
end Go.Proofs.YtjcmcfidblhnnaaGreatDoor
namespace Go.Vc
theorem yX {P:Program} {S:O->Prop} {L:Y->Prop} {t g n c:Nat} {k:IntKind} {i:Int} (h:XA P t 1) (h0:0<=i) (h1:i < n) (hk:L (.pointer (some ⟨g,0+i.toNat*1,none⟩))):aD P S (Instr.indexAt t (.slice (some ⟨g,0,none⟩) n c) (.int k i)) L:=by
 obtain ⟨e,z,b,ht,hi⟩:=h;exact aD.ok (λw' _=>iL ht hi h0 h1) hk
end Go.Vc
namespace Go.Tc
theorem bCt (m:jN):WF m (St.ini m.code.length):=by
 have eH:∀ q,(St.ini m.code.length).h q=false:=λq=>by
  simp only [St.ini,St.h,List.getD_eq_getElem?_getD,List.getElem?_replicate];split<;>rfl
 have eS:∀ q,(St.ini m.code.length).s q=[]:=λq=>by
  simp only [St.ini,St.s,List.getD_eq_getElem?_getD,List.getElem?_replicate];split<;>rfl
 exact ⟨by simp [St.ini],by simp [St.ini],by simp [St.ini],λk h=>(by rw [eH] at h;cases h),λk _=>⟨eS k,eH k⟩⟩
theorem MM {n:Nat} (h:1<=n):nX n (St.ini n) 0 []=some (St.first n):=by
 have eH:(St.ini n).h 0=false:=by
  simp only [St.ini,St.h,List.getD_eq_getElem?_getD,List.getElem?_replicate];split<;>rfl
 unfold nX;rw [if_neg (by omega)];simp only [Int.toNat_zero,eH];rfl
end Go.Tc
namespace Go.Proofs.YtjcmcfidblhnnaaGreatDoor
open Tryz
open Go.Vc Go.Tc
variable {w:O} {K:Y->O->Prop}
variable {n sz:Nat} {w0:O} {i:iK} {m:jN} {sv:Y}
theorem jB {B e:Nat} {v:Y} {xs:List Y} (h:w.ownsRow B e sz v n xs):bY v=true:=by
 rcases h.2 with ⟨rfl,_⟩|⟨_,_,_,rfl,_⟩<;>rfl
theorem WU {c:tU} {st:St} {to:Int} {stack:List Int} (h:Wk w0 w c i m st) (wf:WF m st) (hn:m.code.length<=1000) (h0:0<=to) (hs:aN w sv stack) (hks:sA stack) (hl8:stack.length<=8)
  (yes:∀ st' w',nX m.code.length st to stack=some st'->Wk w0 w' c i m st'->Fr c.G w w'->K (i64 0) w') (no:∀ e w',nX m.code.length st to stack=none->e≠0->Fr c.G w w'->K (i64 e) w') :
  aC prog 116 #[.pointer (some ⟨c.gb,0,none⟩),i64 to,sv] w K:=by
 apply aYr;unfold RN;refine ⟨.inl ⟨_,rfl⟩,aQj h.boxed dP cG iM rfl ?_⟩;refine fQ jY h.codeAt (kO.2 (aB (λhbig=>?_) λhsm=>?_))
 ·exact no 13 _ (by unfold nX;rw [if_pos hbig]) (by decide) (Fr.of_ext (aE.refl _))
 obtain ⟨t,rfl⟩:∃ t:Nat,to=t:=⟨to.toNat,by omega⟩;have htn:t < m.code.length:=by omega
 have hM:=h.mem;refine ⟨.inl ⟨_,rfl⟩,bC h.boxed fL oL rfl ?_⟩;refine lV hY oM (hM.hs hn) (by omega) (by omega) (HO (by rw [hM.l2];exact htn)) (dC.2 ?_);have ehh:st.has.getD t false=st.h t:=rfl;rw [ehh]
 have hgG:∀ {r},(if st.h t then (lX (st.s t) stack).bind λj=>if j=st.s t then some st else some { st with st:=st.st.set t j,todo:=st.todo.set t true } else some ⟨st.st.set t stack,st.has.set t true,st.todo.set t true⟩)=r->nX m.code.length st t stack=r:=by
  rintro _ rfl;unfold nX;rw [if_neg (by omega)];simp only [Int.toNat_natCast]
 have hne:=h.ne;have hBo:=hM.o;cases hht:st.h t with
 | false=>
  simp only [aR];have D1:aE w w.drew:=(aE.refl _).drew;refine aK.mk' (λw'=>bO w' c.gb (c.cells i m) 166) (h.box.ext D1) ?_;refine ⟨.inl ⟨_,rfl⟩,jG (λw' hw=>bO.boxed hw) dO HD rfl ?_⟩;refine ⟨.inl ⟨_,rfl⟩,jG (λw' hw=>bO.boxed hw) fL oL rfl ?_⟩;refine ⟨.inl ⟨_,rfl⟩,jG (λw' hw=>bO.boxed hw) eQ oL rfl ?_⟩;refine MY (hs.ext D1) (by omega) λcv w2 hoc x2=>⟨(h.box.ext D1).ext x2,?_⟩;have xd:=D1.trans x2;have hM2:=hM.ext xd;have hoc:=aU hoc (B':=c.B) (Nat.le_trans hBo.2.2.2.2 D1.size);have hB2:=h.box.ext xd;obtain ⟨vs,q1,q2,q3⟩:=hM2.s1;refine yX pV (by omega) (by omega) (KZ mO q2 (by rw [q1];simpa using htn) (jB hoc) ⟨hB2.other hne.1,?_⟩);rw [Int.toNat_natCast];have hM3:=hM2.setS hoc htn;refine yX hY (by omega) (by omega) (KZ kS hM3.s2 (by rw [List.length_map,hM3.l2];simpa using htn) rfl ⟨(hB2.other hne.1).other hne.2.1,?_⟩);rw [Int.toNat_natCast];have hM4:=hM3.setH t true;refine yX hY (by omega) (by omega) (KZ kS hM4.s3 (by rw [List.length_map,hM4.l3];simpa using htn) rfl ?_);rw [Int.toNat_natCast];have hM5:=hM4.setT t true;have hf:Fr c.G w _:=(((Fr.of_ext (S:=c.G) xd).set (b:=c.g1) (o:=t) (v:=cv) (.inl rfl)).set (b:=c.g2) (o:=t) (v:=.bool true) (.inr (.inl rfl))).set (b:=c.g3) (o:=t) (v:=.bool true) (.inr (.inr rfl));exact yes _ _ (hgG (by rw [hht];rfl)) (h.chg hf hM5) hf
 | true=>
  simp only [aR];obtain ⟨hkt,hlt8⟩:=wf.kd t hht;obtain ⟨vs,v,hvs,hv,hov⟩:=hM.ss hn htn;refine ⟨.inl ⟨_,rfl⟩,bC h.boxed dO HD rfl ?_⟩;refine lV pV bF hvs (by omega) (by omega) hv ?_;refine TL (aA.of_own hov) hs hkt hks (by omega) (λjo v6 w2 hjo ho6 x2=>?_) λw2 hjo x2=>?_
  case refine_2=>
   refine hU.2 (hO.2 (dC.2 ?_));simp only [aR];exact no 14 _ (hgG (by rw [hht,hjo];rfl)) (by decide) (Fr.of_ext x2)
  refine hU.2 (hO.2 (dC.2 ?_));simp only [aR];have h2:=h.ext x2;have hM2:=h2.mem;obtain ⟨vs7,v7,hvs7,hv7,hov7⟩:=hM2.ss hn htn;refine ⟨.inl ⟨_,rfl⟩,bC h2.boxed dO HD rfl ?_⟩;refine lV pV bF hvs7 (by omega) (by omega) hv7 ?_;refine aIg (aA.of_own ho6) (aA.of_own hov7) λw3 x3=>dC.2 ?_;have x23:=x2.trans x3;by_cases hje:jo=st.s t
  ·simp only [hje,aR];exact yes st _ (hgG (by rw [hht,hjo];simp [hje])) (h.ext x23) (Fr.of_ext x23)
  ·simp only [hje,aR];have D1:aE w3 w3.drew:=(aE.refl _).drew;have xd:=x23.trans D1;have h3:=h.ext xd;have hM3:=h3.mem;have ho6:=aU ((x3.trans D1).own ho6) (B':=c.B) hBo.2.2.2.2;refine aK.mk' (λw'=>bO w' c.gb (c.cells i m) 166) h3.box ?_;refine ⟨.inl ⟨_,rfl⟩,jG (λw' hw=>bO.boxed hw) dO HD rfl ?_⟩;refine ⟨.inl ⟨_,rfl⟩,jG (λw' hw=>bO.boxed hw) eQ oL rfl ?_⟩;obtain ⟨vs8,q1,q2,q3⟩:=hM3.s1;refine yX pV (by omega) (by omega) (KZ mO q2 (by rw [q1];simpa using htn) (jB ho6) ⟨h3.box.other hne.1,?_⟩);rw [Int.toNat_natCast];have hM4:=hM3.setS ho6 htn;refine yX hY (by omega) (by omega) (KZ kS hM4.s3 (by rw [List.length_map,hM4.l3];simpa using htn) rfl ?_);rw [Int.toNat_natCast];have hM5:=hM4.setT t true;have hf:Fr c.G w _:=((Fr.of_ext (S:=c.G) xd).set (b:=c.g1) (o:=t) (v:=v6) (.inl rfl)).set (b:=c.g3) (o:=t) (v:=.bool true) (.inr (.inr rfl));exact yes _ _ (hgG (by rw [hht,hjo];simp [hje])) (h.chg hf hM5) hf
theorem bDo {c:tU} {x:kJ} {s:List Int} (h:WR w c i m) (hx:BE i m x) (hs:aN w sv s) (ks:sA s) (h8:s.length<=8)
  (hk:∀ v e w',((e≠0/\BU i m x s=none)\/(e=0/\∃ out,BU i m x s=some out/\w'.ownsRow w.heap.size 3 1 v out.length (out.map i64)))->aE w w'->K (.tuple #[v,i64 e]) w') :
  aC prog 118 #[.pointer (some ⟨c.gb,0,none⟩),.agg #[i64 x.op,i64 x.a,i64 x.b],sv] w K:=
 bJt h hx hs ks h8 (λout v w' h1 h2 x=>hk v 0 w' (.inr ⟨rfl,out,h1,h2⟩) x) λe w' h1 h2 x=>hk _ e w' (.inl ⟨h2,h1⟩) x
theorem Mem.todo {g1 g2 g3 B n:Nat} {st:St} (h:Mem g1 g2 g3 B w n st) (hn:n<=1000):gF w (.slice (some ⟨g3,0,none⟩) n n) st.todo:=by
 unfold gF;rw [h.l3];exact h.ts hn
theorem SV {c:tU} {w':O} {e:Nat} {v:Y} {xs:List Y} (hf:Fr c.G w w') (ho:w.ownsRow c.B e sz v n xs) (h:c.g1 < c.B/\c.g2 < c.B/\c.g3 < c.B):w'.ownsRow c.B e sz v n xs:=
 hf.own ho λk hk=>by
  have:=(ho.lt k hk).1;rintro (e|e|e)<;>omega
theorem aEv {c:tU} (h:Wk w0 w c i m (St.ini m.code.length)) (ir:i.right) (mr:m.right)
  (yes:∀ st w',rY i m (some st)->Wk w0 w' c i m st->K (.tuple #[i64 0,i64 0]) w') (no:∀ pc e w',rY i m none->e≠0->aE w0 w'->K (.tuple #[i64 pc,i64 e]) w') :
  aC prog 58 #[.pointer (some ⟨c.gb,0,none⟩)] w K:=by
 have hn1:=mr.2.2.2.1.1;have hn2:=mr.2.2.2.1.2;have hn:m.code.length<=1000:=by omega
 apply bGf;unfold ZM;refine ⟨.inl ⟨_,rfl⟩,aQj h.boxed dP cG iM rfl ?_⟩;have hc:=h.codeAt;refine fQ jY hc ?_;refine ⟨λv w'=>∃ j:Nat,v=i64 j/\j<=m.code.length/\aE w w'/\∀ x∈m.code.take j,fD i m x,λv _=>m.code.length - (RowKit.intOf v).toNat,⟨0,rfl,Nat.zero_le _,aE.refl _,λ_ h=>by simp at h⟩,?_⟩;rintro _ w3 ⟨j,rfl,hj,x3,hnm⟩ _;refine aW.2 (aB (λhlt=>?_) λhge=>?_)
 ·have hj':j < m.code.length:=by omega
  have hx:=sN hj';have hxm:=List.mem_of_getElem? hx;refine ldI (hc.ext x3) hx ?_;refine wV VM rfl rfl λb4 w4 hb4 x4=>?_;have hb4:aY w4 b4 [i64 (m.ins j).op,i64 (m.ins j).a,i64 (m.ins j).b]:=hb4;refine iF hb4 iG rfl ?_;refine (aGg (h.ext (x3.trans x4)).wr (mr.2.2.2.2 _ hxm)).mono λv w5 ⟨b,hv,hb,x5⟩=>?_;subst hv;have x35:=(x3.trans x4).trans x5;refine dC.2 ?_;cases b with
  | false=>simp only [aR];exact no _ 9 _ (.inl ⟨⟨_,hxm,λh=>by have:=hb.2 h;cases this⟩,rfl⟩) (by decide) (h.x.trans x35)
  | true=>
   simp only [aR];refine kQ (by omega) ?_;refine ⟨⟨j+1,rfl,by omega,x35,λy hy=>?_⟩,by simp only [aL];omega⟩;rw [List.take_add_one,hx] at hy;rcases List.mem_append.1 hy with hy|hy
   ·exact hnm y hy
   ·simp at hy;subst hy;exact hb.1 rfl
 have hjl:j=m.code.length:=by omega
 subst hjl;rw [List.take_length] at hnm;have hox:∀ x∈m.code,BE i m x:=λx hx=>⟨ir,mr,mr.2.2.2.2 x hx,hnm x hx⟩;obtain ⟨wf0,inv0⟩:=EM (i:=i) hn1;have h3:=h.ext x3;refine WU (stack:=[]) h3 (bCt m) hn (Int.le_refl 0) (aA.nil _ _) (λ_ h=>by simp at h) (by simp) (λst1 w4 hg h4 _=>?_) λe w4 hg _ _=>by rw [MM hn1] at hg;cases hg
 rw [MM hn1] at hg;cases hg;generalize hnn:m.code.length=n at *;refine ⟨λw'=>∃ st,(Wk w0 w' c i m st/\WF m st/\Inv i m st/\∀ r,oV i m st r->oV i m (St.first n) r),λw'=>mu λq=>∃ st,(Wk w0 w' c i m st/\WF m st/\Inv i m st/\∀ r,oV i m st r->oV i m (St.first n) r)/\msr n st=q,⟨_,h4,wf0,inv0,λ_ h=>h⟩,?_⟩;rintro w9 ⟨st0,hst0⟩ _;obtain ⟨st,⟨hW,wf,inv,hR⟩,hmu⟩:=xT (p:=λq=>∃ st,(Wk w0 w9 c i m st/\WF m st/\Inv i m st/\∀ r,oV i m st r->oV i m (St.first n) r)/\msr n st=q) ⟨_,_,hst0,rfl⟩;clear hst0 st0;have hWk:∀ {r},oV i m st r->rY i m r:=λ{r} hr=>.inr ⟨hnm,by rw [hnn];exact hR r hr⟩;have hM:=hW.mem;rw [hnn] at hM;have hcc:c.cells i m=[.string i.name,c.p.fv,c.p.iv,c.p.mv,c.p.xv,c.pv,i64 m.result,c.lv,c.cv,c.loc,.slice (some ⟨c.g1,0,none⟩) n n,.slice (some ⟨c.g2,0,none⟩) n n,.slice (some ⟨c.g3,0,none⟩) n n]:=by unfold tU.cells;rw [hnn]
 have hbox:∀ {w'},aY w' c.gb (c.cells i m)->aY w' c.gb _:=λh=>hcc▸h;refine ⟨.inl ⟨_,rfl⟩,bC (hbox hW.boxed) eQ oL rfl ?_⟩;refine aHr (hM.todo hn) (by rw [hM.l3];exact hn) (aW.2 ?_);cases hfirst:nG st.todo with
 | none=>
  have e1:JW st.todo=-1:=by unfold JW;rw [hfirst]
  rw [e1];simp only [aR,Int.reduceLT,Int.reduceNeg];exact yes st _ (hWk (.done hfirst)) hW
 | some q=>
 have e1:JW st.todo=(q:Int):=by unfold JW;rw [hfirst]
 rw [e1];have hq0:¬ ((q:Int) < 0):=by omega
 simp only [hq0,aR];have htq:st.t q=true:=(uM hfirst).1;have hqn':q < n:=by have:=tF htq;rw [hM.l3] at this;exact this
 have hhq:st.h q=true:=by
  cases e:st.h q with
  | true=>rfl
  | false=>have:=(wf.no q e).2;rw [htq] at this;cases this
 obtain ⟨hkd,hl8⟩:=wf.kd q hhq;have hxq:=sN (m:=m) (k:=q) (by omega);have ox:=hox _ (List.mem_of_getElem? hxq);refine ⟨.inl ⟨_,rfl⟩,bC (hbox hW.boxed) eQ oL rfl ?_⟩;refine VI hY kS hM.s3 (n:=n) (by simpa using hM.l3) (by omega) (by omega) rfl ?_;rw [Int.toNat_natCast];have hM1:=hM.setT q false;have hf1:Fr c.G w9 (w9.setCell ⟨c.g3,q,none⟩ (.bool false)):=Fr.of_set (.inr (.inr rfl));have hW1:=hW.chg hf1 (by rw [hnn];exact hM1);generalize w9.setCell ⟨c.g3,q,none⟩ (.bool false)=w10 at hM1 hW1;have estep:tZ i m st q=(BU i m (m.ins q) (st.s q)).bind λstack=>lY n stack (fO (m.ins q) q) { st with todo:=st.todo.set q false }:=by unfold tZ;rw [hnn]
 generalize hst1:({ st with todo:=st.todo.set q false }:St)=st1 at hM1 hW1 estep;have es1:st1.s q=st.s q:=by rw [<- hst1];rfl
 refine ⟨.inl ⟨_,rfl⟩,aQj (hbox hW1.boxed) dP cG iM rfl ?_⟩;refine ldI hW1.codeAt hxq ?_;refine wV VM rfl rfl λb5 w11 hb5 x11=>?_;have hb5:aY w11 b5 [i64 (m.ins q).op,i64 (m.ins q).a,i64 (m.ins q).b]:=hb5;have D1:aE w11 w11.drew:=(aE.refl _).drew;have xd:=x11.trans D1;have hWd:=hW1.ext xd;have hW11:=hW1.ext x11;have hMd:=hWd.mem;rw [hnn] at hMd;obtain ⟨vs,v,hvs,hv,hov⟩:=hMd.ss hn hqn';rw [es1] at hov;refine aK.mk' (λw'=>aE w11.drew w') (aE.refl _) ?_;refine yA (λw' hw=>hb5.ext (D1.trans hw)) iG rfl ?_;refine ⟨.inl ⟨_,rfl⟩,jG (λw' hw=>hbox (hWd.boxed.ext hw)) dO HD rfl ?_⟩;refine oE pV bF hvs (λ_ h=>h) (by omega) (by omega) hv ?_;refine bDo hWd.wr ox (aA.of_own hov) hkd hl8 λv2 e2 w12 hdo x12=>?_;refine ⟨x12,aD.ok (λw' _=>nE) (aD.ok (λw' _=>nD) ?_)⟩;refine iF (hb5.ext (D1.trans x12)) iG rfl ?_;refine aQb (x:=m.ins q) (pc:=q) (by omega) λtv w13 hot x13=>?_;have ht0:=WE ox (pc:=q);have hLl:(fO (m.ins q) q).length<=2:=GV _ _;generalize fO (m.ins q) q=L at hot ht0 estep hLl;have hW13:=hWd.ext (x12.trans x13);have hBo:=hMd.o;have hBd:c.B<=w11.drew.heap.size:=hBo.2.2.2.2;have hg3:c.g1 < c.B/\c.g2 < c.B/\c.g3 < c.B:=⟨hBo.2.1,hBo.2.2.1,hBo.2.2.2.1⟩;have hot:=aU hot (B':=c.B) (Nat.le_trans hBd x12.size)
 have wf1:WF m st1:=by
  rw [<- hst1];refine ⟨wf.l1,wf.l2,by simpa using wf.l3,wf.kd,λk hk=>⟨(wf.no k hk).1,?_⟩⟩;simp only [St.t,lZ];split
  ·rfl
  ·exact (wf.no k hk).2
 have hdo':(e2≠0/\rY i m none/\aE w0 w13)\/(e2=0/\∃ out st',BU i m (m.ins q) (st.s q)=some out/\Wk w0 w13 c i m st'/\lY n out (L.take 0) st1=some st'/\w13.ownsRow c.B 3 1 v2 out.length (out.map i64)):=by
  rcases hdo with ⟨h1,h2⟩|⟨h1,out,h2,h3⟩
  ·exact .inl ⟨h1,hWk (.fail hfirst (by rw [estep,h2];rfl)),hW13.x⟩
  ·exact .inr ⟨h1,out,st1,h2,hW13,rfl,aU (x13.own h3) hBd⟩
 refine fQ aQ (aA.of_own hot) ?_;refine ⟨λev v w'=>∃ (j:Nat) (e:Int),v=i64 j/\ev=i64 e/\j<=L.length/\w'.ownsRow c.B 3 1 tv L.length (L.map i64)/\((e≠0/\rY i m none/\aE w0 w')\/(e=0/\∃ out st',BU i m (m.ins q) (st.s q)=some out/\Wk w0 w' c i m st'/\lY n out (L.take j) st1=some st'/\w'.ownsRow c.B 3 1 v2 out.length (out.map i64))),λ_ v _=>L.length - (RowKit.intOf v).toNat,⟨0,e2,rfl,rfl,Nat.zero_le _,hot,hdo'⟩,?_⟩;rintro _ _ w14 ⟨j,e,rfl,rfl,hj,hot4,hst⟩ _;refine aW.2 (aB (λhlt=>?_) λhge=>?_)
 case refine_2=>
  have hjL:j=L.length:=by omega
  subst hjL;rw [List.take_length] at hst;refine cH.2 ?_;rcases hst with ⟨h1,h2,h3⟩|⟨h1,out,st',h2,h3,h4,_⟩
  ·simp only [h1,aR];exact no q e _ h2 h1 h3
  ·simp only [h1,aR];have es:tZ i m st q=some st':=by rw [estep,h2];exact h4
   obtain ⟨s1,s2,s3⟩:=IV hox wf inv hfirst es;have hI:Wk w0 w14 c i m st'/\WF m st'/\Inv i m st'/\∀ r,oV i m st' r->oV i m (St.first n) r:=⟨h3,s1,s2,λr hr=>hR r (.go hfirst es hr)⟩;rw [hnn] at s3;exact ⟨⟨st',hI⟩,Nat.lt_of_le_of_lt (LW ⟨st',hI,rfl⟩) (Nat.lt_of_lt_of_eq s3 hmu)⟩
 obtain ⟨to,hto⟩:=bE (l:=L) (j:=j) (by omega);have hto0:=ht0 to (List.mem_of_getElem? hto);refine JN aQ aG hot4 (by omega) (by omega) (cK hto) (aH.2 ?_);rcases hst with ⟨h1,h2,h3⟩|⟨h1,out,st',h2,h3,h4,ho4⟩
 ·simp only [h1,aR];refine kQ (by omega) ?_;exact ⟨⟨j+1,e,rfl,rfl,by omega,hot4,.inl ⟨h1,h2,h3⟩⟩,by simp only [aL];omega⟩
 ·simp only [h1,aR];obtain ⟨od1,od2,_,_⟩:=ES ox hkd h2;have wf':WF m st':=(yD od1 od2 wf1 (λto ht=>ht0 to (List.mem_of_mem_take ht)) (by rw [hnn];exact h4)).1;have hlo:=h3.lo;refine WU h3 wf' (by rw [hnn];exact hn) hto0 (aA.of_own ho4) od1 od2 (λst'' w15 hg h5 hf=>bA.2 ?_) λe' w15 hg hne hf=>bA.2 ?_
  ·rw [hnn] at hg;rw [aM (by omega),bK];exact ⟨⟨j+1,0,rfl,rfl,by omega,SV hf hot4 hg3,.inr ⟨rfl,out,st'',h2,h5,EI h4 hto hg,SV hf ho4 hg3⟩⟩,by simp only [aL];omega⟩
  ·rw [hnn] at hg;rw [aM (by omega),bK];refine ⟨⟨j+1,e',rfl,rfl,by omega,SV hf hot4 hg3,.inl ⟨hne,hWk (.fail hfirst ?_),hf.ext h3.x λk hk=>?_⟩⟩,by simp only [aL];omega⟩
   ·rw [estep,h2];exact EK h4 hto hg
   ·rcases hk with rfl|rfl|rfl
    ·exact hlo.2.1
    ·exact hlo.2.2.1
    ·exact hlo.2.2.2
end Go.Proofs.YtjcmcfidblhnnaaGreatDoor
namespace Go.Vc
variable {P:Program} {w:O} {a:Addr} {x:Operand}
theorem aFr {s e:TypeId} (hs:P.underlying s=some (.pointer e)) (d:Nat):(Op.equalIn (d+1) s (.pointer (some a)) (Value.pointer none)).run P w=.ok false w:=by
 simp [Op.equalIn,run_underlying hs]
theorem aBw {s e:TypeId} (hs:P.underlying s=some (.pointer e)) (d:Nat):(Op.equalIn (d+1) s (Value.pointer none) (Value.pointer none)).run P w=.ok true w:=by
 simp [Op.equalIn,run_underlying hs]
theorem SP {s e:TypeId} (hs:P.underlying s=some (.pointer e)) {y:Operand} :
  (do eqGuard .eql s x y (.pointer (some a)) (Value.pointer none);binOp .eql s (.pointer (some a)) (Value.pointer none)).run P w=.ok (.bool false) w:=by
 simp [eqGuard,binOp,mP,aFr hs]
theorem LK {s e:TypeId} (hs:P.underlying s=some (.pointer e)) {y:Operand} :
  (do eqGuard .eql s x y (Value.pointer none) (Value.pointer none);binOp .eql s (Value.pointer none) (Value.pointer none)).run P w=.ok (.bool true) w:=by
 simp [eqGuard,binOp,mP,aBw hs]
end Go.Vc
namespace Go.Proofs.YtjcmcfidblhnnaaGreatDoor
open Tryz
open Go.Vc Go.Tc
variable {w:O} {K:Y->O->Prop}
variable {p:jO} {i:iK} {k:Int}
theorem GA (h:kP w p i) (hn:lA w i) (hb7:iK.rg i) (hk:∀ a b e w',(e=0↔mU i)->aE w w'->K (.tuple #[.agg #[i64 a,i64 b],i64 e]) w'):aC prog 28 #[p.val i] w K:=by
 apply bHf;unfold aAk jO.val;refine bx λb1 w1 hb1 x1=>?_;refine zA AR λw2 hB2 x2=>?_;have x12:=x1.trans x2;have hg:w.heap.size<=w1.heap.size:=x1.size;have hb1:=hb1.ext x2;generalize w1.heap.size=g at hB2 hg;have hB2:bO w2 g [i64 0,i64 0] 78:=hB2;refine iF hb1 lM rfl ?_;refine (aFb (h.ext x12) hb7 (hn.ext x12)).mono λv w3 ⟨b,hv,hb,x3⟩=>?_;subst hv;have x13:=x12.trans x3
 have fin:∀ {w':O} {a b e:Int},bO w' g [i64 0,i64 0] 78->aE w w'->(e=0↔mU i)->U prog (Instr.storeAt 78 (.pointer (some ⟨g,0,none⟩)) (.agg #[i64 a,i64 b])) w' λ_ w7=>
   ∃ r1,(loadVar 78 (match (Value.pointer (some ⟨g,0,none⟩)) with|.pointer (some p)=>p|_=>⟨0,0,none⟩)).run prog w7=.ok r1 w7/\(∃ p,(Value.pointer (some ⟨g,0,none⟩))=Value.pointer (some p))/\K (.tuple #[r1,i64 e]) w7:=by
  intro w' a b e hB hx he;refine yW AR hB (l:=[i64 a,i64 b]) rfl rfl rfl rfl λw7 hB7 hc=>?_;exact ⟨_,nS underlying78 rfl AR hB7 rfl,⟨_,rfl⟩,hk a b e _ he (hc.ext _ hx hg)⟩
 refine dC.2 ?_;cases b with
 | false=>
  simp only [aR];refine oD HV [] rfl rfl ?_;exact fin (hB2.ext x3) x13 ⟨λh=>(by cases h),λh=>by have:=hb.2 h.1;cases this⟩
 | true=>
 simp only [aR];have ir:=hb.1 rfl;have hm8:=ir.2.2.1.1.2;refine bC (hb1.ext x3) bP dE rfl (yY gO (h.ext x13).mt ?_);refine ⟨λv w'=>∃ j:Nat,v=i64 j/\j<=i.methods.length/\aE w2 w'/\∀ q,q < j->∃ st,rY i (i.meth q) (some st),λv _=>i.methods.length - (RowKit.intOf v).toNat,⟨0,rfl,Nat.zero_le _,x3,λ_ h=>absurd h (Nat.not_lt_zero _)⟩,?_⟩;rintro _ w4 ⟨j,rfl,hj,x4,hall⟩ _;refine aW.2 (aB (λhlt=>?_) λhge=>?_)
 ·refine iF (hb1.ext x4) lM rfl ?_;have hmm:=fY (i:=i) (a:=(j:Int)) (by omega) (by omega);have mr:(i.meth j).right:=ir.2.2.1.2.1 _ (List.mem_of_getElem? hmm);refine GW ((h.ext x12).ext x4) ir (by omega) λw0 c w5 x40 hW x45=>?_;refine aEv hW ir mr (λst w6 hw hW6=>?_) λpc e w6 hw hne x6=>?_
  ·refine hU.2 (hO.2 (cH.2 ?_));simp only [aR];refine bA.2 ?_;rw [aM (by omega)];refine ⟨⟨j+1,rfl,by omega,x4.trans (x40.trans hW6.x),λq hq=>?_⟩,by simp only [aL];omega⟩;by_cases hqj:q=j
   ·subst hqj;exact ⟨st,hw⟩
   ·exact hall q (by omega)
  ·refine hU.2 (hO.2 (cH.2 ?_));simp only [hne,aR];refine oD HV [(0,i64 j),(1,i64 pc)] rfl rfl ?_;refine fin (hB2.ext (x4.trans (x40.trans x6))) ((x12.trans x4).trans (x40.trans x6)) ⟨λh=>absurd h hne,λht=>?_⟩;obtain ⟨s,hs⟩:=ht.2 _ (List.mem_of_getElem? hmm);have:=hs.det hw;cases this
 ·have hjl:j=i.methods.length:=by omega
  subst hjl;refine oD HV [] rfl rfl ?_;refine fin (hB2.ext x4) (x12.trans x4) ⟨λ_=>⟨ir,λm hm=>?_⟩,λ_=>rfl⟩;obtain ⟨q,hq⟩:=List.getElem?_of_mem hm;have hlt:=(List.getElem?_eq_some_iff.1 hq).1;have hmm:=fY (i:=i) (a:=(q:Int)) (by omega) (by omega);rw [Int.toNat_natCast,hq] at hmm;cases hmm;exact hall q hlt
theorem aEc (h:kP w p i) (hn:lA w i) (hb7:iK.rg i)
  (yes:∀ w0 c st w',mU i->0<=k->k < i.methods.length->rY i (i.meth k) (some st)->aE w w0->Wk w0 w' c i (i.meth k) st->K (.pointer (some ⟨c.gb,0,none⟩)) w')
  (no:∀ w',¬ (mU i/\0<=k/\k < i.methods.length)->aE w w'->K (Value.pointer none) w'):aC prog 51 #[p.val i,i64 k] w K:=by
 apply bGm;unfold ZS jO.val;refine bx λb1 w1 hb1 x1=>?_;refine iF hb1 lM rfl ?_;refine GA (h.ext x1) (hn.ext x1) hb7 λa b e w2 he x2=>?_;refine hU.2 (hO.2 ?_);refine wV aEr rfl rfl λb3 w3 _ x3=>?_;have x13:=(x1.trans x2).trans x3;have hb1:=hb1.ext (x2.trans x3);refine cH.2 ?_;by_cases he0:e=0
 case neg=>
  simp only [he0,aR];exact no _ (λht=>he0 (he.2 ht.1)) x13
 have ht:=he.1 he0;by_cases hk0:k < 0
 ·simp only [he0,hk0,aR];exact no _ (λht=>by omega) x13
 simp only [he0,hk0,aR];refine bC hb1 bP dE rfl (yY gO (h.ext x13).mt (kO.2 ?_));by_cases hkl:(i.methods.length:Int)<=k
 ·simp only [hkl,aR];exact no _ (λht=>by omega) x13
 simp only [hkl,aR];obtain ⟨q,rfl⟩:∃ q:Nat,k=q:=⟨k.toNat,by omega⟩;have hmm:=fY (i:=i) (a:=(q:Int)) (by omega) (by omega);have mr:(i.meth q).right:=ht.1.2.2.1.2.1 _ (List.mem_of_getElem? hmm);refine iF hb1 lM rfl ?_;refine GW (h.ext x13) ht.1 (by omega) λw0 c w5 x30 hW x35=>?_;refine aEv hW ht.1 mr (λst w6 hw hW6=>?_) λpc e' w6 hw hne x6=>?_
 ·exact yes w0 c st w6 ht (by omega) (by omega) hw (x13.trans x30) hW6
 ·obtain ⟨s,hs⟩:=ht.2 _ (List.mem_of_getElem? hmm);have:=hs.det hw;cases this
theorem aEm (h:kP w p i) (hn:lA w i) (hb7:iK.rg i)
  (yes:∀ st sv w',mU i->0<=k->k < i.methods.length->rY i (i.meth k) (some st)->qQ w' sv st.st->aE w w'->K (.tuple #[sv,.bool true]) w')
  (no:∀ w',¬ (mU i/\0<=k/\k < i.methods.length)->aE w w'->K (.tuple #[aX,.bool false]) w'):aC prog 24 #[p.val i,i64 k] w K:=by
 apply bHj;unfold aAn jO.val;refine bx λb1 w1 hb1 x1=>?_;refine iF hb1 lM rfl ?_;refine aEc (h.ext x1) (hn.ext x1) hb7 (λw0 c st w2 ht h0 hk hw x2 hW=>?_) λw2 hne x2=>?_
 ·refine V.ok (SP underlying163) ?_;simp only [aR];refine ⟨.inl ⟨_,rfl⟩,bC hW.boxed dO HD rfl ?_⟩;have hm:=fY (i:=i) (a:=k) h0 hk;have mr:(i.meth k).right:=ht.1.2.2.1.2.1 _ (List.mem_of_getElem? hm);have:=mr.2.2.2.1.2;exact yes st _ _ ht h0 hk hw (hW.mem.states (by omega)) ((x1.trans x2).trans hW.x)
 ·refine V.ok (LK underlying163) ?_;simp only [aR];exact no _ hne (x1.trans x2)
end Go.Proofs.YtjcmcfidblhnnaaGreatDoor
namespace Go.Vc
section
variable {P:Program} {w:O} {K:Y->O->Prop}
theorem apG {t e by_ ty sz:Nat} {z:Y} (ht:P.underlying t=some (.slice e)) (hi:dD P e z sz by_) (hz:(z.cells.size == sz)=true) (hsz:0 < sz) {B:Nat} {v:Y} {n:Nat} {xs:List Y} (ho:w.ownsRow B e sz v n xs) {x:Y} {m:Nat} {news:List Y} (hs:aA w x sz m news) (h1:news.all bY=true)
  (hb:(n+m)*by_<=140737488355328) (h63:n+m<=maxLen) (hB:B<=w.heap.size)
  (hk:∀ v' w',w'.ownsRow B e sz v' (n+m) (xs++news)->w.grownBy w' v.ownBlock->(v'.ownBlock=v.ownBlock\/v'.ownBlock=some w.heap.size)->K v' w') :
  V P (Builtin.append_ #[t,t] ty #[v,x]) w K:=by
 obtain ⟨i,hi',hz',hn,hby⟩:=info_parts hi;rcases hs.2 with ⟨rfl,rfl⟩|⟨b,off,cap,rfl,_,_,hc⟩
 ·have hnews:news=[]:=by have:=hs.1;simpa using this
  subst hnews;exact V.ok (run_append_owned_none w B t ty e i sz ht hi' v n xs ho) (hk _ _ (by simpa using ho) ⟨rfl,rfl,rfl,Nat.le_refl _,λ_ _ _=>rfl⟩ (.inl rfl))
 ·obtain ⟨v',w',hr,h2,h3,_,h5⟩:=run_append_own_at (P:=P) w B t ty e i z sz by_ ht hi' hz' hn hby (by simpa using hz) hsz v n xs ho ⟨b,off,none⟩ m cap news hs.1
   (λj u hj=>by rw [lE];exact hc j u hj) (λu hu=>by rw [BP];exact List.all_eq_true.1 h1 u hu) h63 hb hB
  exact V.ok hr (hk v' w' h2 h3 h5)
theorem zX {t e by_ sz:Nat} {z:Y} (ht:P.underlying t=some (.slice e)) (hi:dD P e z sz by_) (hz:(z.cells.size == sz)=true) (hsz:0 < sz) (vs:List Y) {n:Nat} {parts:Array (Nat × Y)} (hn:n=vs.length) (hp:parts.toList=(vs.zipIdx 0).map λx=>(x.2,x.1)) (hc:∀ v∈vs,v.cells.size=sz)
  (h0:0 < n) (hl:n*sz<=16777216) (hk:∀ v w',w'.ownsRow w.heap.size e sz v n (vs.flatMap λv=>v.cells.toList)->aE w w'->K v w'):V P (Instr.buildSlice t n parts) w K:=by
 subst hn;obtain ⟨i,hi',hz',hn,hby⟩:=info_parts hi;have hz2:z.cells.size=sz:=by simpa using hz
 have hl1:vs.length<=vs.length*sz:=Nat.le_mul_of_pos_right _ hsz;have hf:=Go.Great.fill_whole hsz vs ((Array.range (vs.length*sz)).map (z.cells[· % z.cells.size]!)) hc (by simp)
 have hr:=run_buildSlice (P:=P) w t e vs.length parts _ i z ht hi' hz' (by rw [hn];omega) (by rw [hn];omega) (by rw [hn,hp];exact hf);refine V.ok hr (hk _ _ ?_ ((aE.refl w).alloc _))
 have hsize:((vs.flatMap λv=>v.cells.toList).toArray).size=vs.length*sz:=by
  clear hr hf hl hp h0 hl1 hk;simp only [List.size_toArray];induction vs with
  | nil=>simp
  | cons v l ih=>
   have h1:=hc v (by simp);have h2:=ih λu hu=>hc u (by simp [hu]);simp only [List.flatMap_cons,List.length_append,List.length_cons,Array.length_toList,h1,h2,Nat.add_mul];omega
 have:=World.ownsRow_lit (base:=w.heap.size) (e:=e) (size:=sz) w (vs.flatMap λv=>v.cells.toList).toArray vs.length (Nat.le_refl _) (by unfold maxLen;omega) hsize;simpa using this
theorem aQt {t e n by_:Nat} {z:Y} {k:IntKind} (ht:P.underlying t=some (.array n e)) (hi:dD P e z 1 by_) (hd:P.underlying e=some (.int k)) {l:List Int} (hl:l.length=n) {i:Int} (h0:0<=i) (h1:i < n) (hk:∀ z∈l,K (i64 z) w) :
  V P (Instr.index t (.agg (l.map i64).toArray) (i64 i)) w K:=by
 have hlt:i.toNat < l.length:=by omega
 refine V.ok (bIu ht hi ⟨_,hd⟩ h0 h1 (u:=i64 l[i.toNat]) ?_ rfl) (hk _ (List.getElem_mem hlt));simp [hlt]
end
end Go.Vc
namespace Go.Proofs.YtjcmcfidblhnnaaGreatDoor
open Tryz
open Go.Vc Go.Tc
variable {w:O} {K:Y->O->Prop}
variable {d n n':Nat} {wb:O} {k:Int}
theorem eJ {n m:Int} (hm:0 < m) (hm2:m<=4611686018427387904) (hk:∀ k,0<=k->k < m->K (i64 k) w):aC prog 16 #[i64 n,i64 m] w K:=by
 apply bHr;unfold aAw;refine rm hm λc _ h1 h2=>?_;refine aW.2 (aB (λhlt=>?_) λhge=>?_)
 ·refine bA.2 ?_;rw [aM (by omega)];exact hk _ (by omega) (by omega)
 ·exact hk _ (by omega) h2
def wU (w:O):Prop:=∀ j,j < 12->∃ n,w.cell? ⟨0,j,none⟩=some (i64 n)
structure Mc where
 H:Nat->Prop
 B:Nat
 g:Nat
 nv:Y
 lv:Y
 nums:List Int
 loc:List Int
structure Mo (c:Mc) (wb:O):Prop where
 gB:c.g < c.B/\c.B<=wb.heap.size
 hH:∀ k,c.H k->k < wb.heap.size/\k≠c.g
 nums:∀ w,Fr (λk=>¬ c.H k) wb w->aN w c.nv c.nums
 loc:∀ w,Fr (λk=>¬ c.H k) wb w->aN w c.lv c.loc
 bins:∀ w,Fr (λk=>¬ c.H k) wb w->wU w
 ln:c.nums.length<=4611686018427387904
 ll:c.loc.length<=1000000
structure Mk (c:Mc) (wb w:O) (lo n d:Nat):Prop where
 o:Mo c wb
 fr:Fr (λk=>¬ c.H k) wb w
 at_:∃ (cv:Y) (code:List kJ) (pos:Nat),bO w c.g [cv,c.nv,i64 pos,c.lv,i64 d] 195/\w.ownsRow c.B 88 3 cv code.length (iI code)/\lo<=code.length/\code.length<=n/\pos<=n/\(∀ x∈code,x.rg)/\∀ k,cv.ownBlock=some k->¬ c.H k
theorem Mk.mono {c:Mc} {lo lo':Nat} (h:Mk c wb w lo n d) (h1:lo'<=lo) (h2:n<=n'):Mk c wb w lo' n' d:=by
 obtain ⟨o,fr,cv,code,pos,a1,a2,a3,a4,a5,a6⟩:=h;exact ⟨o,fr,cv,code,pos,a1,a2,by omega,by omega,by omega,a6⟩
theorem Mk.up {c:Mc} {lo:Nat} (h:Mk c wb w lo n d) (h2:n<=n'):Mk c wb w 0 n' d:=h.mono (Nat.zero_le _) h2
theorem Mk.ext {c:Mc} {wb w':O} {lo n d:Nat} (h:Mk c wb w lo n d) (hx:aE w w'):Mk c wb w' lo n d:=by
 obtain ⟨o,fr,cv,code,pos,a1,a2,a3⟩:=h;exact ⟨o,fr.trans (Fr.of_ext hx) λ_ _ h=>h,cv,code,pos,a1.ext hx,hx.own a2,a3⟩
theorem Mk.numsAt {c:Mc} {lo:Nat} (h:Mk c wb w lo n d):aN w c.nv c.nums:=h.o.nums w h.fr
theorem Mk.locAt {c:Mc} {lo:Nat} (h:Mk c wb w lo n d):aN w c.lv c.loc:=h.o.loc w h.fr
theorem Mk.gH {c:Mc} {lo:Nat} (h:Mk c wb w lo n d):¬ c.H c.g:=λhg=>(h.o.hH _ hg).2 rfl
theorem ldD {c:Mc} {lo:Nat} (h:Mk c wb w lo n d) (hk:K (i64 (d:Nat)) w):V prog (Instr.fieldAt 195 (.pointer (some ⟨c.g,0,none⟩)) 4) w λq w1=>V prog (Instr.loadAt 3 q) w1 K:=by
 obtain ⟨cv,code,pos,a1,_⟩:=h.at_;exact bC (bO.boxed a1) iD aG rfl hk
theorem stD {c:Mc} {lo d':Nat} {K':O->Prop} (h:Mk c wb w lo n d) (hk:∀ w',Mk c wb w' lo n d'->K' w'):V prog (Instr.fieldAt 195 (.pointer (some ⟨c.g,0,none⟩)) 4) w λq w1=>U prog (Instr.storeAt 3 q (i64 (d':Nat))) w1 λ_ w2=>K' w2:=by
 have hg:=h.gH;obtain ⟨o,fr,cv,code,pos,a1,a2,a3⟩:=h;refine FS iD bW a1 (n:=5) rfl (by decide) rfl (hk _ ⟨o,fr.set hg,cv,code,pos,a1.set 4 _,?_,a3⟩);exact (Fr.of_set (S:=λi=>i=c.g) rfl).own a2 λk hk he=>by have:=(a2.lt k hk).1;have:=o.gB.1;omega
theorem aCr (l:List kJ) (x:kJ):iI (l++[x])=iI l++[i64 x.op,i64 x.a,i64 x.b]:=by simp [iI]
theorem gT {c:Mc} {lo:Nat} {op a b:Int} (h:Mk c wb w lo n d) (hn:n<=1000000) (hk:∀ w',Mk c wb w' 1 (n+1) d->K (.tuple #[]) w') (hb:-9223372036854775808<=b/\b<=9223372036854775807:=by decide) :
  aC prog 89 #[.pointer (some ⟨c.g,0,none⟩),i64 op,i64 a,i64 b] w K:=by
 have hg:=h.gH;obtain ⟨o,fr,cv,code,pos,a1,a2,a3,a4,a5,a6,a7⟩:=h;have hgB:=o.gB;apply bFe;unfold YM;refine ⟨.inl ⟨_,rfl⟩,bC (bO.boxed a1) cS iM rfl ?_⟩;refine oD yN [(0,i64 op),(1,i64 a),(2,i64 b)] rfl rfl ?_;refine zX underlying36 nJ rfl (by decide) [.agg #[i64 op,i64 a,i64 b]] rfl rfl (by intro v hv;rw [List.mem_singleton] at hv;subst hv;rfl) (by decide) (by decide) λuv w5 ho5 x5=>?_;refine apG underlying36 nJ rfl (by decide) (x5.own a2) (aA.of_own ho5) (by rfl) (by omega) (by unfold maxLen;omega) (Nat.le_trans hgB.2 (fr.trans (Fr.of_ext x5) λ_ _ h=>h).size) λv6 w6 ho6 hg6 hl6=>?_;have a1':bO w6 c.g _ _:=(Fr.of_grown (S:=λk=>cv.ownBlock=some k) hg6 λk hk=>hk).blk (a1.ext x5) λhk=>by have:=(a2.lt _ hk).1;omega
 have fr6:Fr (λk=>¬ c.H k) wb w6:=(fr.trans (Fr.of_ext x5) λ_ _ h=>h).trans (Fr.of_grown (S:=λk=>¬ c.H k) hg6 λk hk=>a7 k hk) λ_ _ h=>h;have e6:iI code++[Value.agg #[i64 op,i64 a,i64 b]].flatMap (λv=>v.cells.toList)=iI (code++[⟨op,a,b⟩]):=by rw [aCr];rfl
 rw [e6] at ho6;refine ⟨.inl ⟨_,rfl⟩,FS cS HL a1' (n:=5) rfl (by decide) (jB ho6) (hk _ ⟨o,fr6.set hg,v6,code++[⟨op,a,b⟩],pos,a1'.set 0 _,?_,by simp,by simp;omega,by omega,λx hx=>?_,λk hk=>?_⟩)⟩
 ·rw [List.length_append];exact (Fr.of_set (S:=λi=>i=c.g) rfl).own ho6 λk hk he=>by have:=(ho6.lt k hk).1;omega
 ·rcases List.mem_append.1 hx with hx|hx
  ·exact a6 x hx
  ·rw [List.mem_singleton] at hx;subst hx;exact hb
 ·rcases hl6 with h6|h6
  ·rw [h6] at hk;exact a7 k hk
  ·rw [h6] at hk;cases hk;intro hH;have h1:=(o.hH _ hH).1;have h2:=fr.size;have h3:=x5.size;omega
theorem kD {c:Mc} {lo:Nat} (h:Mk c wb w lo n d) (hn:n<=1000000) (hk:∀ z w',Mk c wb w' lo (n+1) d->Fr (λk=>k=c.g) w w'->K (i64 z) w') :
  aC prog 188 #[.pointer (some ⟨c.g,0,none⟩)] w K:=by
 have hg:=h.gH;have hnum:=h.numsAt;have h0:=h;obtain ⟨o,fr,cv,code,pos,a1,a2,a3,a4,a5,a6⟩:=h;have hgB:=o.gB;have hln:=o.ln;apply aVv;unfold OW;refine ⟨.inl ⟨_,rfl⟩,bC (bO.boxed a1) fI bF rfl (fQ aQ hnum (aH.2 (aB (λhz=>?_) λhz=>?_)))⟩
 ·exact hk 0 w (h0.mono (Nat.le_refl _) (by omega)) (Fr.refl _ _)
 refine ⟨.inl ⟨_,rfl⟩,bC (bO.boxed a1) gD aG rfl (bA.2 ?_)⟩;rw [aM (by omega),bK];refine ⟨.inl ⟨_,rfl⟩,FS gD bW a1 (n:=5) rfl (by decide) rfl ?_⟩;have hset:Fr (λk=>k=c.g) w (w.setCell ⟨c.g,2,none⟩ (i64 ((pos+1:Nat):Int))):=Fr.of_set rfl
 have hm:Mk c wb (w.setCell ⟨c.g,2,none⟩ (i64 ((pos+1:Nat):Int))) lo (n+1) d:=by
  refine ⟨o,fr.set hg,cv,code,pos+1,a1.set 2 _,?_,a3,by omega,by omega,a6⟩;exact hset.own a2 λk hk he=>by have:=(a2.lt k hk).1;omega
 have a1s:=a1.set 2 (i64 ((pos+1:Nat):Int));generalize w.setCell ⟨c.g,2,none⟩ (i64 ((pos+1:Nat):Int))=w2 at hset hm a1s;have D1:aE w2 w2.drew:=(aE.refl _).drew;have hbx:∀ w',aE w2.drew w'->aY w' c.g [cv,c.nv,i64 ((pos+1:Nat):Int),c.lv,i64 d]:=λw' hx=>bO.boxed (a1s.ext (D1.trans hx));have hnum2:=(hm.ext D1).numsAt;have hlen:0 < c.nums.length:=by omega
 refine aK.mk' (λw'=>aE w2.drew w') (aE.refl _) ?_;refine ⟨.inl ⟨_,rfl⟩,jG hbx fI bF rfl ?_⟩;refine ⟨.inl ⟨_,rfl⟩,jG hbx gD aG rfl ?_⟩;refine ⟨.inl ⟨_,rfl⟩,jG hbx fI bF rfl (sS aQ hnum2 ?_)⟩;refine aD.ok (λw' _=>aFh (by omega)) ?_
 have e1:(((pos+1:Nat):Int)).tmod (c.nums.length:Int)=(((pos+1) % c.nums.length:Nat):Int):=by
  rw [Int.tmod_eq_emod_of_nonneg (by omega)];rfl
 rw [e1];have hlt:=Nat.mod_lt (pos+1) hlen;refine oE aQ aG hnum2 (λ_ h=>h) (by omega) (by omega) (cK (lL hlt)) ?_;refine ⟨.inl ⟨_,rfl⟩,jG hbx gD aG rfl ?_⟩;refine ⟨.inl ⟨_,rfl⟩,jG hbx fI bF rfl (sS aQ hnum2 ?_)⟩;refine aD.ok (λw' _=>aFi (by omega)) (aD.ok (λw' _=>DD) ?_);exact hk _ _ (hm.ext D1) (hset.trans (Fr.of_ext D1) λ_ _ h=>h)
theorem xV {c:Mc} {lo:Nat} (h:Mk c wb w lo n d) (hn:n<=1000000) (hk:∀ z b w',Mk c wb w' lo (n+1) d->K (.tuple #[i64 z,.bool b]) w') :
  aC prog 189 #[.pointer (some ⟨c.g,0,none⟩),i64 k] w K:=by
 have hgB:=h.o.gB;have hsz:=h.fr.size;have hll:=h.o.ll;apply aVu;unfold OV;refine ⟨λsv v w'=>∃ (j:Nat) (l:List Int),v=i64 j/\j<=c.loc.length/\l.length<=j/\aE w w'/\w'.ownsRow w.heap.size 3 1 sv l.length (l.map i64),λ_ v _=>c.loc.length - (RowKit.intOf v).toNat,⟨0,[],rfl,Nat.zero_le _,Nat.le_refl _,aE.refl _,World.ownsRow_nil _ _ _ _⟩,?_⟩;rintro sv _ w1 ⟨j,l,rfl,hj,hl,x1,ho⟩ _;have h1:=h.ext x1;obtain ⟨o,fr,cv,code,pos,a1,a2,_⟩:=h1;have hloc:=o.loc _ fr;refine ⟨.inl ⟨_,rfl⟩,bC (bO.boxed a1) fU bF rfl (fQ aQ hloc (aW.2 (aB (λhlt=>?_) λhge=>?_)))⟩
 ·refine ⟨.inl ⟨_,rfl⟩,bC (bO.boxed a1) fU bF rfl ?_⟩;refine lV aQ aG hloc (by omega) (by omega) (cK (lL (l:=c.loc) (j:=j) (by omega))) (aH.2 (aB (λhe=>?_) λhe=>?_))
  ·refine jX bB [i64 j] rfl rfl (by simp) rfl λv2 w2 ho2 x2=>?_;refine UQ bB (x2.own ho) (aA.of_own ho2) rfl (by omega) (by unfold maxLen;omega) (x1.trans x2).size λv3 w3 ho3 hg3=>?_;refine kQ (by omega) ?_;exact ⟨⟨j+1,l++[(j:Int)],rfl,by omega,by simp;omega,(x1.trans x2).grown hg3 λq hq=>((x2.own ho).lt q hq).1,by simpa using ho3⟩,by simp only [aL];omega⟩
  ·refine kQ (by omega) ?_;exact ⟨⟨j+1,l,rfl,by omega,by omega,x1,ho⟩,by simp only [aL];omega⟩
 refine fQ aQ (aA.of_own ho) (aH.2 (aB (λhz=>?_) λhz=>?_))
 ·exact hk _ _ _ ((h.ext x1).mono (Nat.le_refl _) (by omega))
 refine kD (h.ext x1) hn λz w2 h2 f2=>?_;have ho2:=f2.own ho λq hq he=>by have:=(ho.lt q hq).1;omega
 refine fQ aQ (aA.of_own ho2) (eJ (by omega) (by omega) λq hq0 hq1=>?_);obtain ⟨r,rfl⟩:∃ r:Nat,q=r:=⟨q.toNat,by omega⟩;refine JN aQ aG ho2 (by omega) (by omega) (cK (lL (by omega))) ?_;exact hk _ _ _ h2
theorem vP {c:Mc} {lo:Nat} (h:Mk c wb w lo n d) (hn:n<=900000) (hk:∀ w',Mk c wb w' 0 (n+6) d->K (.tuple #[]) w') :
  aC prog 138 #[.pointer (some ⟨c.g,0,none⟩),i64 k] w K:=by
 apply aXv;unfold QR;refine kD h (by omega) λz w1 h1 _=>?_;refine eJ (by decide) (by decide) λq hq0 hq1=>?_;have hc:q=0\/q=1\/q=2\/q=3\/q=4\/q=5:=by omega
 rcases hc with rfl|rfl|rfl|rfl|rfl|rfl
 case inl|inr.inl=>
  all_goals
   simp only [aR,Int.reduceEq]
   try intro _
   refine xV h1 (by omega) λz b w2 h2=>?_;refine hU.2 (hO.2 ?_);cases b with
   | true=>
    refine bJ.2 ?_;exact gT h2 (by omega) λw3 h3=>hk _ (h3.up (by omega))
   | false=>
    refine aP.2 ?_;exact gT h2 (by omega) λw3 h3=>hk _ (h3.up (by omega))
 case inr.inr.inl|inr.inr.inr.inl=>
  all_goals
   simp only [aR,Int.reduceEq]
   intros
   refine eY.2 ?_;refine bA.2 ?_;exact gT h1 (by omega) λw3 h3=>hk _ (h3.up (by omega))
 ·simp only [aR,Int.reduceEq]
  intros
  refine eY.2 ?_;exact gT h1 (by omega) λw3 h3=>hk _ (h3.up (by omega))
 ·simp only [aR,Int.reduceEq]
  intros
  refine kD h1 (by omega) λz w2 h2 _=>?_;refine eJ (by decide) (by decide) λq hq0 hq1=>?_;refine gT h2 (by omega) λw3 h3=>?_;refine V.ok (w':=w3) (v:=.agg (([0,1,2,4,5,6]:List Int).map i64).toArray) (by kernel_rfl) ?_;refine kD h3 (by omega) λz w4 h4 _=>?_;refine eJ (by decide) (by decide) λq hq0 hq1=>?_;refine aQt underlying270 bW underlying3 (by decide) hq0 (by simpa using hq1) λu hu=>?_;refine gT h4 (by omega) (λw5 h5=>hk _ (h5.up (by omega))) ?_;simp at hu;omega
end Go.Proofs.YtjcmcfidblhnnaaGreatDoor
namespace Go.Vc
theorem aRj {P:Program} {w:O} {K:Y->O->Prop} {t:TypeId} {parts:Array (Nat × Y)} {v:Y} (h:∀ w,(Instr.build t parts).run P w=.ok v w) (hk:K v w):V P (Instr.build t parts) w K:=V.ok (h w) hk
end Go.Vc
namespace Go.Proofs.YtjcmcfidblhnnaaGreatDoor
open Tryz
open Go.Vc Go.Tc
variable {w:O} {K:Y->O->Prop}
variable {d k n:Nat} {wb:O}
def vR (d k:Nat):Prop:=∀ {c:Mc} {wb w:O} {lo n:Nat} {K:Y->O->Prop},Mk c wb w lo n d->n+k<=800000->(∀ w',Mk c wb w' 0 (n+k) d->K (.tuple #[]) w')->aC prog 140 #[.pointer (some ⟨c.g,0,none⟩)] w K
def yR (d k:Nat):Prop:=∀ {c:Mc} {wb w:O} {lo n:Nat} {K:Y->O->Prop},Mk c wb w lo n d->n+k<=800000->(∀ w',Mk c wb w' 0 (n+k) d->K (.tuple #[]) w')->aC prog 141 #[.pointer (some ⟨c.g,0,none⟩)] w K
theorem oN (hp:vR d k) (hk2:2<=k) {c:Mc} {lo:Nat} (h:Mk c wb w lo n d) (hn:n+k+1<=800000) (hk:∀ w',Mk c wb w' 0 (n+k+1) d->K (.tuple #[]) w') :
  aC prog 139 #[.pointer (some ⟨c.g,0,none⟩)] w K:=by
 apply aXu;unfold QQ;refine kD h (by omega) λz w1 h1 _=>?_;refine eJ (by decide) (by decide) λq hq0 hq1=>?_;refine aH.2 (aB (λhe=>?_) λhe=>?_)
 ·exact hp h1 (by omega) λw2 h2=>hk _ (h2.up (by omega))
 ·refine kD h1 (by omega) λz w2 h2 _=>?_;refine eJ (by decide) (by decide) λq hq0 hq1=>?_;exact gT h2 (by omega) λw3 h3=>hk _ (h3.up (by omega))
theorem aGx {c:Mc} {lo:Nat} {i:Int} (h:Mk c wb w lo n d) (h0:0<=i) (h1:i < 12) (hk:∀ z,K (i64 z) w) :
  V prog (Instr.indexAt 272 (.pointer (some ⟨0,0,none⟩)) (i64 i)) w λp w1=>V prog (Instr.loadAt 3 p) w1 K:=by
 refine V.ok (VS underlying272 bW h0 (by simpa using h1)) ?_;obtain ⟨op,hop⟩:=h.o.bins _ h.fr i.toNat (by omega);exact V.ok (aFn (by rw [Nat.zero_add];exact hop)) (hk _)
theorem BO (h20:20<=k) (hd:d<=3) (hs:d < 3->∃ k',vR (d+1) k'/\yR (d+1) k'/\20<=k'/\k=3*k'+20):vR d k:=by
 intro c wb w lo n K h hn hk;apply aXt;unfold QP;refine ⟨.inl ⟨_,rfl⟩,ldD h (bA.2 ?_)⟩;rw [aM (by omega),bK];refine ⟨.inl ⟨_,rfl⟩,stD h λw1 h1=>?_⟩;refine kD h1 (by omega) λz0 w2 hh0 _=>?_;refine eJ (by decide) (by decide) λq hq0 hq1=>?_;refine ⟨λv w'=>∃ z,v=i64 z/\w'=w2/\0<=z/\z < 12/\(d=3->z < 3),?_,?_⟩
 ·refine ⟨.inl ⟨_,rfl⟩,ldD hh0 (iH.2 (aB (λhg=>?_) λhg=>?_))⟩
  ·refine rm (by decide) λe he h1 h2=>⟨e,rfl,rfl,?_,by omega,λ_=>by omega⟩;rw [he];exact Int.tmod_nonneg _ hq0
  ·exact ⟨q,rfl,rfl,hq0,hq1,λ_=>by omega⟩
 rintro _ _ ⟨z,rfl,rfl,hz0,hz1,hleaf⟩ _;refine ⟨λw'=>Mk c wb w' 0 (n+k) (d+1),?_,?_⟩
 case refine_2=>
  intro w3 h3 _;refine ⟨.inl ⟨_,rfl⟩,ldD h3 (eY.2 ?_)⟩;rw [aM (by omega),show ((d+1:Nat):Int) - 1=((d:Nat):Int) by omega];exact ⟨.inl ⟨_,rfl⟩,stD h3 λw4 h4=>hk _ h4⟩
 have hc:z=0\/z=1\/z=2\/z=3\/z=4\/z=5\/z=6\/z=7\/z=8\/z=9\/z=10\/z=11:=by omega
 have hdeep:3<=z->∃ k',vR (d+1) k'/\yR (d+1) k'/\20<=k'/\k=3*k'+20:=λhz=>hs (by omega);rcases hc with rfl|rfl|rfl|rfl|rfl|rfl|rfl|rfl|rfl|rfl|rfl|rfl
 iterate 2
  ·simp only [aR,Int.reduceEq,Int.reduceNeg]
   intros
   refine aRj (v:=.agg (([0,1,2,3,7,-1,64,1073741824]:List Int).map i64).toArray) (λw=>by kernel_rfl) ?_;refine kD hh0 (by omega) λz w1 hh1 _=>?_;refine eJ (by decide) (by decide) λq hq0 hq1=>?_;refine aQt underlying271 bW underlying3 (by decide) hq0 (by simpa using hq1) λu hu=>?_;refine gT hh1 (by omega) λw1 hh2=>?_;exact hh2.up (by omega)
 ·simp only [aR,Int.reduceEq,Int.reduceNeg]
  intros
  refine xV hh0 (by omega) λz b w1 hh1=>?_;refine hU.2 (hO.2 ?_);cases b with
  | true=>
   refine bJ.2 ?_;refine gT hh1 (by omega) λw1 hh2=>?_;exact hh2.up (by omega)
  | false=>
   refine aP.2 ?_;refine kD hh1 (by omega) λz w1 hh2 _=>?_;refine rm (by decide) λe _ _ _=>?_;refine gT hh2 (by omega) λw1 hh3=>?_;exact hh3.up (by omega)
 ·simp only [aR,Int.reduceEq,Int.reduceNeg]
  intros
  obtain ⟨k2,hpub,hsec,h21,hk3⟩:=hdeep (by decide);refine xV hh0 (by omega) λz b w1 hh1=>?_;refine hU.2 (hO.2 ?_);cases b with
  | true=>
   refine bJ.2 ?_;refine gT hh1 (by omega) λw1 hh2=>?_;exact hh2.up (by omega)
  | false=>
   refine aP.2 ?_;refine kD hh1 (by omega) λz w1 hh2 _=>?_;refine rm (by decide) λe _ _ _=>?_;refine gT hh2 (by omega) λw1 hh3=>?_;exact hh3.up (by omega)
 iterate 3
  ·simp only [aR,Int.reduceEq,Int.reduceNeg]
   intros
   obtain ⟨k2,hpub,hsec,h21,hk3⟩:=hdeep (by decide);refine hpub hh0 (by omega) λw1 hh1=>?_;refine hpub hh1 (by omega) λw1 hh2=>?_;refine kD hh2 (by omega) λz w1 hh3 _=>?_;refine eJ (by decide) (by decide) λq hq0 hq1=>?_;refine aGx hh3 hq0 hq1 λu=>?_;refine gT hh3 (by omega) λw1 hh4=>?_;exact hh4.up (by omega)
 ·simp only [aR,Int.reduceEq,Int.reduceNeg]
  intros
  obtain ⟨k2,hpub,hsec,h21,hk3⟩:=hdeep (by decide);refine kD hh0 (by omega) λz w1 hh1 _=>?_;refine eJ (by decide) (by decide) λq hq0 hq1=>?_;refine bA.2 ?_;refine gT hh1 (by omega) λw1 hh2=>?_;refine gT hh2 (by omega) λw1 hh3=>?_;exact hh3.up (by omega)
 ·simp only [aR,Int.reduceEq,Int.reduceNeg]
  intros
  obtain ⟨k2,hpub,hsec,h21,hk3⟩:=hdeep (by decide);refine hpub hh0 (by omega) λw1 hh1=>?_;refine hpub hh1 (by omega) λw1 hh2=>?_;refine aRj (v:=.agg (([17,18]:List Int).map i64).toArray) (λw=>by kernel_rfl) ?_;refine kD hh2 (by omega) λz w1 hh3 _=>?_;refine eJ (by decide) (by decide) λq hq0 hq1=>?_;refine aQt underlying273 bW underlying3 (by decide) hq0 (by simpa using hq1) λu hu=>?_;refine gT hh3 (by omega) λw1 hh4=>?_;exact hh4.up (by omega)
 ·simp only [aR,Int.reduceEq,Int.reduceNeg]
  intros
  obtain ⟨k2,hpub,hsec,h21,hk3⟩:=hdeep (by decide);refine vP hh0 (by omega) λw1 hh1=>?_;refine oN hpub (by omega) hh1 (by omega) λw1 hh2=>?_;refine gT hh2 (by omega) λw1 hh3=>?_;exact hh3.up (by omega)
 ·simp only [aR,Int.reduceEq,Int.reduceNeg]
  intros
  obtain ⟨k2,hpub,hsec,h21,hk3⟩:=hdeep (by decide);refine hpub hh0 (by omega) λw1 hh1=>?_;refine aRj (v:=.agg (([15,16,15]:List Int).map i64).toArray) (λw=>by kernel_rfl) ?_;refine kD hh1 (by omega) λz w1 hh2 _=>?_;refine eJ (by decide) (by decide) λq hq0 hq1=>?_;refine aQt underlying274 bW underlying3 (by decide) hq0 (by simpa using hq1) λu hu=>?_;refine gT hh2 (by omega) λw1 hh3=>?_;exact hh3.up (by omega)
 ·simp only [aR,Int.reduceEq,Int.reduceNeg]
  intros
  obtain ⟨k2,hpub,hsec,h21,hk3⟩:=hdeep (by decide);refine kD hh0 (by omega) λz w1 hh1 _=>?_;refine eJ (by decide) (by decide) λq hq0 hq1=>?_;refine bA.2 ?_;refine vP hh1 (by omega) λw1 hh2=>?_;refine gT hh2 (by omega) λw1 hh3=>?_;exact hh3.up (by omega)
theorem BK (h20:20<=k) (hd:d<=3) (hs:d < 3->∃ k',vR (d+1) k'/\yR (d+1) k'/\20<=k'/\k=3*k'+20):yR d k:=by
 intro c wb w lo n K h hn hk;apply aXs;unfold QO;refine ⟨.inl ⟨_,rfl⟩,ldD h (bA.2 ?_)⟩;rw [aM (by omega),bK];refine ⟨.inl ⟨_,rfl⟩,stD h λw1 h1=>?_⟩;refine kD h1 (by omega) λz0 w2 hh0 _=>?_;refine eJ (by decide) (by decide) λq hq0 hq1=>?_;refine ⟨λv w'=>∃ z,v=i64 z/\w'=w2/\0<=z/\z < 9/\(d=3->z < 2),?_,?_⟩
 ·refine ⟨.inl ⟨_,rfl⟩,ldD hh0 (iH.2 (aB (λhg=>?_) λhg=>?_))⟩
  ·refine rm (by decide) λe he h1 h2=>⟨e,rfl,rfl,?_,by omega,λ_=>by omega⟩;rw [he];exact Int.tmod_nonneg _ hq0
  ·exact ⟨q,rfl,rfl,hq0,hq1,λ_=>by omega⟩
 rintro _ _ ⟨z,rfl,rfl,hz0,hz1,hleaf⟩ _;refine ⟨λw'=>Mk c wb w' 0 (n+k) (d+1),?_,?_⟩
 case refine_2=>
  intro w3 h3 _;refine ⟨.inl ⟨_,rfl⟩,ldD h3 (eY.2 ?_)⟩;rw [aM (by omega),show ((d+1:Nat):Int) - 1=((d:Nat):Int) by omega];exact ⟨.inl ⟨_,rfl⟩,stD h3 λw4 h4=>hk _ h4⟩
 have hc:z=0\/z=1\/z=2\/z=3\/z=4\/z=5\/z=6\/z=7\/z=8:=by omega
 have hdeep:2<=z->∃ k',vR (d+1) k'/\yR (d+1) k'/\20<=k'/\k=3*k'+20:=λhz=>hs (by omega);rcases hc with rfl|rfl|rfl|rfl|rfl|rfl|rfl|rfl|rfl
 ·simp only [aR,Int.reduceEq]
  intros
  refine xV hh0 (by omega) λz b w1 hh1=>?_;refine hU.2 (hO.2 ?_);cases b with
  | true=>
   refine bJ.2 ?_;refine gT hh1 (by omega) λw1 hh2=>?_;exact hh2.up (by omega)
  | false=>
   refine aP.2 ?_;refine gT hh1 (by omega) λw1 hh2=>?_;exact hh2.up (by omega)
 ·simp only [aR,Int.reduceEq]
  intros
  refine kD hh0 (by omega) λz w1 hh1 _=>?_;refine rm (by decide) λe _ _ _=>?_;refine gT hh1 (by omega) λw1 hh2=>?_;exact hh2.up (by omega)
 iterate 2
  ·simp only [aR,Int.reduceEq]
   intros
   obtain ⟨k2,hpub,hsec,h21,hk3⟩:=hdeep (by decide);refine hsec hh0 (by omega) λw1 hh1=>?_;refine hsec hh1 (by omega) λw1 hh2=>?_;refine kD hh2 (by omega) λz w1 hh3 _=>?_;refine eJ (by decide) (by decide) λq hq0 hq1=>?_;refine aGx hh3 hq0 hq1 λu=>?_;refine gT hh3 (by omega) λw1 hh4=>?_;exact hh4.up (by omega)
 iterate 2
  ·simp only [aR,Int.reduceEq]
   intros
   obtain ⟨k2,hpub,hsec,h21,hk3⟩:=hdeep (by decide);refine vP hh0 (by omega) λw1 hh1=>?_;refine oN hpub (by omega) hh1 (by omega) λw1 hh2=>?_;refine gT hh2 (by omega) λw1 hh3=>?_;exact hh3.up (by omega)
 ·simp only [aR,Int.reduceEq]
  intros
  obtain ⟨k2,hpub,hsec,h21,hk3⟩:=hdeep (by decide);refine hsec hh0 (by omega) λw1 hh1=>?_;refine hsec hh1 (by omega) λw1 hh2=>?_;refine hsec hh2 (by omega) λw1 hh3=>?_;refine gT hh3 (by omega) λw1 hh4=>?_;exact hh4.up (by omega)
 ·simp only [aR,Int.reduceEq]
  intros
  obtain ⟨k2,hpub,hsec,h21,hk3⟩:=hdeep (by decide);refine vP hh0 (by omega) λw1 hh1=>?_;refine oN hpub (by omega) hh1 (by omega) λw1 hh2=>?_;refine kD hh2 (by omega) λz w1 hh3 _=>?_;refine eJ (by decide) (by decide) λq hq0 hq1=>?_;refine bA.2 ?_;refine vP hh3 (by omega) λw1 hh4=>?_;refine oN hpub (by omega) hh4 (by omega) λw1 hh5=>?_;refine oN hpub (by omega) hh5 (by omega) λw1 hh6=>?_;refine gT hh6 (by omega) λw1 hh7=>?_;exact hh7.up (by omega)
 ·simp only [aR,Int.reduceEq]
  intros
  obtain ⟨k2,hpub,hsec,h21,hk3⟩:=hdeep (by decide);refine gT hh0 (by omega) λw1 hh1=>?_;exact hh1.up (by omega)
theorem XM:vR 3 20/\yR 3 20:=⟨BO (by omega) (by omega) λh=>by omega,BK (by omega) (by omega) λh=>by omega⟩
theorem XN:vR 2 80/\yR 2 80:=⟨BO (by omega) (by omega) λ_=>⟨20,XM.1,XM.2,by omega,by omega⟩,BK (by omega) (by omega) λ_=>⟨20,XM.1,XM.2,by omega,by omega⟩⟩
theorem XO:vR 1 260/\yR 1 260:=⟨BO (by omega) (by omega) λ_=>⟨80,XN.1,XN.2,by omega,by omega⟩,BK (by omega) (by omega) λ_=>⟨80,XN.1,XN.2,by omega,by omega⟩⟩
theorem vO:vR 0 800/\yR 0 800:=⟨BO (by omega) (by omega) λ_=>⟨260,XO.1,XO.2,by omega,by omega⟩,BK (by omega) (by omega) λ_=>⟨260,XO.1,XO.2,by omega,by omega⟩⟩
theorem IC {c:Mc} {lo:Nat} {k:Int} (h:Mk c wb w lo n 0) (hn:n+800<=800000) (hk:∀ w',Mk c wb w' 0 (n+800) 0->K (.tuple #[]) w') :
  aC prog 88 #[.pointer (some ⟨c.g,0,none⟩),i64 k] w K:=by
 apply bFf;unfold YN;refine aH.2 (aB (λh1=>?_) λh1=>aH.2 (aB (λh2=>?_) λh2=>?_))
 ·exact vO.1 h hn hk
 ·exact vO.2 h hn hk
 ·exact vP h (by omega) λw1 h1=>hk _ (h1.up (by omega))
end Go.Proofs.YtjcmcfidblhnnaaGreatDoor
namespace Go.Tc
theorem xF {α:Type} {l:List α} {k:Nat} {x:α}:(l.set k x).length=l.length:=List.length_set
end Go.Tc
namespace Go.Proofs.YtjcmcfidblhnnaaGreatDoor
open Tryz
open Go.Vc Go.Tc
variable {w:O} {K:Y->O->Prop}
variable {w' w1 wb:O} {cap d g' k n pos:Nat}
def Mc.hold (c:Mc) (b:Nat):Mc:={ c with H:=λk=>c.H k\/k=b }
theorem Mk.stay {c:Mc} {lo b:Nat} (h:Mk c wb w lo n d) (x:aE w w1) (f:Fr (λk=>¬ (c.hold b).H k) w1 w'):Fr (λk=>¬ c.H k) wb w':=
 (h.fr.trans (Fr.of_ext x) λ_ _ h=>h).trans (f.mono (T:=λk=>¬ c.H k) λ_ hk hH=>hk (.inl hH)) λ_ _ h=>h
theorem Mk.hold {c:Mc} {wb w1:O} {lo n d b:Nat} (h:Mk c wb w lo n d) (x:aE w w1) (hb:b=w.heap.size) (hlt:b < w1.heap.size):Mk (c.hold b) w1 w1 lo n d:=by
 have hst:∀ w',Fr (λk=>¬ (c.hold b).H k) w1 w'->Fr (λk=>¬ c.H k) wb w':=λw' f=>h.stay x f;have s1:=h.fr.size;have s2:=x.size;have hgB:=h.o.gB;refine ⟨⟨⟨hgB.1,by show c.B<=_;omega⟩,λk hk=>?_,λw' f=>h.o.nums w' (hst w' f),λw' f=>h.o.loc w' (hst w' f),λw' f=>h.o.bins w' (hst w' f),h.o.ln,h.o.ll⟩,Fr.refl _ _,?_⟩
 ·rcases hk with hk|hk
  ·have:=h.o.hH k hk;exact ⟨by omega,this.2⟩
  ·subst hk;refine ⟨hlt,?_⟩;show k≠c.g;omega
 ·obtain ⟨cv,code,pos,a1,a2,a3,a4,a5,a6,a7⟩:=h.at_;refine ⟨cv,code,pos,a1.ext x,x.own a2,a3,a4,a5,a6,λk hk hH=>?_⟩;rcases hH with hH|hH
  ·exact a7 k hk hH
  ·have:=(a2.lt k hk).2;omega
theorem Mk.back {c:Mc} {lo lo' n' d' b:Nat} (h:Mk c wb w lo n d) (x:aE w w1) (h':Mk (c.hold b) w1 w' lo' n' d'):Mk c wb w' lo' n' d':=by
 obtain ⟨o,fr,cv,code,pos,a1,a2,a3,a4,a5,a6,a7⟩:=h';exact ⟨h.o,h.stay x fr,cv,code,pos,a1,a2,a3,a4,a5,a6,λk hk hH=>a7 k hk (.inl hH)⟩
theorem WM {l:List kJ} {x:kJ} (h:l[k]?=some x):(iI l)[k*3+1]?=some (i64 x.a):=by
 have:=sL h
 have e:((iI l).drop (k*3))[1]?=some (i64 x.a):=by
  rw [<- List.take_append_drop 3 ((iI l).drop (k*3)),this];rfl
 rwa [List.getElem?_drop] at e
theorem zT:∀ {l:List kJ} {k:Nat} {x:kJ} {z:Int},l[k]?=some x->(iI l).set (k*3+1) (i64 z)=iI (l.set k ⟨x.op,z,x.b⟩)
 | [],_,_,_,h=>by simp at h
 | y::l,0,x,z,h=>by simp at h;subst h;simp [iI]
 | y::l,k+1,x,z,h=>by
  have:=zT (l:=l) (k:=k) (z:=z) (by simpa using h);simp only [iI,List.flatMap_cons,List.set_cons_succ] at this ⊢;rw [show (k+1)*3+1=k*3+1+3 by omega];simpa using this
structure Code (c:Mc) (wb w:O) (lo n d:Nat) (g' cap:Nat) (code:List kJ) (pos:Nat):Prop where
 o:Mo c wb
 fr:Fr (λk=>¬ c.H k) wb w
 blk:bO w c.g [.slice (some ⟨g',0,none⟩) code.length cap,c.nv,i64 pos,c.lv,i64 d] 195
 own:w.ownsRow c.B 88 3 (.slice (some ⟨g',0,none⟩) code.length cap) code.length (iI code)
 lo:lo<=code.length
 hi:code.length<=n
 ps:pos<=n
 rg:∀ x∈code,x.rg
 nH:¬ c.H g'
theorem Mk.code {c:Mc} {wb:O} {lo n d:Nat} (h:Mk c wb w lo n d) (h1:1<=lo):∃ g' cap code pos,Code c wb w lo n d g' cap code pos:=by
 obtain ⟨o,fr,cv,code,pos,a1,a2,a3,a4,a5,a6,a7⟩:=h;rcases a2.2 with ⟨_,e⟩|⟨g',cap,cur,rfl,_⟩
 ·exact absurd e (by omega)
 ·exact ⟨g',cap,code,pos,o,fr,a1,a2,a3,a4,a5,a6,a7 _ rfl⟩
theorem Code.toMk {c:Mc} {lo:Nat} {code:List kJ} (h:Code c wb w lo n d g' cap code pos):Mk c wb w lo n d:=
 ⟨h.o,h.fr,_,code,pos,h.blk,h.own,h.lo,h.hi,h.ps,h.rg,λk hk=>by cases hk;exact h.nH⟩
theorem Code.ext {c:Mc} {wb w':O} {lo n d g' cap:Nat} {code:List kJ} {pos:Nat} (h:Code c wb w lo n d g' cap code pos) (hx:aE w w'):Code c wb w' lo n d g' cap code pos:=
 ⟨h.o,h.fr.trans (Fr.of_ext hx) λ_ _ h=>h,h.blk.ext hx,hx.own h.own,h.lo,h.hi,h.ps,h.rg,h.nH⟩
theorem aZm {c:Mc} {lo:Nat} {code:List kJ} {z:Int} {K':O->Prop} (h:Code c wb w lo n d g' cap code pos) (hkl:k < code.length)
  (hk:∀ w' code',code'.length=code.length->Code c wb w' lo n d g' cap code' pos->K' w'):U prog (Instr.storeAt 3 (.pointer (some ⟨g',0+k*3+1,none⟩)) (i64 z)) w λ_ w2=>K' w2:=by
 have hx:code[k]?=some code[k]:=List.getElem?_eq_getElem hkl;obtain ⟨s1,s2⟩:=h.own.stored (k*3+1) (i64 z);have hc:=h.own.cellAt (k*3+1) (by omega);rw [WM hx] at hc;rw [Nat.zero_add];have hgB:=h.o.gB.1;have hgg:c.B<=g':=(h.own.lt g' rfl).1;refine U.ok (mW bW rfl hc (h.own.frozenAt _)) (hk _ (code.set k ⟨code[k].op,z,code[k].b⟩) xF ⟨h.o,h.fr.set h.nH,?_,?_,?_,?_,h.ps,λy hy=>?_,h.nH⟩)
 ·rw [xF];exact h.blk.other (by omega)
 ·rw [xF,<- zT hx];exact s1
 ·rw [xF];exact h.lo
 ·rw [xF];exact h.hi
 ·rcases List.mem_or_eq_of_mem_set hy with hy|rfl
  ·exact h.rg y hy
  ·have:=h.rg code[k] (List.getElem_mem hkl);exact this
theorem bBd {c:Mc} {lo:Nat} {k a b e:Int} (h:Mk c wb w lo n 0) (hn:n+4000<=700000) {tv mv iv:Y} {tl:List Int} {ms:List jN} {is:List IF} (ht:∀ w',Fr (λk=>¬ c.H k) wb w'->aN w' tv tl) (htl:tl.length<=1000000)
  (hm:∀ w',Fr (λk=>¬ c.H k) wb w'->rO w' mv ms) (hi:∀ w',Fr (λk=>¬ c.H k) wb w'->rP w' iv is) (m0:0 < ms.length/\ms.length<=1000) (m4:∀ m∈ms,m.params.length<=4) (i0:is.length<=1000) (i4:∀ x∈is,x.params.length<=4)
  (hk:∀ w',Mk c wb w' 0 (n+4000) 0->K (.tuple #[]) w') :
  aC prog 87 #[.pointer (some ⟨c.g,0,none⟩),.agg #[i64 k,i64 a,i64 b,i64 e],tv,mv,iv] w K:=by
 apply bFg;unfold YO;refine bxK λw1 hB1 x1=>?_;have hh0:=h.hold x1 rfl hB1.lt;have fin:∀ {w' lo' n'},Mk (c.hold w.heap.size) w1 w' lo' n' 0->n'<=n+4000->K (.tuple #[]) w':=λhh hle=>hk _ ((h.back x1 hh).up hle);have bx1:∀ {w'},Fr (λk=>¬ (c.hold w.heap.size).H k) w1 w'->aY w' w.heap.size [i64 k,i64 a,i64 b,i64 e]:=λf=>bO.boxed (f.blk hB1 λhn=>hn (.inr rfl));have ht:=λw' f=>ht w' (h.stay (b:=w.heap.size) x1 f);have hm:=λw' f=>hm w' (h.stay (b:=w.heap.size) x1 f);have hi:=λw' f=>hi w' (h.stay (b:=w.heap.size) x1 f);have hll:=hh0.o.ll;have hgc:(c.hold w.heap.size).g=c.g:=rfl;rw [<- hgc];clear hB1;generalize c.hold w.heap.size=c' at *;generalize w.heap.size=rb at *;clear hgc h hk;refine bC (bx1 (Fr.refl _ _)) iU aG rfl ?_;refine eJ (by decide) (by decide) λq hq0 hq1=>?_;have hc:q=0\/q=1\/q=2\/q=3\/q=4\/q=5\/q=6\/q=7\/q=8\/q=9\/q=10\/q=11\/q=12\/q=13\/q=14\/q=15:=by omega
 rcases hc with rfl|rfl|rfl|rfl|rfl|rfl|rfl|rfl|rfl|rfl|rfl|rfl|rfl|rfl|rfl|rfl
 iterate 3
  ·simp only [aR,Int.reduceEq,Int.reduceNeg]
   intros
   have hloc:=hh0.locAt;obtain ⟨cv,code,pos,a1,_⟩:=hh0.at_;refine ⟨.inl ⟨_,rfl⟩,bC (bO.boxed a1) fU bF rfl (fQ aQ hloc (aH.2 (aB (λhz=>fin hh0 (by omega)) λhz=>?_)))⟩;have D1:aE w1 w1.drew:=(aE.refl _).drew;have hh1:=hh0.ext D1;have hlocd:=hh1.locAt;have hbx:∀ w',aE w1.drew w'->aY w' c'.g [cv,c'.nv,i64 pos,c'.lv,i64 (0:Nat)]:=λw' hx=>bO.boxed (a1.ext (D1.trans hx));refine aK.mk' (λw'=>aE w1.drew w') (aE.refl _) ?_;refine jG (λw' hx=>(bx1 hh1.fr).ext hx) dN aG rfl ?_;refine ⟨.inl ⟨_,rfl⟩,jG hbx fU bF rfl (sS aQ hlocd ?_)⟩;refine eJ (by omega) (by omega) λr hr0 hr1=>⟨aE.refl _,?_⟩;refine ⟨.inl ⟨_,rfl⟩,bC (hbx _ (aE.refl _)) fU bF rfl ?_⟩;obtain ⟨r,rfl⟩:∃ r2:Nat,r=r2:=⟨r.toNat,by omega⟩;refine lV aQ aG hlocd (by omega) (by omega) (cK (lL (by omega))) ?_;refine IC hh1 (by omega) λw1 hh2=>?_;refine gT hh2 (by omega) λw1 hh3=>?_;exact fin hh3 (by omega)
 iterate 2
  ·simp only [aR,Int.reduceEq,Int.reduceNeg]
   intros
   refine bC (bx1 hh0.fr) dN aG rfl ?_;refine eJ (by decide) (by decide) λq hq0 hq1=>?_;refine bA.2 ?_;refine vP hh0 (by omega) λw1 hh1=>?_;refine oN vO.1 (by omega) hh1 (by omega) λw1 hh2=>?_;refine eY.2 ?_;refine IC hh2 (by omega) λw1 hh3=>?_;refine gT hh3 (by omega) λw1 hh4=>?_;exact fin hh4 (by omega)
 ·simp only [aR,Int.reduceEq,Int.reduceNeg]
  intros
  refine bC (bx1 hh0.fr) dN aG rfl ?_;refine eJ (by decide) (by decide) λq hq0 hq1=>?_;refine bA.2 ?_;refine IC hh0 (by omega) λw1 hh1=>?_;refine gT hh1 (by omega) λw1 hh2=>?_;exact fin hh2 (by omega)
 ·simp only [aR,Int.reduceEq,Int.reduceNeg]
  intros
  refine bC (bx1 hh0.fr) dN aG rfl ?_;refine eJ (by decide) (by decide) λq hq0 hq1=>?_;refine bA.2 ?_;refine bC (bx1 hh0.fr) gC aG rfl ?_;refine eJ (by decide) (by decide) λq hq0 hq1=>?_;refine bA.2 ?_;refine ⟨λv w'=>(∃ z,v=i64 z)/\w'=w1,?_,?_⟩
  ·exact aH.2 (aB (λ_=>⟨⟨_,rfl⟩,rfl⟩) λ_=>⟨⟨_,rfl⟩,rfl⟩)
  rintro _ _ ⟨⟨z,rfl⟩,rfl⟩ _;refine vP hh0 (by omega) λw1 hh1=>?_;refine oN vO.1 (by omega) hh1 (by omega) λw1 hh2=>?_;refine vP hh2 (by omega) λw1 hh3=>?_;refine oN vO.1 (by omega) hh3 (by omega) λw1 hh4=>?_;refine oN vO.1 (by omega) hh4 (by omega) λw1 hh5=>?_;refine gT hh5 (by omega) λw1 hh6=>?_;exact fin hh6 (by omega)
 iterate 2
  ·simp only [aR,Int.reduceEq,Int.reduceNeg]
   intros
   refine bC (bx1 hh0.fr) dN aG rfl ?_;refine eJ (by decide) (by decide) λq hq0 hq1=>?_;refine bA.2 ?_;refine bA.2 ?_;refine eY.2 ?_;refine vP hh0 (by omega) λw1 hh1=>?_;refine oN vO.1 (by omega) hh1 (by omega) λw1 hh2=>?_;refine oN vO.1 (by omega) hh2 (by omega) λw1 hh3=>?_;refine gT hh3 (by omega) λw1 hh4=>?_;exact fin hh4 (by omega)
 iterate 2
  ·simp only [aR,Int.reduceEq,Int.reduceNeg]
   intros
   refine vO.1 hh0 (by omega) λw1 hh1=>?_;refine gT hh1 (by omega) λw1 hh2=>?_;refine bC (bx1 hh2.fr) dN aG rfl ?_;refine eJ (by decide) (by decide) λr hr0 hr1=>?_;by_cases hr:r=0
   case neg=>
    simp only [hr,aR];exact fin hh2 (by omega)
   have htv:=ht _ hh2.fr;subst hr;simp only [aR];refine fQ aQ htv ?_;by_cases hgt:(tl.length:Int) > 0
   case neg=>
    simp only [hgt,aR];exact fin hh2 (by omega)
   simp only [hgt,aR];obtain ⟨g',cap,code,pos,hcd⟩:=hh2.code (Nat.le_refl _);have D1:aE w1 w1.drew:=(aE.refl _).drew;have hcd:=hcd.ext D1;have hlo:=hcd.lo;have hhi:=hcd.hi;have htv:=htv.ext D1;have hbr:=(bx1 hh2.fr).ext D1;refine aK.mk' (λw'=>aE w1.drew w') (aE.refl _) ?_;refine ⟨.inl ⟨_,rfl⟩,jG (λw' hx=>bO.boxed (hcd.blk.ext hx)) cS iM rfl ?_⟩;refine ⟨.inl ⟨_,rfl⟩,jG (λw' hx=>bO.boxed (hcd.blk.ext hx)) cS iM rfl (sS jY (aA.of_own hcd.own) ?_)⟩;refine aD.ok (λw' _=>eM) ?_;rw [aM (by omega)];refine jG (λw' hx=>hbr.ext hx) gC aG rfl (sS aQ htv ?_);refine eJ (by omega) (by omega) λr hr0 hr1=>⟨aE.refl _,?_⟩;obtain ⟨r,rfl⟩:∃ r2:Nat,r=r2:=⟨r.toNat,by omega⟩;refine oE aQ aG htv (λ_ h=>h) (by omega) (by omega) (cK (lL (by omega))) ?_;refine aD.ok (λw' _=>iL underlying36 nJ (by omega) (by omega)) ?_;refine aD.ok (λw' _=>FA.ex bD w' _ _) ?_;rw [show ((code.length:Int) - 1).toNat=code.length - 1 by omega];exact aZm hcd (by omega) λw3 code' _ hc'=>fin hc'.toMk (by omega)
 iterate 2
  ·simp only [aR,Int.reduceEq,Int.reduceNeg]
   intros
   refine bC (bx1 hh0.fr) dN aG rfl ?_;have hms:=hm _ hh0.fr;refine yY gO hms ?_;refine eJ (by omega) (by omega) λr hr0 hr1=>?_;refine ⟨λv w'=>(∃ z:Nat,v=i64 z/\z < ms.length)/\w'=w1,?_,?_⟩
   ·have hr:(∃ z:Nat,i64 r=i64 z/\z < ms.length):=⟨r.toNat,by rw [Int.toNat_of_nonneg hr0],by omega⟩;refine aH.2 ?_;by_cases hz:r=0
    case neg=>
     simp only [hz,aR];exact ⟨hr,by trivial⟩
    simp only [hz,aR];refine bC (bx1 hh0.fr) gC aG rfl ?_;refine rm (by decide) λe _ _ _=>?_;refine iH.2 ?_;by_cases he:e > 0
    case neg=>
     simp only [he,aR];rw [hz] at hr;exact ⟨hr,by trivial⟩
    simp only [he,aR];refine yY gO hms (eY.2 ?_);rw [aM (by omega)];exact ⟨⟨ms.length - 1,by congr 1;omega,by omega⟩,rfl⟩
   rintro _ w9 ⟨⟨t,rfl,htl2⟩,hw9⟩ _;have hw9:=hw9.symm;subst hw9;obtain ⟨m,hmt⟩:=bE htl2;have hm4:=m4 m (List.mem_of_getElem? hmt);refine ⟨λv w'=>∃ j:Nat,v=i64 j/\j<=m.params.length/\Mk c' w1 w' 0 (n+800*j) 0,λv _=>m.params.length - (RowKit.intOf v).toNat,⟨0,rfl,Nat.zero_le _,hh0.up (by omega)⟩,?_⟩;rintro _ w2 ⟨j,rfl,hj,h2⟩ _;refine oT gO dM bF (hm _ h2.fr) hmt λrow hrow=>?_;obtain ⟨pv,lv,cv,rfl,hp,_,_⟩:=hrow;refine ⟨pv,rfl,by decide,fQ aQ hp (aW.2 (aB (λhlt=>?_) λhge=>?_))⟩
   ·refine oT gO dM bF (hm _ h2.fr) hmt λrow hrow=>?_;obtain ⟨pv,lv,cv,rfl,hp,_,_⟩:=hrow;refine ⟨pv,rfl,by decide,?_⟩;refine lV aQ aG hp (by omega) (by omega) (cK (lL (by omega))) ?_;refine IC h2 (by omega) λw3 h3=>bA.2 ?_;rw [aM (by omega),bK];exact ⟨⟨j+1,rfl,by omega,h3.up (by omega)⟩,by simp only [aL];omega⟩
   ·refine gT h2 (by omega) λw3 h3=>?_;refine oT gO fW aG (hm _ h3.fr) hmt λrow hrow=>?_;obtain ⟨pv,lv,cv,rfl,hp,_,_⟩:=hrow;refine ⟨_,rfl,by decide,cH.2 (aB (λhr=>?_) λhr=>?_)⟩
    ·exact gT h3 (by omega) λw4 h4=>fin h4 (by omega)
    ·exact fin h3 (by omega)
 ·simp only [aR,Int.reduceEq,Int.reduceNeg]
  intros
  have his:=hi _ hh0.fr;refine yY nQ his (aH.2 (aB (λhz=>fin hh0 (by omega)) λhz=>?_));refine bC (bx1 hh0.fr) dN aG rfl ?_;refine yY nQ his ?_;refine eJ (by omega) (by omega) λr hr0 hr1=>?_;obtain ⟨t,rfl⟩:∃ r2:Nat,r=r2:=⟨r.toNat,by omega⟩;obtain ⟨m,hmt⟩:=bE (l:=is) (j:=t) (by omega);have hm4:=i4 m (List.mem_of_getElem? hmt);refine ⟨λv w'=>∃ j:Nat,v=i64 j/\j<=m.params.length/\Mk c' w1 w' 0 (n+800*j) 0,λv _=>m.params.length - (RowKit.intOf v).toNat,⟨0,rfl,Nat.zero_le _,hh0.up (by omega)⟩,?_⟩;rintro _ w2 ⟨j,rfl,hj,h2⟩ _;refine oT nQ bX bF (hi _ h2.fr) hmt λrow hrow=>?_;obtain ⟨pv,rfl,hp⟩:=hrow;refine ⟨pv,rfl,by decide,fQ aQ hp (aW.2 (aB (λhlt=>?_) λhge=>?_))⟩
  ·refine oT nQ bX bF (hi _ h2.fr) hmt λrow hrow=>?_;obtain ⟨pv,rfl,hp⟩:=hrow;refine ⟨pv,rfl,by decide,?_⟩;refine lV aQ aG hp (by omega) (by omega) (cK (lL (by omega))) ?_;refine IC h2 (by omega) λw3 h3=>bA.2 ?_;rw [aM (by omega),bK];exact ⟨⟨j+1,rfl,by omega,h3.up (by omega)⟩,by simp only [aL];omega⟩
  ·refine gT h2 (by omega) λw3 h3=>?_;refine oT nQ cD aG (hi _ h3.fr) hmt λrow hrow=>?_;obtain ⟨pv,rfl,hp⟩:=hrow;refine ⟨_,rfl,by decide,cH.2 (aB (λhr=>?_) λhr=>?_)⟩
   ·exact gT h3 (by omega) λw4 h4=>fin h4 (by omega)
   ·exact fin h3 (by omega)
 ·simp only [aR,Int.reduceEq,Int.reduceNeg]
  intros
  refine vO.1 hh0 (by omega) λw1 hh1=>?_;refine gT hh1 (by omega) λw1 hh2=>?_;refine gT hh2 (by omega) λw1 hh3=>?_;refine gT hh3 (by omega) λw1 hh4=>?_;exact fin hh4 (by omega)
 ·simp only [aR,Int.reduceEq,Int.reduceNeg]
  intros
  refine bC (bx1 hh0.fr) dN aG rfl ?_;refine rm (by decide) λe _ _ _=>?_;refine gT hh0 (by omega) λw1 hh1=>?_;refine gT hh1 (by omega) λw1 hh2=>?_;exact fin hh2 (by omega)
end Go.Proofs.YtjcmcfidblhnnaaGreatDoor
namespace Go.Vc
end Go.Vc
namespace Go.Proofs.YtjcmcfidblhnnaaGreatDoor
open Tryz
open Go.Vc Go.Tc
variable {w:O} {K:Y->O->Prop}
variable {L N d i n:Nat} {ty:TypeId} {wb:O}
structure Rw where
 k:Int
 a:Int
 b:Int
 e:Int
def bEp (_:O) (row:List Y) (x:Rw):Prop:=row=[i64 x.k,i64 x.a,i64 x.b,i64 x.e]
def kL (w:O) (v:Y) (l:List Rw):Prop:=(∃ a c,v=.slice a l.length c)/\(0 < l.length->cA bEp 4 w v l)
theorem kL.ext {w':O} {v:Y} {l:List Rw} (h:kL w v l) (hx:aE w w'):kL w' v l:=⟨h.1,λh0=>cA.ext (λh _=>h) (h.2 h0) hx⟩
theorem kL.of {v:Y} {l:List Rw} (h:cA bEp 4 w v l):kL w v l:=by
 obtain ⟨cs,h1⟩:=h.sl;exact ⟨h1.shape,λ_=>h⟩
theorem kL.str {v:Y} {l:List Rw} {x:Rw} (h:kL w v l) (hi:l[i]?=some x):cA bEp 4 w v l:=h.2 (by have:=(List.getElem?_eq_some_iff.1 hi).1;omega)
theorem lnR {t:TypeId} {v:Y} {l:List Rw} (h:XA prog t 4) (hs:kL w v l) (hk:K (i64 l.length) w):V prog (Builtin.len_ #[t] ty #[v]) w K:=by
 obtain ⟨e,z,b,ht,hi⟩:=h;obtain ⟨⟨a,c,rfl⟩,_⟩:=hs;exact V.ok (xL ht) hk
theorem ySS {S:O->Prop} {L:Y->Prop} {α:Type} {T:O->List Y->α->Prop} {sz:Nat} {t x:TypeId} {v:Y} {l:List α} {e:α} (h:XA prog t sz) (ht:∃ d z by_,Program.underlying prog x=some d/\mA d=true/\dD prog x z sz by_) (hs:cA T sz w v l) (hx:∀ w',S w'->aE w w') (hi:l[i]?=some e) (hT:∀ w row e,T w row e->row.length=sz)
  (hk:∀ row,T w row e->L (.agg row.toArray)):aD prog S (Instr.indexAt t v (i64 i)) λp=>aD prog S (Instr.loadAt x p) L:=by
 obtain ⟨cs,h1,h2⟩:=hs;obtain ⟨row,h3,h4⟩:=h2 i e hi;have hlt:i < l.length:=(List.getElem?_eq_some_iff.1 hi).1;obtain ⟨e',z,b',hte,hinf⟩:=h;obtain ⟨d,z',by_,g2,g3,g4⟩:=ht;obtain ⟨b,off,cap,rfl,hcell⟩:=h1.there (by omega);refine aD.ok (λw' _=>iL hte hinf (by omega) (by omega)) (aD.ok (λw' hw=>nT (cs:=row) g2 g3 g4 (hT _ _ _ h4) λj hj=>?_) (hk row h4));obtain ⟨u,hu⟩:∃ u,row[j]?=some u:=⟨_,List.getElem?_eq_getElem hj⟩;rw [hu,Nat.add_assoc];refine (hx w' hw).cell (hcell _ u ?_);rw [<- h3,List.getElem?_take,List.getElem?_drop] at hu;split at hu
 ·simpa using hu
 ·cases hu
theorem VO {t:TypeId} {ts:Array TypeId} {a b:Int}:(Builtin.min_ ts t #[i64 a,i64 b]).run prog w=.ok (i64 (min a b)) w:=by
 rcases aFm (P:=prog) (w:=w) (t:=t) (ts:=ts) (a:=a) (b:=b) with h|h
 ·rw [h];have:(if a < b then a else b)=min a b:=by split<;>omega
  rw [this]
 ·rw [h];have:(if b < a then b else a)=min a b:=by split<;>omega
  rw [this]
def Cd (c:Mc) (wb w:O) (L N d:Nat):Prop:=Mo c wb/\Fr (λk=>¬ c.H k) wb w/\∃ (cv:Y) (code:List kJ) (pos:Nat),bO w c.g [cv,c.nv,i64 pos,c.lv,i64 d] 195/\w.ownsRow c.B 88 3 cv code.length (iI code)/\code.length=L/\pos<=N/\(∀ x∈code,x.rg)/\∀ k,cv.ownBlock=some k->¬ c.H k
theorem Cd.mk {c:Mc} (h:Cd c wb w L N d) (h1:L<=n) (h2:N<=n):Mk c wb w 0 n d:=by
 obtain ⟨o,fr,cv,code,pos,a1,a2,a3,a4,a5,a6⟩:=h;exact ⟨o,fr,cv,code,pos,a1,a2,Nat.zero_le _,by omega,by omega,a5,a6⟩
theorem Cd.code {c:Mc} {wb:O} {L N d:Nat} (h:Cd c wb w L N d) (h1:0 < L):∃ g' cap code pos,code.length=L/\pos<=N/\Code c wb w L (L+N) d g' cap code pos:=by
 obtain ⟨o,fr,cv,code,pos,a1,a2,a3,a4,a5,a6⟩:=h;rcases a2.2 with ⟨_,e⟩|⟨g',cap,cur,rfl,_⟩
 ·exact absurd e (by omega)
 ·exact ⟨g',cap,code,pos,a3,a4,o,fr,a1,a2,by omega,by omega,by omega,a5,a6 _ rfl⟩
theorem Code.cd {c:Mc} {lo g' cap:Nat} {code:List kJ} {pos:Nat} (h:Code c wb w lo n d g' cap code pos) (h1:code.length=L) (h2:pos<=N):Cd c wb w L N d:=
 ⟨h.o,h.fr,_,code,pos,h.blk,h.own,h1,h2,h.rg,λk hk=>by cases hk;exact h.nH⟩
theorem Mk.cd {c:Mc} {lo:Nat} (h:Mk c wb w lo n d):∃ L,L<=n/\Cd c wb w L n d:=by
 obtain ⟨o,fr,cv,code,pos,a1,a2,a3,a4,a5,a6,a7⟩:=h;exact ⟨_,a4,o,fr,cv,code,pos,a1,a2,rfl,a5,a6,a7⟩
theorem Cd.ext {c:Mc} {wb w':O} {L N d:Nat} (h:Cd c wb w L N d) (hx:aE w w'):Cd c wb w' L N d:=by
 obtain ⟨o,fr,cv,code,pos,a1,a2,a3⟩:=h;exact ⟨o,fr.trans (Fr.of_ext hx) λ_ _ h=>h,cv,code,pos,a1.ext hx,hx.own a2,a3⟩
theorem bJi {c:Mc} (h:Cd c wb w L N d) (hk:K (i64 (L:Nat)) w) :
  V prog (Instr.fieldAt 195 (.pointer (some ⟨c.g,0,none⟩)) 0) w λq w1=>V prog (Instr.loadAt 36 q) w1 λv w2=>V prog (Builtin.len_ #[36] ty #[v]) w2 K:=by
 obtain ⟨o,fr,cv,code,pos,a1,a2,rfl,_⟩:=h;exact bC (bO.boxed a1) cS iM rfl (fQ jY (aA.of_own a2) hk)
theorem aEn {c:Mc} {B:Nat} {v:Y} {code:List kJ} {K':O->Prop} (h:Cd c wb w L N d) (ho:w.ownsRow B 88 3 v code.length (iI code)) (hB:c.B<=B) (hr:∀ x∈code,x.rg) (hv:∀ k,v.ownBlock=some k->¬ c.H k)
  (hk:∀ w',Cd c wb w' code.length N d->K' w'):V prog (Instr.fieldAt 195 (.pointer (some ⟨c.g,0,none⟩)) 0) w λq w1=>U prog (Instr.storeAt 36 q v) w1 λ_ w2=>K' w2:=by
 obtain ⟨o,fr,cv,code0,pos,a1,a2,a3,a4,a5,a6⟩:=h;have hg:¬ c.H c.g:=λhg=>(o.hH _ hg).2 rfl;have hgB:=o.gB.1;refine FS cS HL a1 (n:=5) rfl (by decide) (jB ho) (hk _ ⟨o,fr.set hg,v,code,pos,a1.set 0 _,?_,rfl,a4,hr,hv⟩);exact aU ((Fr.of_set (S:=λi=>i=c.g) rfl).own ho λk hk he=>by have:=(ho.lt k hk).1;omega) hB
end Go.Proofs.YtjcmcfidblhnnaaGreatDoor
namespace Go.Vc
theorem apS {P:Program} {w:O} {K:Y->O->Prop} {t e by_ ty:Nat} (h:XE P t e by_) {B:Nat} {v:Y} {n:Nat} {xs:List Y} (ho:w.ownsRow B e 1 v n xs) {x:Y} {m:Nat} {news:List Y} (hs:aA w x 1 m news) (h1:news.all bY=true)
  (hb:(n+m)*by_<=140737488355328) (h63:n+m<=maxLen) (hB:B<=w.heap.size)
  (hk:∀ v' w',w'.ownsRow B e 1 v' (n+m) (xs++news)->w.grownBy w' v.ownBlock->(v'.ownBlock=v.ownBlock\/v'.ownBlock=some w.heap.size)->K v' w') :
  V P (Builtin.append_ #[t,t] ty #[v,x]) w K:=by
 obtain ⟨z,ht,hi,hz⟩:=h;exact apG ht hi hz (by omega) ho hs h1 hb h63 hB hk
end Go.Vc
namespace Go.Proofs.YtjcmcfidblhnnaaGreatDoor
open Tryz
open Go.Vc Go.Tc
variable {w:O} {K:Y->O->Prop}
theorem aQq {l:List kJ} {k:Nat} {x:kJ} (h:l[k]?=some x):(iI l)[k*3+0]?=some (i64 x.op):=by
 have:=sL h
 have e:((iI l).drop (k*3))[0]?=some (i64 x.op):=by
  rw [<- List.take_append_drop 3 ((iI l).drop (k*3)),this];rfl
 rwa [List.getElem?_drop] at e
theorem Cd.weak {c:Mc} {wb:O} {L N d N':Nat} (h:Cd c wb w L N d) (h2:N<=N'):Cd c wb w L N' d:=by
 obtain ⟨o,fr,cv,code,pos,a1,a2,a3,a4,a5⟩:=h;exact ⟨o,fr,cv,code,pos,a1,a2,a3,by omega,a5⟩
theorem bDq {rv mv iv:Y} {rl:List Rw} {row:List Y} {m:jN} {ms:List jN} {is:List IF} (hr:kL w rv rl) (hrow:lH w row m) (hm:rO w mv ms) (hi:rP w iv is) (hb:wU w) (rn:rl.length<=5000000000000) (pl:m.params.length<=1000) (ll:m.locals.length<=1000)
  (m0:0 < ms.length/\ms.length<=1000) (m4:∀ m∈ms,m.params.length<=4) (i0:is.length<=1000) (i4:∀ x∈is,x.params.length<=4)
  (hk:∀ v code w',w'.ownsRow w.heap.size 88 3 v code.length (iI code)->(∀ x∈code,x.rg)->code.length<=700000->aE w w'->K v w') :
  aC prog 43 #[rv,.agg row.toArray,mv,iv] w K:=by
 obtain ⟨pv,lv,cv,rfl,hp,hl,hc⟩:=hrow;apply bGu;unfold ZZ;refine bx λb5 w1 hb5 x1=>?_;have hb5:aY w1 b5 [pv,i64 m.result,lv,cv]:=hb5;have D1:aE w1 w1.drew:=(aE.refl _).drew;have x2:=x1.trans D1;refine aK.mk' (λw'=>aE w1.drew w') (aE.refl _) ?_;refine jG (λw' hx=>hb5.ext (D1.trans hx)) dM bF rfl ?_;refine jG (λw' hx=>hb5.ext (D1.trans hx)) kX bF rfl ?_;have hb5:=hb5.ext D1;generalize w1.drew=w2 at x2 hb5;clear D1;refine jX bB [] rfl rfl (by simp) rfl λv3 w3 ho3 x3=>⟨x3,?_⟩;refine UQ bB ho3 (hp.ext (x2.trans x3)) (NG _) (by omega) (by unfold maxLen;omega) x3.size λv4 w4 ho4 hg4=>?_;have x4:aE w2 w4:=x3.grown hg4 λk hk=>(ho3.lt k hk).1;refine ⟨x4,UQ bB ho4 (hl.ext (x2.trans x4)) (NG _) (by omega) (by unfold maxLen;omega) x4.size λlv' w5 ho5 hg5=>?_⟩;have x5:aE w2 w5:=x4.grown hg5 λk hk=>(ho4.lt k hk).1;refine ⟨x5,nB bDx [(3,lv')] rfl (by simp [jB ho5]) ?_⟩
 have hloc:aN w5 lv' (m.params++m.locals):=by
  have:=aA.of_own ho5;unfold aN;simpa using this
 clear ho3 ho4 ho5 hg4 hg5;refine bxK λw6 hB6 x6=>⟨x5.trans x6,?_⟩;have hB6:bO w6 w5.heap.size [aX,aX,i64 ((0:Nat):Int),lv',i64 ((0:Nat):Int)] 195:=hB6;have x25:=x2.trans x5;have hr:=hr.ext x25;have hm:=hm.ext x25;have hi:=hi.ext x25
 have hbins:wU w5:=λj hj=>by
  obtain ⟨n,hn⟩:=hb j hj;exact ⟨n,x25.cell hn⟩
 have hb5:=hb5.ext x5;have hw5:w.heap.size<=w5.heap.size:=x25.size;generalize hgg:w5.heap.size=g at hB6 hw5;clear x1 x3 x4;have hlocl:(m.params++m.locals).length<=1000000:=by simp;omega
 generalize m.params++m.locals=loc at hloc hlocl;refine ⟨λv w'=>∃ (j:Nat) (nv:Y) (nums:List Int),v=i64 j/\j<=rl.length/\nums.length=3*j/\aE w5 w'/\bO w' g [aX,nv,i64 ((0:Nat):Int),lv',i64 ((0:Nat):Int)] 195/\w'.ownsRow (g+1) 3 1 nv nums.length (nums.map i64),λv _=>rl.length - (RowKit.intOf v).toNat,⟨0,aX,[],rfl,Nat.zero_le _,rfl,x6,hB6,World.ownsRow_nil _ _ _ _⟩,?_⟩;rintro _ wB ⟨j,nv,nums,rfl,hj,hnl,xB,hBB,hoB⟩ _;have hlt5:=hBB.lt;refine lnR AC (hr.ext xB) (aW.2 (aB (λhlt=>?_) λhge=>?_))
 ·obtain ⟨x,hx⟩:=bE (l:=rl) (j:=j) (by omega);have D2:aE wB wB.drew:=(aE.refl _).drew;have xd:=xB.trans D2;have hBd:=hBB.ext D2;have hod:=D2.own hoB;refine aK.mk' (λw'=>aE w5 w'/\bO w' g [aX,nv,i64 ((0:Nat):Int),lv',i64 ((0:Nat):Int)] 195) ⟨xd,hBd⟩ ?_;refine ⟨.inl ⟨_,rfl⟩,jG (λw' hw=>bO.boxed hw.2) fI bF rfl ?_⟩;refine ySF AC dN aG (hr.str hx) (λw' hw=>hw.1) hx λrow hrow=>⟨i64 x.a,by rw [hrow];rfl,by decide,?_⟩;refine ySF AC gC aG (hr.str hx) (λw' hw=>hw.1) hx λrow hrow=>⟨i64 x.b,by rw [hrow];rfl,by decide,?_⟩;refine ySF AC iT aG (hr.str hx) (λw' hw=>hw.1) hx λrow hrow=>⟨i64 x.e,by rw [hrow];rfl,by decide,?_⟩;refine jX bB [i64 x.a,i64 x.b,i64 x.e] rfl rfl (by simp) rfl λv7 w7 ho7 x7=>⟨⟨xd.trans x7,hBd.ext x7⟩,?_⟩;have hs7:=hBd.lt;have hs8:=x7.size;refine UQ bB (x7.own hod) (aA.of_own ho7) rfl (by omega) (by unfold maxLen;omega) (by omega) λv8 w8 ho8 hg8=>?_;have hlo:∀ k,nv.ownBlock=some k->g+1<=k:=λk hk=>(hod.lt k hk).1;have x8:aE w5 w8:=(xd.trans x7).grown hg8 λk hk=>by have:=hlo k hk;omega
  have hB8:bO w8 g _ _:=(Fr.of_grown (S:=λk=>nv.ownBlock=some k) hg8 λk hk=>hk).blk (hBd.ext x7) λhk=>by have:=hlo _ hk;omega
  refine ⟨⟨x8,hB8⟩,⟨.inl ⟨_,rfl⟩,aD.ok (λw' hw=>FA.ex fI w' _ _) ?_⟩⟩;refine bBe mO hB8 (n:=5) rfl (by decide) (jB ho8) (bA.2 ?_);rw [aM (by omega),bK];refine ⟨⟨j+1,v8,nums++[x.a,x.b,x.e],rfl,by omega,by simp;omega,x8.setCell (by omega) _,hB8.set 1 _,?_⟩,by simp only [aL];omega⟩;have:=(Fr.of_set (S:=λi=>i=g) (w:=w8) (b:=g) (o:=1) (v:=v8) rfl).own ho8 λk hk he=>by have:=(ho8.lt k hk).1;omega
  simpa using this
 have hf:∀ {w'},Fr (λk=>k=g\/wB.heap.size<=k) wB w'->aN w' nv nums/\aE w5 w':=λf=>⟨aA.of_own (f.own hoB λk hk hS=>by have:=hoB.lt k hk;omega),f.ext xB λk hS=>by have:=xB.size;omega⟩
 have hMo:∀ (H:Nat->Prop) {w1:O},Fr (λk=>k=g\/wB.heap.size<=k) wB w1->(∀ k,k < wB.heap.size->¬ H k->k=g)->(∀ k,H k->k < w1.heap.size/\k≠g)->Mo ⟨H,wB.heap.size,g,nv,lv',nums,loc⟩ w1/\∀ w',Fr (λk=>¬ H k) w1 w'->Fr (λk=>k=g\/wB.heap.size<=k) wB w':=by
  intro H w1 f h1 h2;have tr:∀ w',Fr (λk=>¬ H k) w1 w'->Fr (λk=>k=g\/wB.heap.size<=k) wB w':=λw' f'=>f.trans f' λi hi hn=>.inl (h1 i hi hn);refine ⟨⟨⟨hlt5,f.size⟩,h2,λw' f'=>(hf (tr w' f')).1,λw' f'=>hloc.ext (hf (tr w' f')).2,λw' f' j hj=>?_,?_,hlocl⟩,tr⟩
  ·obtain ⟨n,hn⟩:=hbins j hj;exact ⟨n,(hf (tr w' f')).2.cell hn⟩
  ·show nums.length<=_;omega
 refine ⟨λtv v w'=>∃ (j:Nat) (tl:List Int) (cv:Y) (code:List kJ) (pos:Nat),v=i64 j/\j<=rl.length/\j<=12/\tl.length=j/\Fr (λk=>k=g\/wB.heap.size<=k) wB w'/\bO w' g [cv,nv,i64 (pos:Nat),lv',i64 ((0:Nat):Int)] 195/\w'.ownsRow wB.heap.size 88 3 cv code.length (iI code)/\code.length<=4100*j/\pos<=4100*j/\(∀ x∈code,x.rg)/\w'.ownsRow wB.heap.size 3 1 tv tl.length (tl.map i64)/\∀ k,cv.ownBlock=some k->tv.ownBlock≠some k,
  λ_ v _=>12 - (RowKit.intOf v).toNat,⟨0,[],aX,[],0,rfl,Nat.zero_le _,Nat.zero_le _,rfl,Fr.refl _ _,hBB,World.ownsRow_nil _ _ _ _,Nat.le_refl _,Nat.le_refl _,λ_ h=>by simp at h,World.ownsRow_nil _ _ _ _,λk hk=>by cases hk⟩,?_⟩
 rintro tv _ w9 ⟨j,tl,cv,code,pos,rfl,hj,hj12,htl,fr,hB9,ho9,hc9,hp9,hrg,hot,hne⟩ _;have hs9:=fr.size;have hng:∀ k,tv.ownBlock=some k->wB.heap.size<=k:=λk hk=>(hot.lt k hk).1
 have grow:∀ {K':Y->O->Prop},(∀ tv' w',Fr (λk=>k=g\/wB.heap.size<=k) wB w'->bO w' g [cv,nv,i64 (pos:Nat),lv',i64 ((0:Nat):Int)] 195->w'.ownsRow wB.heap.size 88 3 cv code.length (iI code)->w'.ownsRow wB.heap.size 3 1 tv' (tl++[(code.length:Int)]).length ((tl++[(code.length:Int)]).map i64)->(∀ k,cv.ownBlock=some k->tv'.ownBlock≠some k)->K' tv' w') ->
   Go.Vc.bL (.pointer (some ⟨g,0,none⟩))/\V prog (Instr.fieldAt 195 (.pointer (some ⟨g,0,none⟩)) 0) w9 λt75 w29=>V prog (Instr.loadAt 36 t75) w29 λt76 w30=>V prog (Builtin.len_ #[36] 3 #[t76]) w30 λt77 w31=>V prog (Instr.buildSlice 23 1 #[(0,t77)]) w31 λt78 w32=>V prog (Builtin.append_ #[23,23] 23 #[tv,t78]) w32 K':=by
  intro K' hK;refine ⟨.inl ⟨_,rfl⟩,bC (bO.boxed hB9) cS iM rfl (fQ jY (aA.of_own ho9) ?_)⟩;refine jX bB [i64 (code.length:Nat)] rfl rfl (by simp) rfl λv7 w7 ho7 x7=>?_;have hs7:=x7.size;refine apS bB (x7.own hot) (aA.of_own ho7) rfl (by omega) (by unfold maxLen;omega) (by omega) λv8 w8 ho8 hg8 hl8=>?_;have f8:Fr (λk=>tv.ownBlock=some k) w9 w8:=(Fr.of_ext x7).trans (Fr.of_grown hg8 λk hk=>hk) λ_ _ h=>h;refine hK v8 w8 (fr.trans f8 λi _ hi=>.inr (hng i hi)) (f8.blk hB9 λhk=>by have:=hng _ hk;omega) (f8.own ho9 λk hk hk'=>hne k hk hk') (by simpa using ho8) λk hk hk'=>?_;rcases hl8 with h8|h8
  ·rw [h8] at hk';exact hne k hk hk'
  ·rw [h8] at hk';cases hk';have:=(ho9.lt _ hk).2;omega
 have hold:∀ {tv':Y} {w':O} {L N:Nat},code.length=L->pos<=N->Fr (λk=>k=g\/wB.heap.size<=k) wB w'->bO w' g [cv,nv,i64 (pos:Nat),lv',i64 ((0:Nat):Int)] 195->w'.ownsRow wB.heap.size 88 3 cv code.length (iI code)->w'.ownsRow wB.heap.size 3 1 tv' (tl++[(code.length:Int)]).length ((tl++[(code.length:Int)]).map i64)->(∀ k,cv.ownBlock=some k->tv'.ownBlock≠some k) ->
   ∃ H:Nat->Prop,Cd ⟨H,wB.heap.size,g,nv,lv',nums,loc⟩ w' w' L N 0/\(∀ w2,Fr (λk=>¬ H k) w' w2->Fr (λk=>k=g\/wB.heap.size<=k) wB w2/\w2.ownsRow wB.heap.size 3 1 tv' (tl++[(code.length:Int)]).length ((tl++[(code.length:Int)]).map i64))/\(∀ k,tv'.ownBlock=some k->H k):=by
  intro tv' w' L N hL hN f' hB' ho' ho2' hne';have hs:=f'.size;have hcv:∀ k,cv.ownBlock=some k->wB.heap.size<=k:=λk hk=>(ho'.lt k hk).1;have htv:∀ k,tv'.ownBlock=some k->k < w'.heap.size/\k≠g/\cv.ownBlock≠some k:=λk hk=>⟨(ho2'.lt k hk).2,by have:=(ho2'.lt k hk).1;omega,λhc=>hne' k hc hk⟩
  obtain ⟨mo,tr⟩:=hMo (λk=>k < w'.heap.size/\k≠g/\cv.ownBlock≠some k) f' (λk hk hH=>by
   apply Classical.byContradiction;intro hkg;exact hH ⟨by omega,hkg,λhc=>by have:=hcv k hc;omega⟩) (λk hk=>⟨hk.1,hk.2.1⟩)
  exact ⟨_,⟨mo,Fr.refl _ _,cv,code,pos,hB',ho',hL,hN,hrg,λk hk hH=>hH.2.2 hk⟩,λw2 f2=>⟨tr w2 f2,f2.own ho2' λk hk hH=>hH (htv k hk)⟩,htv⟩
 refine lnR AC (hr.ext (hf fr).2) (aW.2 ?_);by_cases c0:(j:Int) < (rl.length:Int)/\(j:Int) < 12/\(code.length:Int) < 70
 case pos=>
  obtain ⟨c1,c2,c3⟩:=c0;simp only [c1,c2,aR];refine ⟨.inl ⟨_,rfl⟩,bC (bO.boxed hB9) cS iM rfl (fQ jY (aA.of_own ho9) (aW.2 ?_))⟩;simp only [c3,aR];refine grow λtv' w3 f3 hB3 ho3 ho4 hne3=>?_;obtain ⟨H,hcd,hst,htH⟩:=hold rfl (Nat.le_refl _) f3 hB3 ho3 ho4 hne3;have D3:aE w3 w3.drew:=(aE.refl _).drew;obtain ⟨x,hx⟩:=bE (l:=rl) (j:=j) (by omega);obtain ⟨uv,urun,usl⟩:=aBv underlying23 bW (aA.of_own ho4) (lo:=none) (hi':=some (.int .i64 (j:Int))) (a:=0) (b:=j) (.inl ⟨rfl,rfl⟩) (.inr rfl) (by omega) (by simp;omega);refine aK.mk' (λw'=>aE w3 w') D3 ?_;refine ySS AC bCj ((hr.ext (hf f3).2).str hx) (λ_ h=>h) hx (λ_ row e h=>by rw [h];rfl) λrow hrow=>?_;have hrow:row=[i64 x.k,i64 x.a,i64 x.b,i64 x.e]:=hrow;subst hrow;refine aD.ok (λw' _=>urun _) ?_;have mk3:=(hcd.mk (n:=4100*j) hc9 hp9).ext D3;refine bBd (tl:=tl) (ms:=ms) (is:=is) mk3 (by omega) (λw' f=>?_) (by omega) (λw' f=>hm.ext (hf (hst w' f).1).2) (λw' f=>hi.ext (hf (hst w' f).1).2) m0 m4 i0 i4 λw4 h4=>bA.2 ?_
  ·have:=usl w' (aA.of_own (hst w' f).2);unfold aN;rw [htl];simpa [<- htl] using this
  ·rw [aM (by omega),bK];obtain ⟨_,f4,cv4,code4,pos4,b1,b2,b3,b4,b5,b6,b7⟩:=h4;obtain ⟨f5,ho5⟩:=hst _ f4;exact ⟨⟨j+1,tl++[(code.length:Int)],cv4,code4,pos4,rfl,by omega,by omega,by simp [htl],f5,b1,b2,by omega,by omega,b6,ho5,λk hk hk'=>b7 k hk (htH k hk')⟩,by simp only [aL];omega⟩
 have c5:¬ ((j:Int) < (rl.length:Int))\/((j:Int) < (rl.length:Int)/\¬ ((j:Int) < 12))\/((j:Int) < (rl.length:Int)/\(j:Int) < 12/\¬ ((code.length:Int) < 70)):=by omega
 clear c0;rcases c5 with c1|⟨c1,c2⟩|⟨c1,c2,c3⟩
 case' neg.inl=>simp only [c1,aR]
 case' neg.inr.inl=>simp only [c1,c2,aR]
 case' neg.inr.inr=>
  simp only [c1,c2,aR];refine ⟨.inl ⟨_,rfl⟩,bC (bO.boxed hB9) cS iM rfl (fQ jY (aA.of_own ho9) (aW.2 ?_))⟩;simp only [c3,aR]
 all_goals
  refine grow λtv' w3 f3 hB3 ho3 ho4 hne3=>?_;obtain ⟨H,hcd,hst,htH⟩:=hold (N:=4100*j) rfl hp9 f3 hB3 ho3 ho4 hne3;have htl':(tl++[(code.length:Int)]).length=j+1:=by simp [htl]
  clear hold grow;generalize tl++[(code.length:Int)]=tl' at *;clear hB9 ho9 hrg hot hne fr hng hs9 hB3 ho3 hne3 f3 hp9 htl;generalize code.length=L at *
  have fin:∀ {w' L N},Cd ⟨H,wB.heap.size,g,nv,lv',nums,loc⟩ w3 w' L N 0->L<=700000->Go.Vc.bL (.pointer (some ⟨g,0,none⟩))/\V prog (Instr.fieldAt 195 (.pointer (some ⟨g,0,none⟩)) 0) w' λt w=>V prog (Instr.loadAt 36 t) w K:=by
   intro w' L N hc hL;obtain ⟨_,f,cv,code,pos,b1,b2,b3,b4,b5,b6⟩:=hc;have hx:=(hf (hst _ f).1).2;have:=xB.size;exact ⟨.inl ⟨_,rfl⟩,bC (bO.boxed b1) (by first|exact dB|exact dA|exact cF|exact cZ|exact cQ|exact cP|exact cE|exact cY|exact cX|exact cW|exact cO|exact cN|exact cM|exact bV|exact cV|exact bU|exact dI|exact cU|exact cT|exact dH|exact dG|exact dL|exact dF|exact dK|exact dV|exact dU|exact eG|exact eW|exact eF|exact eE|exact eV|exact eD|exact eU|exact bR|exact dT|exact dS|exact dR|exact eC|exact dJ|exact bX|exact cD|exact eR|exact eB|exact dQ|exact cC|exact dP|exact eZ|exact dO|exact fL|exact eQ|exact aZ|exact eO|exact cB|exact eA|exact eN|exact fK|exact cS) (by first|exact gZ|exact gJ|exact gY|exact iR|exact kK|exact iQ|exact iP|exact iO|exact bF|exact jF|exact iN|exact dE|exact aG|exact lF|exact iM) rfl (hk _ code w' (aU b2 (show w.heap.size<=wB.heap.size by omega)) b5 (by omega) (x25.trans hx))⟩
  have hmt:∀ {w'},Fr (λk=>¬ H k) w3 w'->aY w' b5 [pv,i64 m.result,lv,_]:=λf=>hb5.ext (hf (hst _ f).1).2;refine ⟨λv w'=>∃ k:Nat,v=i64 k/\k<=L/\Cd ⟨H,wB.heap.size,g,nv,lv',nums,loc⟩ w3 w' L (4100*j) 0,λv _=>L - (RowKit.intOf v).toNat,⟨0,rfl,Nat.zero_le _,hcd⟩,?_⟩;clear hcd;rintro _ w10 ⟨k,rfl,hkL,hcd⟩ _;refine ⟨.inl ⟨_,rfl⟩,bJi hcd (aW.2 (aB (λhlt=>?_) λhge2=>?_))⟩
  ·obtain ⟨g',cap,code',pos',hcl,hpp,hC⟩:=hcd.code (by omega);obtain ⟨x,hx⟩:=bE (l:=code') (j:=k) (by omega);have hsl:=aA.of_own hC.own
   have nxt:∀ {w'},Cd ⟨H,wB.heap.size,g,nv,lv',nums,loc⟩ w3 w' L (4100*j) 0->V prog (binOp .add 3 (i64 k) (i64 1)) w' λt w2=>(∃ k:Nat,t=i64 k/\k<=L/\Cd ⟨H,wB.heap.size,g,nv,lv',nums,loc⟩ w3 w2 L (4100*j) 0)/\L - (RowKit.intOf t).toNat < L - (RowKit.intOf (i64 (k:Int))).toNat:=by
    intro w' hc';refine kQ (by omega) ?_;exact ⟨⟨k+1,rfl,by omega,hc'⟩,by simp only [aL];omega⟩
   refine ⟨.inl ⟨_,rfl⟩,bC (bO.boxed hC.blk) (by first|exact dB|exact dA|exact cF|exact cZ|exact cQ|exact cP|exact cE|exact cY|exact cX|exact cW|exact cO|exact cN|exact cM|exact bV|exact cV|exact bU|exact dI|exact cU|exact cT|exact dH|exact dG|exact dL|exact dF|exact dK|exact dV|exact dU|exact eG|exact eW|exact eF|exact eE|exact eV|exact eD|exact eU|exact bR|exact dT|exact dS|exact dR|exact eC|exact dJ|exact bX|exact cD|exact eR|exact eB|exact dQ|exact cC|exact dP|exact eZ|exact dO|exact fL|exact eQ|exact aZ|exact eO|exact cB|exact eA|exact eN|exact fK|exact cS) (by first|exact gZ|exact gJ|exact gY|exact iR|exact kK|exact iQ|exact iP|exact iO|exact bF|exact jF|exact iN|exact dE|exact aG|exact lF|exact iM) rfl ?_⟩;refine aQi jY bH (by first|exact gZ|exact gJ|exact gY|exact iR|exact kK|exact iQ|exact iP|exact iO|exact bF|exact jF|exact iN|exact dE|exact aG) hsl (by omega) (by omega) (aQq hx) (aH.2 ?_)
   by_cases h24:x.op=24
   case neg=>simp only [h24,aR];exact nxt hcd
   simp only [h24,aR];refine ⟨.inl ⟨_,rfl⟩,bC (bO.boxed hC.blk) (by first|exact dB|exact dA|exact cF|exact cZ|exact cQ|exact cP|exact cE|exact cY|exact cX|exact cW|exact cO|exact cN|exact cM|exact bV|exact cV|exact bU|exact dI|exact cU|exact cT|exact dH|exact dG|exact dL|exact dF|exact dK|exact dV|exact dU|exact eG|exact eW|exact eF|exact eE|exact eV|exact eD|exact eU|exact bR|exact dT|exact dS|exact dR|exact eC|exact dJ|exact bX|exact cD|exact eR|exact eB|exact dQ|exact cC|exact dP|exact eZ|exact dO|exact fL|exact eQ|exact aZ|exact eO|exact cB|exact eA|exact eN|exact fK|exact cS) (by first|exact gZ|exact gJ|exact gY|exact iR|exact kK|exact iQ|exact iP|exact iO|exact bF|exact jF|exact iN|exact dE|exact aG|exact lF|exact iM) rfl ?_⟩;refine aQi jY bD (by first|exact gZ|exact gJ|exact gY|exact iR|exact kK|exact iQ|exact iP|exact iO|exact bF|exact jF|exact iN|exact dE|exact aG) hsl (by omega) (by omega) (WM hx) (aW.2 ?_)
   by_cases ha0:x.a < 0
   case neg=>simp only [ha0,aR];exact nxt hcd
   simp only [ha0,aR];refine ⟨λv w'=>∃ q:Nat,v=i64 q/\q < tl'.length/\w'=w10,λv _=>tl'.length - (RowKit.intOf v).toNat,⟨0,rfl,by omega,rfl⟩,?_⟩;rintro _ w11 ⟨q,rfl,hq,hw⟩ _;have hw:=hw.symm;subst hw;have hot:=aA.of_own (hst _ hC.fr).2;refine fQ aQ hot (eY.2 ?_);rw [aM (by omega)];refine aW.2 ?_;by_cases c0:(q:Int) < (tl'.length:Int) - 1/\cI tl' q<=(k:Int)
   case pos=>
    obtain ⟨c1,c2⟩:=c0;simp only [c1,aR];refine lV aQ aG hot (by omega) (by omega) (cK (lL (by omega))) (rH.2 ?_);simp only [c2,aR];refine kQ (by omega) ?_;exact ⟨⟨q+1,rfl,by omega,rfl⟩,by simp only [aL];omega⟩
   have c5:¬ ((q:Int) < (tl'.length:Int) - 1)\/((q:Int) < (tl'.length:Int) - 1/\¬ (cI tl' q<=(k:Int))):=by omega
   clear c0;rcases c5 with c1|⟨c1,c2⟩
   case' neg.inl=>simp only [c1,aR]
   case' neg.inr=>
    simp only [c1,aR];refine lV aQ aG hot (by omega) (by omega) (cK (lL (by omega))) (rH.2 ?_);simp only [c2,aR]
   all_goals
    have D1:aE w10 w10.drew:=(aE.refl _).drew;have hC:=hC.ext D1;have hot:=hot.ext D1;refine aK.mk' (λw'=>aE w10.drew w') (aE.refl _) ?_;refine ⟨.inl ⟨_,rfl⟩,jG (λw' hx=>bO.boxed (hC.blk.ext hx)) (by first|exact dB|exact dA|exact cF|exact cZ|exact cQ|exact cP|exact cE|exact cY|exact cX|exact cW|exact cO|exact cN|exact cM|exact bV|exact cV|exact bU|exact dI|exact cU|exact cT|exact dH|exact dG|exact dL|exact dF|exact dK|exact dV|exact dU|exact eG|exact eW|exact eF|exact eE|exact eV|exact eD|exact eU|exact bR|exact dT|exact dS|exact dR|exact eC|exact dJ|exact bX|exact cD|exact eR|exact eB|exact dQ|exact cC|exact dP|exact eZ|exact dO|exact fL|exact eQ|exact aZ|exact eO|exact cB|exact eA|exact eN|exact fK|exact cS) (by first|exact gZ|exact gJ|exact gY|exact iR|exact kK|exact iQ|exact iP|exact iO|exact bF|exact jF|exact iN|exact dE|exact aG|exact lF|exact iM) rfl ?_⟩;refine sS aQ hot ?_;refine aD.ok (λw' _=>eM) (aD.ok (λw' _=>DD) (aD.ok (λw' _=>VO) ?_))
    rw [show IntKind.i64.wrap ((tl'.length:Int) - 1)=(tl'.length:Int) - 1 from aM (by omega),show IntKind.i64.wrap ((q:Int)+1)=(q:Int)+1 from aM (by omega)];obtain ⟨r,hr2,hr3⟩:∃ r:Nat,min ((tl'.length:Int) - 1) ((q:Int)+1)=r/\r < tl'.length:=⟨min (tl'.length - 1) (q+1),by omega,by omega⟩;rw [hr2];refine oE aQ aG hot (λ_ h=>h) (by omega) (by omega) (cK (lL hr3)) ?_;refine aD.ok (λw' _=>iL underlying36 nJ (by omega) (by omega)) ?_;refine aD.ok (λw' _=>FA.ex bD w' _ _) ?_;rw [Int.toNat_natCast];exact aZm hC (by omega) λw12 code2 hl2 hC2=>nxt (hC2.cd (by omega) hpp)
  refine ⟨λw'=>∃ L',L'<=60000/\Cd ⟨H,wB.heap.size,g,nv,lv',nums,loc⟩ w3 w' L' 60000 0,?_,?_⟩
  ·refine bC (hmt hcd.2.1) (by first|exact dB|exact dA|exact cF|exact cZ|exact cQ|exact cP|exact cE|exact cY|exact cX|exact cW|exact cO|exact cN|exact cM|exact bV|exact cV|exact bU|exact dI|exact cU|exact cT|exact dH|exact dG|exact dL|exact dF|exact dK|exact dV|exact dU|exact eG|exact eW|exact eF|exact eE|exact eV|exact eD|exact eU|exact bR|exact dT|exact dS|exact dR|exact eC|exact dJ|exact bX|exact cD|exact eR|exact eB|exact dQ|exact cC|exact dP|exact eZ|exact dO|exact fL|exact eQ|exact aZ|exact eO|exact cB|exact eA|exact eN|exact fK|exact cS|exact fI|exact gD|exact fU|exact iD|exact iU|exact dN|exact gC|exact iT|exact gW|exact gV|exact gU|exact iC|exact iB|exact gA|exact bQ|exact fT|exact fZ|exact dZ|exact dY|exact kC|exact kB|exact kZ|exact jI|exact fH|exact bP|exact kF|exact kY|exact gK|exact eI|exact dM|exact fW) (by first|exact gZ|exact gJ|exact gY|exact iR|exact kK|exact iQ|exact iP|exact iO|exact bF|exact jF|exact iN|exact dE|exact aG) rfl (cH.2 (aB (λhr=>?_) λhr=>⟨L,by omega,hcd.weak (by omega)⟩));refine bC (hmt hcd.2.1) (by first|exact dB|exact dA|exact cF|exact cZ|exact cQ|exact cP|exact cE|exact cY|exact cX|exact cW|exact cO|exact cN|exact cM|exact bV|exact cV|exact bU|exact dI|exact cU|exact cT|exact dH|exact dG|exact dL|exact dF|exact dK|exact dV|exact dU|exact eG|exact eW|exact eF|exact eE|exact eV|exact eD|exact eU|exact bR|exact dT|exact dS|exact dR|exact eC|exact dJ|exact bX|exact cD|exact eR|exact eB|exact dQ|exact cC|exact dP|exact eZ|exact dO|exact fL|exact eQ|exact aZ|exact eO|exact cB|exact eA|exact eN|exact fK|exact cS|exact fI|exact gD|exact fU|exact iD|exact iU|exact dN|exact gC|exact iT|exact gW|exact gV|exact gU|exact iC|exact iB|exact gA|exact bQ|exact fT|exact fZ|exact dZ|exact dY|exact kC|exact kB|exact kZ|exact jI|exact fH|exact bP|exact kF|exact kY|exact gK|exact eI|exact dM|exact fW) (by first|exact gZ|exact gJ|exact gY|exact iR|exact kK|exact iQ|exact iP|exact iO|exact bF|exact jF|exact iN|exact dE|exact aG) rfl ?_
   refine IC (hcd.mk (n:=49200) (by omega) (by omega)) (by omega) λw11 h11=>?_;obtain ⟨L',h1,h2⟩:=h11.cd;exact ⟨L',by omega,h2.weak (by omega)⟩
  rintro w11 ⟨L',hL',hcd'⟩ _;refine gT (hcd'.mk (n:=60000) (by omega) (by omega)) (by omega) λw12 h12=>?_;obtain ⟨L2,hL2,hcd2⟩:=h12.cd;refine ⟨.inl ⟨_,rfl⟩,bJi hcd2 (iH.2 (aB (λhg=>?_) λhg=>fin hcd2 (by omega)))⟩;have hsB:wB.heap.size<=w12.heap.size:=(hst _ hcd2.2.1).1.size;refine oD yN [(0,i64 39)] rfl rfl ?_;refine zX underlying36 nJ rfl (by decide) [.agg #[i64 39,i64 0,i64 0]] rfl rfl (by intro v hv;rw [List.mem_singleton] at hv;subst hv;rfl) (by decide) (by decide) λuv w13 ho13 x13=>?_;refine ⟨.inl ⟨_,rfl⟩,aEn (code:=[⟨39,0,0⟩]) (hcd2.ext x13) ho13 hsB (by intro x hx;rw [List.mem_singleton] at hx;subst hx;exact ⟨by decide,by decide⟩) (λk hk hH=>?_) λw14 hcd4=>?_⟩
  ·have h1:=(ho13.lt k hk).1;have h2:=(hcd2.1.hH k hH).1;have h3:=hcd2.2.1.size;omega
  refine bC (hmt hcd4.2.1) (by first|exact dB|exact dA|exact cF|exact cZ|exact cQ|exact cP|exact cE|exact cY|exact cX|exact cW|exact cO|exact cN|exact cM|exact bV|exact cV|exact bU|exact dI|exact cU|exact cT|exact dH|exact dG|exact dL|exact dF|exact dK|exact dV|exact dU|exact eG|exact eW|exact eF|exact eE|exact eV|exact eD|exact eU|exact bR|exact dT|exact dS|exact dR|exact eC|exact dJ|exact bX|exact cD|exact eR|exact eB|exact dQ|exact cC|exact dP|exact eZ|exact dO|exact fL|exact eQ|exact aZ|exact eO|exact cB|exact eA|exact eN|exact fK|exact cS|exact fI|exact gD|exact fU|exact iD|exact iU|exact dN|exact gC|exact iT|exact gW|exact gV|exact gU|exact iC|exact iB|exact gA|exact bQ|exact fT|exact fZ|exact dZ|exact dY|exact kC|exact kB|exact kZ|exact jI|exact fH|exact bP|exact kF|exact kY|exact gK|exact eI|exact dM|exact fW) (by first|exact gZ|exact gJ|exact gY|exact iR|exact kK|exact iQ|exact iP|exact iO|exact bF|exact jF|exact iN|exact dE|exact aG) rfl (cH.2 (aB (λhr=>?_) λhr=>fin hcd4 (by simp)));refine oD yN [(0,i64 1)] rfl rfl (oD yN [(0,i64 39)] rfl rfl ?_)
  have hsB4:wB.heap.size<=w14.heap.size:=(hst _ hcd4.2.1).1.size;refine zX underlying36 nJ rfl (by decide) [.agg #[i64 1,i64 0,i64 0],.agg #[i64 39,i64 0,i64 0]] rfl rfl (by intro v hv;simp only [List.mem_cons,List.not_mem_nil,or_false] at hv;rcases hv with rfl|rfl<;>rfl) (by decide) (by decide) λuv5 w15 ho15 x15=>?_;refine ⟨.inl ⟨_,rfl⟩,aEn (code:=[⟨1,0,0⟩,⟨39,0,0⟩]) (hcd4.ext x15) ho15 hsB4 (by intro x hx;simp only [List.mem_cons,List.not_mem_nil,or_false] at hx;rcases hx with rfl|rfl<;>exact ⟨by decide,by decide⟩) (λk hk hH=>?_) λw16 hcd6=>fin hcd6 (by simp)⟩;have h1:=(ho15.lt k hk).1;have h2:=(hcd4.1.hH k hH).1;have h3:=hcd4.2.1.size;omega
end Go.Proofs.YtjcmcfidblhnnaaGreatDoor
namespace Go.Vc
section
variable {P:Program} {w:O} {K:Y->O->Prop}
theorem xI (w:O) (s:ByteArray) (pos:Nat) (ty:TypeId) (h:pos < s.size) :
  (Instr.next (.pointer (some ⟨w.heap.size,0,none⟩)) true ty).run P (w.iter s pos)=.ok (.tuple #[.bool true,i64 pos,.int .i32 (Utf8.decode s pos).1]) (w.iter s (pos+(Utf8.decode s pos).2)):=by
 simp only [Instr.next,getObj,setObj,Sem.run_bind,Sem.run,World.iter_heap,Result.andThen,h,if_true,World.iter_set];simp [goInt]
theorem IE {a:Array Y} {n:Nat} {v:Y} (h:a[n]?=some v) (hk:K v w):V P (Instr.extract (.tuple a) n) w K:=V.ok (by simp [Instr.extract,h]) hk
theorem aZv {t:TypeId} (ht:P.underlying t=some .string) {s:ByteArray} {k:Nat} (h:k<=s.size):(Instr.sliceAt t (.string s) (some (i64 k)) none none).run P w=.ok (.string (s.extract k s.size)) w:=by
 simp [Instr.sliceAt,Instr.slice,run_underlying ht,Instr.sliceBounds,Instr.sliceBound,asIntOf,h]
theorem aFq {t e n:TypeId} {z:Y} {by_ sz:Nat} (ht:P.underlying t=some (.array n e)) (hi:dD P e z sz by_) {b off:Nat} {k:IntKind} {i:Int} (h0:0<=i) (h1:i < n) :
  (Instr.indexAt t (.pointer (some ⟨b,off,none⟩)) (.int k i)).run P w=.ok (.pointer (some ⟨b,off+i.toNat*sz,none⟩)) w:=by
 simp [Instr.indexAt,asIntOf,run_underlying ht,Instr.sureAddr,fX hi,h0,h1,lE]
end
end Go.Vc
namespace Go.Proofs.YtjcmcfidblhnnaaGreatDoor
open Tryz
open Go.Vc Go.Tc
variable {w:O} {K:Y->O->Prop}
variable {vs:List ByteArray} {ps:List Nat}
def nmB:List ByteArray:=[⟨#[97,108,112,104,97]⟩,⟨#[98,195,169,116,97]⟩,⟨#[103,45,49]⟩,⟨#[100,46,195,191]⟩]
structure tV (w:O):Prop where
 f:w.cell? ⟨1,195,none⟩=some (.int .u8 2)
 a0:w.cell? ⟨2,0,none⟩=some (.int .u8 128)
 a1:w.cell? ⟨2,1,none⟩=some (.int .u8 191)
theorem tV.ext {w':O} (h:tV w) (hx:aE w w'):tV w':=⟨hx.cell h.f,hx.cell h.a0,hx.cell h.a1⟩
def bBa (t:ByteArray) (vs:List ByteArray):Prop:=t.size<=8/\(t.size=0\/(∃ c,t[0]?=some c/\c.toNat < 128/\t.extract 1 t.size∈vs)\/(∃ c,t[0]?=some 195/\t[1]?=some c/\128<=c.toNat/\c.toNat<=191/\t.extract 2 t.size∈vs))
theorem VD {s:ByteArray} (hT:tV w) (h0:s∈vs) (hvs:∀ t∈vs,bBa t vs) (hk:∀ w',aE w w'->K (.bool true) w'):aC prog 142 #[.string s] w K:=by
 apply aXr;unfold QN;refine ⟨λv w'=>∃ t,t∈vs/\v=.string t/\aE w w',λv _=>match v with|.string s=>s.size|_=>0,⟨s,h0,rfl,aE.refl _⟩,?_⟩;rintro _ w1 ⟨t,ht,rfl,x1⟩ _;obtain ⟨h8,hc⟩:=hvs t ht;refine V.ok (uH underlying9) (iH.2 ?_);have hsz:∀ {j:Nat} {c:UInt8},t[j]?=some c->j < t.size:=λh=>(getElem?_eq_some_iff.1 h).1;have hex:∀ k,(t.extract k t.size).size=t.size - k:=λk=>by simp
 rcases hc with hz|⟨c,hc0,hlt,hmem⟩|⟨c,hc0,hc1,hlo,hhi,hmem⟩
 ·have:¬ (t.size:Int) > 0:=by omega
  simp only [this,aR];exact hk _ x1
 ·have hs:=hsz hc0;have e1:(t.size:Int) > 0:=by omega
  simp only [e1,aR];refine V.ok (wA underlying9 hc0) (aW.2 ?_);have e2:(c.toNat:Int) < 128:=by omega
  simp only [e2,aR];refine V.ok (aZv (k:=1) underlying9 (by omega)) ?_;refine ⟨λv w'=>v=.string (t.extract 1 t.size)/\w'=w1,V.ok (uH underlying9) (iH.2 ?_),?_⟩
  ·have e3:¬ ((t.extract 1 t.size).size:Int) > 8:=by rw [hex];omega
   simp only [e3,aR];exact ⟨trivial,trivial⟩
  ·rintro _ _ ⟨rfl,rfl⟩ _;refine ⟨⟨_,hmem,rfl,x1⟩,?_⟩;show (t.extract 1 t.size).size < t.size;rw [hex];omega
 ·have hs0:=hsz hc0;have hs:=hsz hc1;have e1:(t.size:Int) > 0:=by omega
  simp only [e1,aR];refine V.ok (wA underlying9 hc0) (aW.2 ?_);have e2:¬ (((195:UInt8).toNat:Nat):Int) < 128:=by decide
  simp only [e2,aR];have hT1:=hT.ext x1;refine V.ok (aFq underlying276 bCu (by decide) (by decide)) ?_;refine V.ok (bBn hT1.f) ?_;refine V.ok (v:=.int .u8 2) (w':=w1) (by kernel_rfl) ?_;refine V.ok (v:=i64 2) (w':=w1) (by kernel_rfl) ?_;refine V.ok (v:=.int .u8 0) (w':=w1) (by kernel_rfl) ?_;refine V.ok (aFq underlying279 TM (by decide) (by decide)) ?_;obtain ⟨d,z,by_,g1,g2,g3⟩:=bCi;refine V.ok (nT (cs:=[.int .u8 128,.int .u8 191]) g1 g2 g3 rfl λj hj=>?_) ?_
  ·match j,hj with
   | 0,_=>exact hT1.a0
   | 1,_=>exact hT1.a1
  refine wV bBi rfl rfl λb2 w2 hb2 x2=>?_;have hb2:aY w2 b2 [.int .u8 128,.int .u8 191]:=hb2;refine aH.2 ?_;simp only [aR,Int.reduceEq];have D1:aE w2 w2.drew:=(aE.refl _).drew;refine aK.mk' (λw'=>aE w2 w') D1 ?_;refine aD.ok (λw' _=>uH underlying9) (aD.ok (λw' _=>AG) ?_);have e3:¬ (t.size:Int) < 2:=by omega
  simp only [e3,aR];refine aD.ok (λw' _=>wA underlying9 hc1) ?_;refine jG (λw' hw=>hb2.ext hw) kC bJl rfl (aD.ok (λw' _=>AG) ?_);have e4:¬ (c.toNat:Int) < 128:=by omega
  simp only [e4,aR];refine jG (λw' hw=>hb2.ext hw) kB bJl rfl ?_;refine aD.ok (λw' _=>wA underlying9 hc1) (aD.ok (λw' _=>AG) ?_);have e5:¬ (191:Int) < (c.toNat:Int):=by omega
  simp only [e5,aR];refine V.ok (aZv (k:=2) underlying9 (by omega)) ?_;refine ⟨⟨_,hmem,rfl,(x1.trans x2).trans D1⟩,?_⟩;show (t.extract 2 t.size).size < t.size;rw [hex];omega
def rnB (c:Nat):Bool:=(97<=c&&c<=122)||(48<=c&&c<=57)||c == 45||c == 46||(224<=c&&c<=255)
theorem GL {c:Nat} (h:rnB c=true):(97<=c/\c<=122)\/(¬ (97<=c)/\48<=c/\c<=57)\/c=45\/c=46\/(224<=c/\c<=255):=by
 simp only [rnB,Bool.or_eq_true,Bool.and_eq_true,decide_eq_true_eq,beq_iff_eq] at h;omega
theorem aCp {c:Nat} (h:rnB c=true) (hk:K (.bool true) w):aC prog 155 #[.int .i32 c] w K:=by
 apply aXe;unfold PZ;rcases GL h with ⟨h1,h2⟩|⟨h0,h1,h2⟩|rfl|rfl|⟨h1,h2⟩
 ·have a1:(c:Int)>=97:=by omega
  have a2:(c:Int)<=122:=by omega
  simp only [a1,a2,aR];exact hk
 ·have a1:¬ (c:Int)>=97:=by omega
  have a2:(c:Int)>=48:=by omega
  have a3:(c:Int)<=57:=by omega
  simp only [a1,a2,a3,aR];exact hk
 ·simp only [show ((45:Nat):Int)=45 from rfl,aR,Int.reduceGE];exact hk
 ·simp only [show ((46:Nat):Int)=46 from rfl,aR,Int.reduceEq,Int.reduceGE];exact hk
 ·have a1:(c:Int)>=97:=by omega
  have a2:¬ (c:Int)<=122:=by omega
  have a3:(c:Int)>=48:=by omega
  have a4:¬ (c:Int)<=57:=by omega
  have a5:¬ (c:Int)=45:=by omega
  have a6:¬ (c:Int)=46:=by omega
  have a7:(c:Int)>=224:=by omega
  have a8:(c:Int)<=255:=by omega
  simp only [a1,a2,a3,a4,a5,a6,a7,a8,aR];exact hk
def bBx (s:ByteArray) (vs:List ByteArray) (ps:List Nat):Prop:=(s∈vs/\∀ t∈vs,bBa t vs)/\(1<=s.size/\s.size<=16)/\0∈ps/\∀ p∈ps,p < s.size->rnB (Utf8.decode s p).1=true/\p+(Utf8.decode s p).2∈ps/\0 < (Utf8.decode s p).2
theorem MK {s:ByteArray} (hT:tV w) (h:bBx s vs ps):aC prog 90 #[.string s] w (cR True w):=by
 obtain ⟨⟨h1,h2⟩,⟨h3,h4⟩,h5,h6⟩:=h;apply bFd;suffices key:∀ R:Y->O->Prop,(∀ w',aE w w'->R (.bool true) w')->KO (.string s) w R from key _ λ_ hx=>cR.yes trivial hx;intro R hR;unfold KO;refine V.ok (uH underlying9) (aW.2 ?_);have e1:¬ (s.size:Int) < 1:=by omega
 simp only [e1,aR];refine V.ok (uH underlying9) (iH.2 ?_);have e2:¬ (s.size:Int) > 16:=by omega
 simp only [e2,aR];refine VD hT h1 h2 λw1 x1=>dC.2 ?_;simp only [aR];refine V.ok (run_range_string _ _ _ underlying9) ?_;refine ⟨λw'=>∃ p∈ps,w'=w1.iter s p,λw'=>mu λq=>∃ p∈ps,w'=w1.iter s p/\s.size - p=q,⟨0,h5,rfl⟩,?_⟩;rintro _ ⟨p0,hp0,rfl⟩ _;obtain ⟨p,hp,hpe,hmu⟩:=xT (p:=λq=>∃ p∈ps,w1.iter s p0=w1.iter s p/\s.size - p=q) ⟨_,p0,hp0,rfl,rfl⟩;rw [hpe];rw [hpe] at hmu;by_cases hlt:p < s.size
 ·obtain ⟨g1,g2,g3⟩:=h6 p hp hlt;refine V.ok (xI _ _ _ _ hlt) (IE (v:=.bool true) rfl (bJ.2 (IE (v:=.int .i32 ((Utf8.decode s p).1:Nat)) rfl ?_)))
  have hmu':mu (λq=>∃ p'∈ps,w1.iter s (p+(Utf8.decode s p).2)=w1.iter s p'/\s.size - p'=q) < mu (λq=>∃ p'∈ps,w1.iter s p=w1.iter s p'/\s.size - p'=q):=by
   rw [<- hmu];exact Nat.lt_of_le_of_lt (LW ⟨_,g2,rfl,rfl⟩) (by omega)
  generalize (Utf8.decode s p).2=wd at *;generalize (Utf8.decode s p).1=c at *;rcases GL g1 with ⟨h1,h2⟩|⟨h0,h1,h2⟩|rfl|rfl|⟨h1,h2⟩
  ·have a1:(c:Int)>=97:=by omega
   have a2:(c:Int)<=122:=by omega
   simp only [a1,a2,aR];exact ⟨⟨_,g2,rfl⟩,hmu'⟩
  ·have a1:¬ (c:Int)>=97:=by omega
   have a2:(c:Int)>=48:=by omega
   have a3:(c:Int)<=57:=by omega
   simp only [a1,a2,a3,aR];exact ⟨⟨_,g2,rfl⟩,hmu'⟩
  ·simp only [show ((45:Nat):Int)=45 from rfl,aR,Int.reduceGE];exact ⟨⟨_,g2,rfl⟩,hmu'⟩
  ·simp only [show ((46:Nat):Int)=46 from rfl,aR,Int.reduceEq,Int.reduceGE];exact ⟨⟨_,g2,rfl⟩,hmu'⟩
  ·have a1:(c:Int)>=97:=by omega
   have a2:¬ (c:Int)<=122:=by omega
   have a3:(c:Int)>=48:=by omega
   have a4:¬ (c:Int)<=57:=by omega
   have a5:¬ (c:Int)=45:=by omega
   have a6:¬ (c:Int)=46:=by omega
   have a7:(c:Int)>=224:=by omega
   have a8:(c:Int)<=255:=by omega
   simp only [a1,a2,a3,a4,a5,a6,a7,a8,aR];exact ⟨⟨_,g2,rfl⟩,hmu'⟩
 ·refine V.ok (run_next_end _ _ _ _ hlt) (IE rfl (aP.2 ?_));exact hR _ (x1.trans ((aE.refl _).alloc _))
theorem HG {s:ByteArray} (hT:tV w) (h:bBx s vs ps) (hne:(s.toList == ({ data:=#[] }:ByteArray).toList)=false):aC prog 106 #[.string s] w (cR True w):=by
 obtain ⟨⟨h1,h2⟩,⟨h3,h4⟩,h5,h6⟩:=h;apply aZb;suffices key:∀ R:Y->O->Prop,(∀ w',aE w w'->R (.bool true) w')->FN (.string s) w R from key _ λ_ hx=>cR.yes trivial hx;intro R hR;unfold FN;refine V.ok VR ?_;rw [hne];simp only [aR];refine V.ok (uH underlying9) (iH.2 ?_);have e2:¬ (s.size:Int) > 16:=by omega
 simp only [e2,aR];refine VD hT h1 h2 λw1 x1=>dC.2 ?_;simp only [aR];refine V.ok (run_range_string _ _ _ underlying9) ?_;refine ⟨λw'=>∃ p∈ps,w'=w1.iter s p,λw'=>mu λq=>∃ p∈ps,w'=w1.iter s p/\s.size - p=q,⟨0,h5,rfl⟩,?_⟩;rintro _ ⟨p0,hp0,rfl⟩ _;obtain ⟨p,hp,hpe,hmu⟩:=xT (p:=λq=>∃ p∈ps,w1.iter s p0=w1.iter s p/\s.size - p=q) ⟨_,p0,hp0,rfl,rfl⟩;rw [hpe];rw [hpe] at hmu;by_cases hlt:p < s.size
 ·obtain ⟨g1,g2,g3⟩:=h6 p hp hlt;refine V.ok (xI _ _ _ _ hlt) (IE (v:=.bool true) rfl (bJ.2 (IE (v:=.int .i32 ((Utf8.decode s p).1:Nat)) rfl ?_)));refine aCp g1 (dC.2 (aP.2 ⟨⟨_,g2,rfl⟩,?_⟩));show mu _ < mu _;rw [<- hmu];exact Nat.lt_of_le_of_lt (LW ⟨_,g2,rfl,rfl⟩) (by omega)
 ·refine V.ok (run_next_end _ _ _ _ hlt) (IE rfl (aP.2 ?_));exact hR _ (x1.trans ((aE.refl _).alloc _))
def aGp (t:ByteArray) (vs:List ByteArray):Bool:=vs.any λu=>decide (u.data=t.data)
theorem JK {t:ByteArray} (h:aGp t vs=true):t∈vs:=by
 simp only [aGp,List.any_eq_true,decide_eq_true_eq] at h;obtain ⟨u,hu,he⟩:=h;have:u=t:=ByteArray.ext he;subst this;exact hu
def aEl (t:ByteArray) (vs:List ByteArray):Bool:=
 decide (t.size<=8)&&(decide (t.size=0)||(match t[0]? with
  | some c=>(decide (c.toNat < 128)&&aGp (t.extract 1 t.size) vs)||(decide (c=195)&&(match t[1]? with
   | some d=>decide (128<=d.toNat/\d.toNat<=191)&&aGp (t.extract 2 t.size) vs
   | none=>false))
  | none=>false))
theorem aEk {t:ByteArray} (h:aEl t vs=true):bBa t vs:=by
 simp only [aEl,Bool.and_eq_true,Bool.or_eq_true,decide_eq_true_eq] at h;refine ⟨h.1,?_⟩;rcases h.2 with h2|h2
 ·exact .inl h2
 ·right;cases h0:t[0]? with
  | none=>rw [h0] at h2;cases h2
  | some c=>
   rw [h0] at h2;simp only [Bool.or_eq_true,Bool.and_eq_true,decide_eq_true_eq] at h2;rcases h2 with ⟨a,b⟩|⟨a,b⟩
   ·exact .inl ⟨c,rfl,a,JK b⟩
   ·subst a;cases h1:t[1]? with
    | none=>rw [h1] at b;cases b
    | some d=>
     rw [h1] at b;simp only [Bool.and_eq_true,decide_eq_true_eq] at b;exact .inr ⟨d,rfl,rfl,b.1.1,b.1.2,JK b.2⟩
def WC (s:ByteArray) (vs:List ByteArray) (ps:List Nat):Bool:=
 (aGp s vs&&vs.all λt=>aEl t vs)&&decide (1<=s.size/\s.size<=16)&&decide (0∈ps)&&ps.all λp=>!decide (p < s.size)||(rnB (Utf8.decode s p).1&&decide (p+(Utf8.decode s p).2∈ps)&&decide (0 < (Utf8.decode s p).2))
theorem xS {s:ByteArray} (h:WC s vs ps=true):bBx s vs ps:=by
 simp only [WC,Bool.and_eq_true,decide_eq_true_eq,List.all_eq_true] at h;obtain ⟨⟨⟨⟨h1,h2⟩,h3⟩,h4⟩,h5⟩:=h;refine ⟨⟨JK h1,λt ht=>aEk (h2 t ht)⟩,h3,h4,λp hp hlt=>?_⟩;have:=h5 p hp;simp only [hlt,decide_true,Bool.not_true,Bool.false_or,Bool.and_eq_true,decide_eq_true_eq] at this;exact ⟨this.1.1,this.1.2,this.2⟩
theorem SX {s:ByteArray} (h:s∈nmB) (hT:tV w):uS w s:=by
 have key:∀ {vs:List ByteArray} {ps:List Nat},WC s vs ps=true->(s.toList == ({ data:=#[] }:ByteArray).toList)=false->uS w s:=λh1 h2 w' hx=>⟨MK (hT.ext hx) (xS h1),HG (hT.ext hx) (xS h1) h2⟩;simp only [nmB,List.mem_cons,List.not_mem_nil,or_false] at h;rcases h with rfl|rfl|rfl|rfl
 ·exact key (vs:=[⟨#[97,108,112,104,97]⟩,⟨#[108,112,104,97]⟩,⟨#[112,104,97]⟩,⟨#[104,97]⟩,⟨#[97]⟩,⟨#[]⟩]) (ps:=[0,1,2,3,4,5]) (by kernel_rfl) (by kernel_rfl)
 ·exact key (vs:=[⟨#[98,195,169,116,97]⟩,⟨#[195,169,116,97]⟩,⟨#[116,97]⟩,⟨#[97]⟩,⟨#[]⟩]) (ps:=[0,1,3,4,5]) (by kernel_rfl) (by kernel_rfl)
 ·exact key (vs:=[⟨#[103,45,49]⟩,⟨#[45,49]⟩,⟨#[49]⟩,⟨#[]⟩]) (ps:=[0,1,2,3]) (by kernel_rfl) (by kernel_rfl)
 ·exact key (vs:=[⟨#[100,46,195,191]⟩,⟨#[46,195,191]⟩,⟨#[195,191]⟩,⟨#[]⟩]) (ps:=[0,1,2,4]) (by kernel_rfl) (by kernel_rfl)
theorem SY {n:Int} (hk:∀ s∈nmB,K (.string s) w):aC prog 42 #[i64 n] w K:=by
 apply bGv;unfold aAa;refine aRj (v:=.agg (nmB.map Value.string).toArray) (λw=>by kernel_rfl) ?_;refine eJ (by decide) (by decide) λq hq0 hq1=>?_;have hc:q=0\/q=1\/q=2\/q=3:=by omega
 rcases hc with rfl|rfl|rfl|rfl
 ·exact V.ok (v:=.string ⟨#[97,108,112,104,97]⟩) (w':=w) (by kernel_rfl) (hk _ (by simp [nmB]))
 ·exact V.ok (v:=.string ⟨#[98,195,169,116,97]⟩) (w':=w) (by kernel_rfl) (hk _ (by simp [nmB]))
 ·exact V.ok (v:=.string ⟨#[103,45,49]⟩) (w':=w) (by kernel_rfl) (hk _ (by simp [nmB]))
 ·exact V.ok (v:=.string ⟨#[100,46,195,191]⟩) (w':=w) (by kernel_rfl) (hk _ (by simp [nmB]))
end Go.Proofs.YtjcmcfidblhnnaaGreatDoor
namespace Go.Vc
section
variable {P:Program} {w:O} {K:Y->O->Prop}
theorem aFg {t e sz:Nat} {z:Y} {by_:Nat} (ht:P.underlying t=some (.slice e)) (hi:dD P e z sz by_) {v:Y} {n:Nat} {cs:List Y} (h:aA w v sz n cs) {lo hi':Option Y} {a b:Nat} (ha:(lo=none/\a=0)\/lo=some (.int .i64 a)) (hb:(hi'=none/\b=n)\/hi'=some (.int .i64 b)) (hab:a<=b) (hbn:b<=n) :
  ∃ v',(∀ w',(Instr.sliceAt t v lo hi' none).run P w'=.ok v' w')/\∀ w2,aA w2 v sz n cs->aA w2 v' sz (b - a) ((cs.drop (a*sz)).take ((b - a)*sz)):=by
 have hcl:cs.length=n*sz:=h.1;have hmul:(b - a)*sz+a*sz<=n*sz:=by rw [<- Nat.add_mul];exact Nat.mul_le_mul_right _ (by omega)
 rcases h.2 with ⟨rfl,h0⟩|⟨g,off,cap,rfl,h1,h2,_⟩
 ·have ea:a=0:=by omega
  have eb:b=0:=by omega
  subst ea eb;refine ⟨.slice none 0 0,λw'=>?_,λw2 _=>?_⟩
  ·rcases ha with ⟨rfl,_⟩|rfl<;>rcases hb with ⟨rfl,_⟩|rfl<;>simp [Instr.sliceAt,Instr.slice,run_underlying ht,fX hi,Instr.sliceBounds,Instr.sliceBound,asIntOf]
  ·simp;exact aA.nil w2 _
 ·have hb1:(0:Int)<=b/\(b:Int)<=cap:=⟨by omega,by omega⟩;have ha1:(0:Int)<=a/\(a:Int)<=b:=⟨by omega,by omega⟩;have hbc:b<=cap:=by omega
  refine ⟨.slice (if cap=a then some ⟨g,off,none⟩ else (some (⟨g,off,none⟩:Addr)).map (·.add (a*sz))) (b - a) (cap - a),λw'=>?_,λw2 hw2=>?_⟩
  ·rcases ha with ⟨rfl,rfl⟩|rfl<;>rcases hb with ⟨rfl,rfl⟩|rfl<;>simp [Instr.sliceAt,Instr.slice,run_underlying ht,fX hi,Instr.sliceBounds,Instr.sliceBound,asIntOf,hab,hbc]
  ·refine ⟨by rw [List.length_take,List.length_drop];omega,.inr ?_⟩;by_cases hca:cap=a
   ·rw [if_pos hca];have e0:b - a=0:=by omega
    exact ⟨g,off,cap - a,rfl,by omega,by omega,λj u hj=>by rw [e0] at hj;simp at hj⟩
   ·rw [if_neg hca];rcases hw2.2 with ⟨he,_⟩|⟨g',off',cap',he,_,_,h3⟩
    ·cases he
    ·cases he;refine ⟨g,off+a*sz,cap - a,by simp [lE],by omega,by omega,λj u hj=>?_⟩;rw [List.getElem?_take] at hj;split at hj
     ·rw [List.getElem?_drop] at hj;have:=h3 _ _ hj;rw [Nat.add_assoc];exact this
     ·cases hj
end
end Go.Vc
namespace Go.Proofs.YtjcmcfidblhnnaaGreatDoor
open Tryz
open Go.Vc Go.Tc
variable {w:O} {K:Y->O->Prop}
theorem cA.part {α:Type} {T:O->List Y->α->Prop} {sz t e by_:Nat} {z v:Y} {l:List α} (ht:Program.underlying prog t=some (.slice e)) (hi:dD prog e z sz by_) (h:cA T sz w v l) {lo hi':Option Y} {a b:Nat} (ha:(lo=none/\a=0)\/lo=some (.int .i64 a)) (hb:(hi'=none/\b=l.length)\/hi'=some (.int .i64 b)) (hab:a<=b) (hbn:b<=l.length) :
  ∃ v',(∀ w',(Instr.sliceAt t v lo hi' none).run prog w'=.ok v' w')/\cA T sz w v' ((l.drop a).take (b - a)):=by
 obtain ⟨cs,h1,h2⟩:=h;obtain ⟨v',hr,hs⟩:=aFg ht hi h1 ha hb hab hbn;refine ⟨v',hr,(cs.drop (a*sz)).take ((b - a)*sz),?_,λk x hk=>?_⟩
 ·have:=hs w h1
  rwa [show ((l.drop a).take (b - a)).length=b - a by simp;omega]
 ·rw [List.getElem?_take] at hk;split at hk
  case isFalse=>cases hk
  rename_i hlt
  rw [List.getElem?_drop] at hk;obtain ⟨row,h3,h4⟩:=h2 (a+k) x hk;refine ⟨row,?_,h4⟩
  have hle:k*sz+sz<=(b - a)*sz:=by
   have:=Nat.mul_le_mul_right sz (show k+1<=b - a by omega);rw [Nat.add_mul,Nat.one_mul] at this;exact this
  have hmin:min sz ((b - a)*sz - k*sz)=sz:=Nat.min_eq_left (by omega);rw [<- h3,List.drop_take,List.drop_drop,List.take_take,Nat.add_mul,hmin]
theorem kL.part {t e by_:Nat} {z v:Y} {l:List Rw} (ht:Program.underlying prog t=some (.slice e)) (hi:dD prog e z 4 by_) (h:kL w v l) {lo hi':Option Y} {a b:Nat} (ha:(lo=none/\a=0)\/lo=some (.int .i64 a)) (hb:(hi'=none/\b=l.length)\/hi'=some (.int .i64 b)) (hab:a<=b) (hbn:b<=l.length) :
  ∃ v',(∀ w',(Instr.sliceAt t v lo hi' none).run prog w'=.ok v' w')/\kL w v' ((l.drop a).take (b - a)):=by
 by_cases h0:0 < l.length
 ·obtain ⟨v',h1,h2⟩:=cA.part ht hi (h.2 h0) ha hb hab hbn;exact ⟨v',h1,kL.of h2⟩
 ·obtain ⟨⟨a0,c,rfl⟩,_⟩:=h;have el:l=[]:=List.length_eq_zero_iff.1 (by omega);subst el;obtain rfl:a=0:=by simp at hbn;omega
  obtain rfl:b=0:=by simpa using hbn
  refine ⟨.slice (if c=0 then a0 else a0.map (·.add (0*4))) 0 c,λw'=>?_,⟨_,_,rfl⟩,λh=>by simp at h⟩
  rcases ha with ⟨rfl,_⟩|rfl<;>rcases hb with ⟨rfl,_⟩|rfl<;>simp [Instr.sliceAt,Instr.slice,run_underlying ht,fX hi,Instr.sliceBounds,Instr.sliceBound,asIntOf]
theorem aPa {t s f o ft sz n g cap B e:Nat} {ez fz:Y} {eb fb:Nat} {xs:List Y} {k:Nat} {u:Y} {K':O->Prop} (_:Program.underlying prog t=some (.slice e)) (_:dD prog e ez sz eb) (_:FA prog s f o) (hft:dD prog ft fz 1 fb)
  (ho:w.ownsRow B e sz (.slice (some ⟨g,0,none⟩) n cap) n xs) (hk:k < n) (hos:o < sz) (hu:bY u=true) (hK:∀ w',w'=w.setCell ⟨g,k*sz+o,none⟩ u->w'.ownsRow B e sz (.slice (some ⟨g,0,none⟩) n cap) n (xs.set (k*sz+o) u)->Fr (λi=>i=g) w w'->K' w') :
  U prog (Instr.storeAt ft (.pointer (some ⟨g,0+k*sz+o,none⟩)) u) w λ_ w2=>K' w2:=by
 have hle:k*sz+sz<=n*sz:=by
  have:=Nat.mul_le_mul_right sz (show k+1<=n by omega);rw [Nat.add_mul,Nat.one_mul] at this;exact this
 obtain ⟨s1,s2⟩:=ho.stored (k*sz+o) u;have hc:=ho.cellAt (k*sz+o) (by omega);have hlt:k*sz+o < xs.length:=by rw [ho.1];omega
 rw [List.getElem?_eq_getElem hlt] at hc;rw [Nat.zero_add];exact U.ok (mW hft hu hc (ho.frozenAt _)) (hK _ rfl s1 (Fr.of_set rfl))
end Go.Proofs.YtjcmcfidblhnnaaGreatDoor
