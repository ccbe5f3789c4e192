/- The reference's walk over a method. -/
import Derived.Test.YtjcmcfidblhnnaaGreatDoorTe
import Derived.Lib.AppendZeros
import Derived.Great.FillDense
import Derived.Great.BuildSlice
import Derived.Laws.RangeString
set_option maxHeartbeats 4000000
namespace Go.Vc
theorem least {p:Nat->Prop} (h:∃ n,p n):∃ n,p n/\∀ m,p m->n<=m:=by
 obtain ⟨n,hn⟩:=h;induction n using Nat.strongRecOn with
 | ind n ih=>
  by_cases hm:∃ m,m < n/\p m
  ·obtain ⟨m,h1,h2⟩:=hm;exact ih m h1 h2
  ·refine ⟨n,hn,λm h2=>?_⟩;by_cases hlt:m < n
   ·exact absurd ⟨m,hlt,h2⟩ hm
   ·omega
theorem KR {P:Program} {w:O} {K:Y->O->Prop} {a b c d:Y}:V P (Instr.extract (.tuple #[a,b,c,d]) 0) w K↔K a w:=V.iff (by simp [Instr.extract])
theorem KQ {P:Program} {w:O} {K:Y->O->Prop} {a b c d:Y}:V P (Instr.extract (.tuple #[a,b,c,d]) 1) w K↔K b w:=V.iff (by simp [Instr.extract])
theorem KP {P:Program} {w:O} {K:Y->O->Prop} {a b c d:Y}:V P (Instr.extract (.tuple #[a,b,c,d]) 2) w K↔K c w:=V.iff (by simp [Instr.extract])
theorem KO {P:Program} {w:O} {K:Y->O->Prop} {a b c d:Y}:V P (Instr.extract (.tuple #[a,b,c,d]) 3) w K↔K d w:=V.iff (by simp [Instr.extract])
open Classical in
noncomputable def mu (p:Nat->Prop):Nat:=if h:∃ n,p n then Classical.choose (least h) else 0
theorem yO {p:Nat->Prop} (h:∃ n,p n):p (mu p):=by
 unfold mu;rw [dif_pos h];exact (Classical.choose_spec (least h)).1
theorem MP {p:Nat->Prop} {n:Nat} (h:p n):mu p<=n:=by
 unfold mu;rw [dif_pos ⟨n,h⟩];exact (Classical.choose_spec (least ⟨n,h⟩)).2 n h
end Go.Vc
namespace Go.Tc
theorem ET {n:Nat} {stack:List Int}:∀ {l:List Int} {x:Int} {s:St},lX n stack (l++[x]) s=(lX n stack l s).bind λs'=>nM n s' x stack
 | [],x,s=>by simp [lX]
 | y::l,x,s=>by
  simp only [List.cons_append,lX];cases nM n s y stack with
  | none=>rfl
  | some s1=>exact ET (l:=l)
theorem HT {n:Nat} {stack:List Int}:∀ {l m:List Int} {s:St},lX n stack (l++m) s=(lX n stack l s).bind λs'=>lX n stack m s'
 | [],m,s=>rfl
 | y::l,m,s=>by
  simp only [List.cons_append,lX];cases nM n s y stack with
  | none=>rfl
  | some s1=>exact HT (l:=l)
theorem HD (x:lT) (pc:Nat):(fN x pc).length<=2:=by
 unfold fN;split
 ·exact Nat.le_succ 1
 split
 ·exact Nat.le_refl _
 split
 ·exact Nat.zero_le _
 ·exact Nat.le_succ 1
theorem EU {n j:Nat} {stack l:List Int} {x:Int} {s s':St} (h1:lX n stack (l.take j) s=some s') (h2:l[j]?=some x) (h3:nM n s' x stack=none):lX n stack l s=none:=by
 have e:l=l.take j++x::l.drop (j+1):=by
  have h4:=List.getElem?_eq_some_iff.1 h2;obtain ⟨hlt,rfl⟩:=h4;rw [<- List.drop_eq_getElem_cons hlt,List.take_append_drop]
 rw [e,HT,h1];simp [lX,h3]
theorem ES {n j:Nat} {stack l:List Int} {x:Int} {s s1 s2:St} (h1:lX n stack (l.take j) s=some s1) (h2:l[j]?=some x) (h3:nM n s1 x stack=some s2):lX n stack (l.take (j+1)) s=some s2:=by
 rw [List.take_add_one,h2];simp only [Option.toList_some];rw [ET,h1];exact h3
end Go.Tc
namespace Go.Proofs.YtjcmcfidblhnnaaGreatDoor
open Tryz
open Go.Vc Go.Tc
variable {w:O} {K:Y->O->Prop}
structure Mem (g1 g2 g3 B:Nat) (w:O) (n:Nat) (st:St):Prop where
 s1:∃ vs:List Y,vs.length=n/\bO w g1 vs 23/\∀ k,k < n->∃ v,vs[k]?=some v/\w.ownsRow B 3 1 v (st.s k).length ((st.s k).map i64)
 s2:bO w g2 (st.has.map .bool) 4
 s3:bO w g3 (st.todo.map .bool) 4
 l1:st.st.length=n
 l2:st.has.length=n
 l3:st.todo.length=n
 o:(g1≠g2/\g1≠g3/\g2≠g3)/\g1 < B/\g2 < B/\g3 < B/\B<=w.heap.size
variable {g1 g2 g3 B n:Nat} {st:St}
theorem Mem.ext {w':O} (h:Mem g1 g2 g3 B w n st) (hx:aG w w'):Mem g1 g2 g3 B w' n st:=by
 obtain ⟨⟨vs,h1,h2,h3⟩,h4,h5,l1,l2,l3,o⟩:=h;refine ⟨⟨vs,h1,h2.ext hx,λk hk=>?_⟩,h4.ext hx,h5.ext hx,l1,l2,l3,o.1,o.2.1,o.2.2.1,o.2.2.2.1,Nat.le_trans o.2.2.2.2 hx.size⟩;obtain ⟨v,hv,ho⟩:=h3 k hk;exact ⟨v,hv,hx.own ho⟩
theorem mG {g j:Nat} {u v:Y} {xs:List Y} {e sz m:Nat} (ho:w.ownsRow B e sz v m xs) (hg:g < B):(w.setCell ⟨g,j,none⟩ u).ownsRow B e sz v m xs:=
 (Fr.of_set (S:=λi=>i=g) rfl).own ho λk hk he=>by have:=(ho.lt k hk).1;omega
theorem Mem.setT (h:Mem g1 g2 g3 B w n st) (k:Nat) (b:Bool):Mem g1 g2 g3 B (w.setCell ⟨g3,k,none⟩ (.bool b)) n { st with todo:=st.todo.set k b }:=by
 obtain ⟨⟨vs,h1,h2,h3⟩,h4,h5,l1,l2,l3,o⟩:=h;refine ⟨⟨vs,h1,h2.other (by omega),λq hq=>?_⟩,h4.other (by omega),?_,l1,l2,by simpa using l3,o.1,o.2.1,o.2.2.1,o.2.2.2.1,by simpa using o.2.2.2.2⟩
 ·obtain ⟨v,hv,ho⟩:=h3 q hq;exact ⟨v,hv,mG ho o.2.2.2.1⟩
 ·have:=h5.set k (.bool b)
  rwa [<- List.map_set] at this
theorem Mem.setH (h:Mem g1 g2 g3 B w n st) (k:Nat) (b:Bool):Mem g1 g2 g3 B (w.setCell ⟨g2,k,none⟩ (.bool b)) n { st with has:=st.has.set k b }:=by
 obtain ⟨⟨vs,h1,h2,h3⟩,h4,h5,l1,l2,l3,o⟩:=h;refine ⟨⟨vs,h1,h2.other (by omega),λq hq=>?_⟩,?_,h5.other (by omega),l1,by simpa using l2,l3,o.1,o.2.1,o.2.2.1,o.2.2.2.1,by simpa using o.2.2.2.2⟩
 ·obtain ⟨v,hv,ho⟩:=h3 q hq;exact ⟨v,hv,mG ho o.2.2.1⟩
 ·have:=h4.set k (.bool b)
  rwa [<- List.map_set] at this
theorem Mem.setS (h:Mem g1 g2 g3 B w n st) {k:Nat} {v:Y} {s:List Int} (hv:w.ownsRow B 3 1 v s.length (s.map i64)) (hk:k < n):Mem g1 g2 g3 B (w.setCell ⟨g1,k,none⟩ v) n { st with st:=st.st.set k s }:=by
 obtain ⟨⟨vs,h1,h2,h3⟩,h4,h5,l1,l2,l3,o⟩:=h;refine ⟨⟨vs.set k v,by simpa using h1,h2.set k v,λq hq=>?_⟩,h4.other (by omega),h5.other (by omega),by simpa using l1,l2,l3,o.1,o.2.1,o.2.2.1,o.2.2.2.1,by simpa using o.2.2.2.2⟩
 have e:St.s { st with st:=st.st.set k s } q=if q=k then s else st.s q:=by
  simp only [St.s,lK];by_cases hqk:q=k
  ·rw [if_pos ⟨hqk,by omega⟩,if_pos hqk]
  ·rw [if_neg (λh=>hqk h.1),if_neg hqk]
 rw [e];by_cases hqk:q=k
 ·subst hqk;rw [if_pos rfl];exact ⟨v,by rw [List.getElem?_set_self (by omega)],mG hv o.2.1⟩
 ·rw [if_neg hqk];obtain ⟨u,hu,ho⟩:=h3 q hq;exact ⟨u,by rw [List.getElem?_set_ne (λe=>hqk e.symm)];exact hu,mG ho o.2.1⟩
theorem EV {l:List Bool} {j:Nat} (h:j < l.length):(l.map Value.bool)[(j:Int).toNat]?=some (.bool (l.getD j false)):=by
 simp [List.getD_eq_getElem?_getD,h]
theorem Mem.hs (h:Mem g1 g2 g3 B w n st) (hn:n<=1000):aA w (.slice (some ⟨g2,0,none⟩) n n) 1 n (st.has.map .bool):=h.s2.slice (by simpa using h.l2) (by unfold maxLen;omega)
theorem Mem.ts (h:Mem g1 g2 g3 B w n st) (hn:n<=1000):aA w (.slice (some ⟨g3,0,none⟩) n n) 1 n (st.todo.map .bool):=h.s3.slice (by simpa using h.l3) (by unfold maxLen;omega)
theorem Mem.ss (h:Mem g1 g2 g3 B w n st) (hn:n<=1000) {k:Nat} (hk:k < n):∃ vs v,aA w (.slice (some ⟨g1,0,none⟩) n n) 1 n vs/\vs[(k:Int).toNat]?=some v/\w.ownsRow B 3 1 v (st.s k).length ((st.s k).map i64):=by
 obtain ⟨vs,h1,h2,h3⟩:=h.s1;obtain ⟨v,hv,ho⟩:=h3 k hk;exact ⟨vs,v,h2.slice h1 (by unfold maxLen;omega),by simpa using hv,ho⟩
def rJ (w:O) (v:Y) (l:List (List Int)):Prop:=∃ vs,aA w v 1 l.length vs/\∀ k,k < l.length->∃ u,vs[k]?=some u/\aO w u (l.getD k [])
theorem rJ.ext {w':O} {v:Y} {l:List (List Int)} (h:rJ w v l) (hx:aG w w'):rJ w' v l:=by
 obtain ⟨vs,h1,h2⟩:=h;refine ⟨vs,h1.ext hx,λk hk=>?_⟩;obtain ⟨u,h3,h4⟩:=h2 k hk;exact ⟨u,h3,h4.ext hx⟩
theorem Mem.states (h:Mem g1 g2 g3 B w n st) (hn:n<=1000):rJ w (.slice (some ⟨g1,0,none⟩) n n) st.st:=by
 obtain ⟨vs,h1,h2,h3⟩:=h.s1;refine ⟨vs,by rw [h.l1];exact h2.slice h1 (by unfold maxLen;omega),λk hk=>?_⟩;obtain ⟨v,hv,ho⟩:=h3 k (by rw [<- h.l1];exact hk);exact ⟨v,hv,aA.of_own ho⟩
theorem Mem.bools (h:Mem g1 g2 g3 B w n st) (hn:n<=1000):gO w (.slice (some ⟨g2,0,none⟩) n n) st.has:=by
 unfold gO;rw [h.l2];exact h.hs hn
theorem yI {S:O->Prop} {L:Y->Prop} {v:Y} {l:List lT} {i:Nat} {x:lT} (hs:oC w v l) (hx:∀ w',S w'->aG w w') (hi:l[i]?=some x) (hk:L (.agg #[i64 x.op,i64 x.a,i64 x.b])):aF prog S (Instr.indexAt 36 v (i64 i)) λp=>aF prog S (Instr.loadAt 88 p) L:=by
 have hlt:i < l.length:=(List.getElem?_eq_some_iff.1 hi).1;obtain ⟨e,z,b',hte,hinf⟩:=kQ;obtain ⟨d,z',by_,h2,h3,h4⟩:=gS;obtain ⟨b,off,cap,rfl,hcell⟩:=aA.there hs (by omega);refine aF.ok (λw' _=>jZ hte hinf (by omega) (by omega)) (aF.ok (λw' hw=>nG (cs:=[i64 x.op,i64 x.a,i64 x.b]) h2 h3 h4 rfl λj hj=>?_) hk);have hrow:=tE hi;obtain ⟨u,hu⟩:∃ u,([i64 x.op,i64 x.a,i64 x.b]:List Y)[j]?=some u:=⟨_,List.getElem?_eq_getElem hj⟩;rw [hu,Nat.add_assoc];refine (hx w' hw).cell (hcell _ u ?_);rw [<- hrow,List.getElem?_take,List.getElem?_drop] at hu;split at hu
 ·simpa using hu
 ·cases hu
theorem qL {m:jR} {k:Nat} (h:k < m.code.length):m.code[k]?=some (m.ins k):=by
 unfold jR.ins;rw [List.getD_eq_getElem?_getD,List.getElem?_eq_getElem h];rfl
theorem aFj {p:iE} {i:iA} {k:Nat} (h:kF w p i) (ir:i.right) (hk:k < i.methods.length)
  (yes:∀ st sv hv w',qO i (i.meth k) (some st)->rJ w' sv st.st->gO w' hv st.has->aG w w'->K (.tuple #[sv,hv,i64 0,i64 0]) w')
  (no:∀ pc e w',qO i (i.meth k) none->e≠0->aG w w'->K (.tuple #[bC,bC,i64 pc,i64 e]) w') :
  aB prog 45 #[p.val i,i64 k] w K:=by
 have hm:=gI (i:=i) (a:=(k:Int)) (by omega) (by omega);rw [Int.toNat_natCast] at hm;have mr:(i.meth k).right:=ir.2.2.1.2.1 _ (List.mem_of_getElem? hm);generalize i.meth k=m at hm mr yes no;have hn1:=mr.2.2.2.1.1;have hn2:=mr.2.2.2.1.2;apply bIp;unfold aAy iE.val;refine bx λb1 w1 hb1 x1=>?_;refine aV hb1 bP dN rfl ?_;refine XL iF nW (h.ext x1).mt hm pX λrow hrow=>?_;have hrow0:=hrow;obtain ⟨pv,lv,cv,rfl,hp,hl,hc⟩:=hrow;obtain ⟨pa,pc,rfl⟩:=hp.shape;obtain ⟨la,lc,rfl⟩:=hl.shape;obtain ⟨ca,cc,rfl⟩:=aA.shape hc;refine sG DB rfl rfl λb2 w2 hb2 x2=>?_;have hb2:bF w2 b2 [.slice pa m.params.length pc,i64 m.result,.slice la m.locals.length lc,.slice ca m.code.length cc]:=hb2;have hc:=hc.ext x2;have hrow0:=hrow0.ext x2;have x12:=x1.trans x2;have h2:=h.ext x12;have hb1:=hb1.ext x2;refine ⟨λv w'=>∃ j:Nat,v=i64 j/\j<=m.code.length/\aG w2 w'/\∀ x∈m.code.take j,fL i m x,λv _=>m.code.length - (RowKit.intOf v).toNat,⟨0,rfl,Nat.zero_le _,aG.refl _,λ_ h=>by simp at h⟩,?_⟩;rintro _ w3 ⟨j,rfl,hj,x3,hnm⟩ _;refine aV (hb2.ext x3) cC hU rfl (gE kQ (hc.ext x3) (aZ.2 (aC (λhlt=>?_) λhge=>?_)))
 ·have hj':j < m.code.length:=by omega
  have hx:=qL hj';have hxm:=List.mem_of_getElem? hx;have D1:aG w3 w3.drew:=(aG.refl _).drew;have xd:=x3.trans D1;refine aL.mk' (λw'=>aG w2 w') xd ?_;refine yA (λw' hw=>hb1.ext hw) kJ rfl ?_;refine yA (λw' hw=>hb2.ext hw) nW rfl ?_;refine iB (λw' hw=>hb2.ext hw) cC hU rfl ?_;refine yI hc (λ_ h=>h) hx ?_;refine (aRj (h2.ext xd) (hrow0.ext xd) mr (mr.2.2.2.2 _ hxm)).mono λv w4 ⟨b,hv,hb,x4⟩=>?_;subst hv;refine ⟨xd.trans x4,aF.ok (λw' _=>vZ) ?_⟩;cases b with
  | false=>simp only [aR];exact no _ 9 _ (.inl ⟨⟨_,hxm,λh=>by have:=hb.2 h;cases this⟩,rfl⟩) (by decide) ((x12.trans xd).trans x4)
  | true=>
   simp only [aR];refine jS (by omega) ?_;refine ⟨⟨j+1,rfl,by omega,xd.trans x4,λy hy=>?_⟩,by simp only [aK];omega⟩;rw [List.take_add_one,hx] at hy;rcases List.mem_append.1 hy with hy|hy
   ·exact hnm y hy
   ·simp at hy;subst hy;exact hb.1 rfl
 have hjl:j=m.code.length:=by omega
 subst hjl;rw [List.take_length] at hnm;have hox:∀ x∈m.code,xR i m x:=λx hx=>⟨ir,mr,mr.2.2.2.2 x hx,hnm x hx⟩;refine aV (hb2.ext x3) cC hU rfl (gE kQ (hc.ext x3) ?_);refine mkB underlying92 mR rfl (by omega) (by omega) λw4 hB1 x4 z4=>?_;have x34:=x3.trans x4;refine aV (hb2.ext x34) cC hU rfl (gE kQ (hc.ext x34) ?_);refine mkB underlying95 lE rfl (by omega) (by omega) λw5 hB2 x5 z5=>?_;have x35:=x34.trans x5;refine aV (hb2.ext x35) cC hU rfl (gE kQ (hc.ext x35) ?_);refine mkB underlying95 lE rfl (by omega) (by omega) λw6 hB3 x6 z6=>?_;have x36:=x35.trans x6
 have hmem:Mem w3.heap.size w4.heap.size w5.heap.size w6.heap.size w6 m.code.length (St.ini m.code.length):=by
  refine ⟨⟨_,by simp,(hB1.ext x5).ext x6,λq hq=>⟨.slice none 0 0,by simp [hq],?_⟩⟩,?_,?_,by simp [St.ini],by simp [St.ini],by simp [St.ini],by omega,by omega,by omega,by omega,Nat.le_refl _⟩
  ·have:(St.ini m.code.length).s q=[]:=by simp [St.ini,St.s,List.getD_eq_getElem?_getD,hq]
   rw [this];exact World.ownsRow_nil _ _ _ _
  ·have:(St.ini m.code.length).has.map Value.bool=List.replicate m.code.length (.bool false):=by simp [St.ini]
   rw [this];exact hB2.ext x6
  ·have:(St.ini m.code.length).todo.map Value.bool=List.replicate m.code.length (.bool false):=by simp [St.ini]
   rw [this];exact hB3
 have hg1:w3.heap.size < w6.heap.size:=by omega
 have hw2:w2.heap.size<=w3.heap.size:=x3.size;have hw3:w3.heap.size+1=w4.heap.size:=by omega
 have hw4:w4.heap.size+1=w5.heap.size:=by omega
 generalize w3.heap.size=g1 at hmem hg1 hw2 hw3;generalize w4.heap.size=g2 at hmem hw3 hw4;generalize w5.heap.size=g3 at hmem hw4;generalize w6.heap.size=B at hmem hg1;refine WH hO lE hmem.s2 (n:=m.code.length) (by simp [St.ini]) (by omega) (by omega) rfl ?_;simp only [show (0:Int).toNat=0 from rfl];have hmem:=hmem.setH 0 true;refine WH hO lE hmem.s3 (n:=m.code.length) (by simp [St.ini]) (by omega) (by omega) rfl ?_;simp only [show (0:Int).toNat=0 from rfl];have hmem:=hmem.setT 0 true;have x38:=(x36.setCell (b:=g2) (o:=0) (by omega) (.bool true)).setCell (b:=g3) (o:=0) (by omega) (.bool true)
 have efirst:({ St.ini m.code.length with has:=(St.ini m.code.length).has.set 0 true,todo:=(St.ini m.code.length).todo.set 0 true }:St)=St.first m.code.length:=by
  simp only [St.ini,St.first,St.mk.injEq,and_true];apply List.ext_getElem?;intro q;by_cases e:q=0
  ·subst e;simp [List.getElem?_replicate]
  ·simp []
 have hmem:Mem g1 g2 g3 B _ m.code.length (St.first m.code.length):=efirst▸hmem;obtain ⟨wf0,inv0⟩:=zC (i:=i) hn1;generalize ((w6.setCell ⟨g2,0,none⟩ (.bool true)).setCell ⟨g3,0,none⟩ (.bool true))=w8 at hmem x38;have hn:m.code.length<=1000:=by omega
 generalize hnn:m.code.length=n at *;refine ⟨λw'=>∃ st,(Mem g1 g2 g3 B w' n st/\aG w2 w'/\WF m st/\ZA i m st/\∀ r,oO i m st r->oO i m (St.first n) r),λw'=>mu λq=>∃ st,(Mem g1 g2 g3 B w' n st/\aG w2 w'/\WF m st/\ZA i m st/\∀ r,oO i m st r->oO i m (St.first n) r)/\msr n st=q,⟨_,hmem,x38,wf0,inv0,λ_ h=>h⟩,?_⟩;rintro w9 ⟨st0,hst0⟩ _;obtain ⟨st,⟨hM,x9,wf,inv,hR⟩,hmu⟩:=yO (p:=λq=>∃ st,(Mem g1 g2 g3 B w9 n st/\aG w2 w9/\WF m st/\ZA i m st/\∀ r,oO i m st r->oO i m (St.first n) r)/\msr n st=q) ⟨_,_,hst0,rfl⟩;clear hst0 st0;refine ⟨λv w'=>∃ q:Nat,v=i64 q/\q<=n/\w'=w9/\∀ j,j < q->st.t j=false,λv _=>n - (RowKit.intOf v).toNat,⟨0,rfl,Nat.zero_le _,rfl,λ_ h=>absurd h (Nat.not_lt_zero _)⟩,?_⟩;rintro _ w9' ⟨q,rfl,hq,hw9,hno⟩ _;have hw9:=hw9.symm;subst hw9;have hWk:∀ {r},oO i m st r->qO i m r:=λ{r} hr=>.inr ⟨hnm,by rw [hnn];exact hR r hr⟩;refine gE hO (hM.ts hn) (aZ.2 ?_);by_cases hqn:(q:Int) < (n:Int)
 case neg=>
  have hqe:(q:Int)=(n:Int):=by omega
  simp only [hqn,aR];refine gE hO (hM.ts hn) (aJ.2 ?_);simp only [hqe,aR];exact yes st _ _ _ (hWk (.done (xI λj hj=>hno j (by rw [hM.l3] at hj;omega)))) (hM.states hn) (hM.bools hn) (x12.trans x9)
 have hqn':q < n:=by omega
 simp only [hqn,aR];refine mH hO oM (hM.ts hn) (by omega) (by omega) (EV (by rw [hM.l3];exact hqn')) (dO.2 ?_);have ett:st.todo.getD q false=st.t q:=rfl;rw [ett];cases htq:st.t q with
 | false=>
  simp only [aR];refine jS (by omega) ?_;refine ⟨⟨q+1,rfl,by omega,rfl,λj hj=>?_⟩,by simp only [aK];omega⟩;by_cases hjq:j=q
  ·rw [hjq];exact htq
  ·exact hno j (by omega)
 | true=>
 simp only [aR];refine gE hO (hM.ts hn) (aJ.2 ?_);have hne:¬ ((q:Int)=(n:Int)):=by omega
 simp only [hne,aR];have hfirst:nS st.todo=some q:=AL htq λj hj=>hno j hj
 have hhq:st.h q=true:=by
  cases e:st.h q with
  | true=>rfl
  | false=>have:=(wf.no q e).2;rw [htq] at this;cases this
 obtain ⟨hkd,hl8⟩:=wf.kd q hhq;have hxq:=qL (m:=m) (k:=q) (by omega);have ox:=hox _ (List.mem_of_getElem? hxq);refine WH hO lE hM.s3 (n:=n) (by simpa using hM.l3) (by omega) (by omega) rfl ?_;rw [Int.toNat_natCast];have hM1:=hM.setT q false;have x10:=x9.setCell (b:=g3) (o:=q) (by omega) (.bool false);generalize w9.setCell ⟨g3,q,none⟩ (.bool false)=w10 at hM1 x10;have estep:uP i m st q=(CG i m (m.ins q) (st.s q)).bind λstack=>lX n stack (fN (m.ins q) q) { st with todo:=st.todo.set q false }:=by unfold uP;rw [hnn]
 generalize hst1:({ st with todo:=st.todo.set q false }:St)=st1 at hM1 estep;have es1:st1.s q=st.s q:=by rw [<- hst1];rfl
 obtain ⟨vs,v,hvs,hv,hov⟩:=hM1.ss hn hqn';rw [es1] at hov;have D1:aG w10 w10.drew:=(aG.refl _).drew;have xd:=x10.trans D1;refine aL.mk' (λw'=>aG w10 w') D1 ?_;refine yA (λw' hw=>hb1.ext (x10.trans hw)) kJ rfl ?_;refine yA (λw' hw=>hb2.ext (x10.trans hw)) nW rfl ?_;refine iB (λw' hw=>hb2.ext (x10.trans hw)) cC hU rfl ?_;have hcn:oC w2 (.slice ca n cc) m.code:=hc;refine yI hcn (λ_ h=>x10.trans h) hxq ?_;refine nT pG bE hvs (λ_ h=>h) (by omega) (by omega) hv ?_;refine bFi (h2.ext xd) (hrow0.ext xd) ox (aA.of_own (D1.own hov)) hkd hl8 (λout v2 w11 hdo ho2 x11=>?_) λe w11 hdo hne x11=>?_
 case refine_2=>
  refine ⟨D1.trans x11,aF.ok (λw' _=>nQ) (aF.ok (λw' _=>nP) (cL.2 ?_))⟩;simp only [hne,aR];refine no q e _ (hWk (.fail hfirst ?_)) hne ((x12.trans xd).trans x11);rw [estep,hdo];rfl
 refine ⟨D1.trans x11,aF.ok (λw' _=>nQ) (aF.ok (λw' _=>nP) (cL.2 ?_))⟩;simp only [aR];obtain ⟨od1,od2,_,_⟩:=AO ox hkd hdo;rw [hdo] at estep;have estep:uP i m st q=lX n out (fN (m.ins q) q) st1:=estep;have xd11:=D1.trans x11;have hM2:=hM1.ext xd11;have x11':=x10.trans xd11;have ho2:=aU ho2 (B':=B) (Nat.le_trans hM1.o.2.2.2.2 D1.size);refine aV (hb2.ext x11') cC hU rfl ?_;refine ldI (hcn.ext x11') hxq ?_;refine aCo (x:=m.ins q) (pc:=q) (by omega) λtv w12 hot x12'=>?_;have ht0:=XH ox (pc:=q);have hLl:(fN (m.ins q) q).length<=2:=HD _ _;generalize fN (m.ins q) q=L at hot ht0 estep hLl;have hM3:=hM2.ext x12';have hot:=aU hot (B':=B) hM2.o.2.2.2.2;have ho3:=x12'.own ho2;have x13:=x11'.trans x12'
 have wf1:WF m st1:=by
  rw [<- hst1];refine ⟨wf.l1,wf.l2,by simpa using wf.l3,wf.kd,λk hk=>⟨(wf.no k hk).1,?_⟩⟩;simp only [St.t,lK];split
  ·rfl
  ·exact (wf.no k hk).2
 have fail:∀ {j to st' w'} (pc e:Int),lX n out (L.take j) st1=some st'->L[j]?=some to->nM n st' to out=none->e≠0->aG w2 w'->K (.tuple #[bC,bC,i64 pc,i64 e]) w':=by
  intro j to st' w' pc e h1 h2 h3 h4 h5;exact no pc e _ (hWk (.fail hfirst (by rw [estep];exact EU h1 h2 h3))) h4 (x12.trans h5)
 refine ⟨λv w'=>∃ (j:Nat) (st':St),v=i64 j/\j<=L.length/\aG w2 w'/\Mem g1 g2 g3 B w' n st'/\lX n out (L.take j) st1=some st'/\w'.ownsRow B 3 1 tv L.length (L.map i64)/\w'.ownsRow B 3 1 v2 out.length (out.map i64),λv _=>L.length - (RowKit.intOf v).toNat,⟨0,st1,rfl,Nat.zero_le _,x13,hM3,rfl,hot,ho3⟩,?_⟩;rintro _ w13 ⟨j,st',rfl,hj,xx,hM4,hgo,hot4,ho4⟩ _;refine gE aP (aA.of_own hot4) (aZ.2 (aC (λhlt=>?_) λhge=>?_))
 case refine_2=>
  have hjL:j=L.length:=by omega
  subst hjL;rw [List.take_length] at hgo;have es:uP i m st q=some st':=by rw [estep];exact hgo
  obtain ⟨s1,s2,s3⟩:=BX hox wf inv hfirst es;have hI:Mem g1 g2 g3 B w13 n st'/\aG w2 w13/\WF m st'/\ZA i m st'/\∀ r,oO i m st' r->oO i m (St.first n) r:=⟨hM4,xx,s1,s2,λr hr=>hR r (.go hfirst es hr)⟩;rw [hnn] at s3;exact ⟨⟨st',hI⟩,Nat.lt_of_le_of_lt (MP ⟨st',hI,rfl⟩) (Nat.lt_of_lt_of_eq s3 hmu)⟩
 obtain ⟨to,hto⟩:=bI (l:=L) (j:=j) (by omega);have hto0:=ht0 to (List.mem_of_getElem? hto);refine JT aP aE hot4 (by omega) (by omega) (cM hto) ?_;refine aV (hb2.ext xx) cC hU rfl ?_;refine gE kQ (hc.ext xx) (fK.2 (aC (λhbig=>?_) λhsm=>?_))
 ·rw [hnn] at hbig;exact fail _ 13 hgo hto (by unfold nM;rw [if_pos (by omega)]) (by decide) xx
 rw [hnn] at hsm;obtain ⟨t,rfl⟩:∃ t:Nat,to=t:=⟨to.toNat,by omega⟩;have htn:t < n:=by omega
 have wf':WF m st':=(zA od1 od2 wf1 (λto ht=>ht0 to (List.mem_of_mem_take ht)) (by rw [hnn];exact hgo)).1
 have next:∀ {w' st''},aG w2 w'->Mem g1 g2 g3 B w' n st''->nM n st' t out=some st''->w'.ownsRow B 3 1 tv L.length (L.map i64)->w'.ownsRow B 3 1 v2 out.length (out.map i64)->V prog (binOp .add 3 (i64 j) (i64 1)) w' λt2 w'=>
   (∃ (j:Nat) (st':St),t2=i64 j/\j<=L.length/\aG w2 w'/\Mem g1 g2 g3 B w' n st'/\lX n out (L.take j) st1=some st'/\w'.ownsRow B 3 1 tv L.length (L.map i64)/\w'.ownsRow B 3 1 v2 out.length (out.map i64))/\L.length - (RowKit.intOf t2).toNat < L.length - (RowKit.intOf (i64 (j:Int))).toNat:=by
  intro w' st'' h1 h2 h3 h4 h5;refine jS (by omega) ?_;exact ⟨⟨j+1,st'',rfl,by omega,h1,h2,ES hgo hto h3,h4,h5⟩,by simp only [aK];omega⟩
 refine mH hO oM (hM4.hs hn) (by omega) (by omega) (EV (by rw [hM4.l2];exact htn)) (dO.2 ?_);have ehh:st'.has.getD t false=st'.h t:=rfl;rw [ehh]
 have hgG:∀ {r},(if st'.h t then (mO (st'.s t) out).bind λj=>if j=st'.s t then some st' else some { st' with st:=st'.st.set t j,todo:=st'.todo.set t true } else some ⟨st'.st.set t out,st'.has.set t true,st'.todo.set t true⟩)=r->nM n st' t out=r:=by
  rintro _ rfl;unfold nM;rw [if_neg (by omega)];simp only [Int.toNat_natCast]
 have hlo1:w2.heap.size<=g1:=hw2;have hlo2:w2.heap.size<=g2:=by omega
 have hlo3:w2.heap.size<=g3:=by omega
 have hBo:=hM4.o;cases hht:st'.h t with
 | false=>
  simp only [aR];obtain ⟨vs4,q1,q2,q3⟩:=hM4.s1
  refine WH pG mR q2 (n:=n) q1 (by omega) (by omega) (by
   rcases ho4.2 with ⟨rfl,_⟩|⟨_,_,_,rfl,_⟩<;>rfl) ?_
  rw [Int.toNat_natCast];have hM5:=hM4.setS ho4 htn;refine WH hO lE hM5.s2 (n:=n) (by simpa using hM5.l2) (by omega) (by omega) rfl ?_;rw [Int.toNat_natCast];have hM6:=hM5.setH t true;refine WH hO lE hM6.s3 (n:=n) (by simpa using hM6.l3) (by omega) (by omega) rfl ?_;rw [Int.toNat_natCast];have hM7:=hM6.setT t true;refine next (((xx.setCell hlo1 _).setCell hlo2 _).setCell hlo3 _) hM7 (hgG (by rw [hht];rfl)) ?_ ?_
  ·exact mG (mG (mG hot4 hBo.2.1) hBo.2.2.1) hBo.2.2.2.1
  ·exact mG (mG (mG ho4 hBo.2.1) hBo.2.2.1) hBo.2.2.2.1
 | true=>
  simp only [aR];obtain ⟨hkt,hlt8⟩:=wf'.kd t hht;obtain ⟨vs5,v5,hvs5,hv5,hov5⟩:=hM4.ss hn htn;refine mH pG bE hvs5 (by omega) (by omega) hv5 ?_;refine aEy (aA.of_own hov5) (aA.of_own ho4) hkt od1 (by omega) (λjo v6 w14 hjo ho6 x14=>?_) λw14 hjo x14=>?_
  case refine_2=>
   refine gR.2 (gQ.2 (dO.2 ?_));simp only [aR];exact fail _ 14 hgo hto (hgG (by rw [hht,hjo];rfl)) (by decide) (xx.trans x14)
  refine gR.2 (gQ.2 (dO.2 ?_));simp only [aR];have hM5:=hM4.ext x14;obtain ⟨vs7,v7,hvs7,hv7,hov7⟩:=hM5.ss hn htn;refine mH pG bE hvs7 (by omega) (by omega) hv7 ?_;refine TG (aA.of_own ho6) (aA.of_own hov7) λw15 x15=>dO.2 ?_;have hM6:=hM5.ext x15;have xx15:=(xx.trans x14).trans x15;have hot6:=(x14.trans x15).own hot4;have ho46:=(x14.trans x15).own ho4;have ho6:=aU (x15.own ho6) (B':=B) hBo.2.2.2.2;by_cases hje:jo=st'.s t
  ·simp only [hje,aR];exact next xx15 hM6 (hgG (by rw [hht,hjo];simp [hje])) hot6 ho46
  ·simp only [hje,aR];obtain ⟨vs8,q1,q2,q3⟩:=hM6.s1
   refine WH pG mR q2 (n:=n) q1 (by omega) (by omega) (by
    rcases ho6.2 with ⟨rfl,_⟩|⟨_,_,_,rfl,_⟩<;>rfl) ?_
   rw [Int.toNat_natCast];have hM7:=hM6.setS ho6 htn;refine WH hO lE hM7.s3 (n:=n) (by simpa using hM7.l3) (by omega) (by omega) rfl ?_;rw [Int.toNat_natCast];have hM8:=hM7.setT t true;refine next ((xx15.setCell hlo1 _).setCell hlo3 _) hM8 (hgG (by rw [hht,hjo];simp [hje])) ?_ ?_
   ·exact mG (mG hot6 hBo.2.1) hBo.2.2.2.1
   ·exact mG (mG ho46 hBo.2.1) hBo.2.2.2.1
theorem CT {p:iE} {i:iA} (h:kF w p i) (hn:lO w i) (hk:∀ a b e w',(e=0↔mE i)->aG w w'->K (.tuple #[.agg #[i64 a,i64 b],i64 e]) w'):aB prog 21 #[p.val i] w K:=by
 apply bJm;unfold aBt iE.val;refine bx λb1 w1 hb1 x1=>?_;refine zU BM λw2 hB2 x2=>?_;have x12:=x1.trans x2;have hg:w.heap.size<=w1.heap.size:=x1.size;have hb1:=hb1.ext x2;generalize w1.heap.size=g at hB2 hg;have hB2:bO w2 g [i64 0,i64 0] 78:=hB2;refine iC hb1 kJ rfl ?_;refine (aQj (h.ext x12) (hn.ext x12)).mono λv w3 ⟨b,hv,hb,x3⟩=>?_;subst hv;have x13:=x12.trans x3
 have fin:∀ {w':O} {a b e:Int},bO w' g [i64 0,i64 0] 78->aG w w'->(e=0↔mE i)->U prog (Instr.storeAt 78 (.pointer (some ⟨g,0,none⟩)) (.agg #[i64 a,i64 b])) w' λ_ w7=>
   ∃ r1,(loadVar 78 (match (Value.pointer (some ⟨g,0,none⟩)) with|.pointer (some p)=>p|_=>⟨0,0,none⟩)).run prog w7=.ok r1 w7/\(∃ p,(Value.pointer (some ⟨g,0,none⟩))=Value.pointer (some p))/\K (.tuple #[r1,i64 e]) w7:=by
  intro w' a b e hB hx he;refine wR BM hB (l:=[i64 a,i64 b]) rfl rfl rfl rfl λw7 hB7 hc=>?_;exact ⟨_,oF underlying78 rfl BM hB7 rfl,⟨_,rfl⟩,hk a b e _ he (hc.ext _ hx hg)⟩
 cases b with
 | false=>
  simp only [aR];refine lF IA [] rfl rfl ?_;exact fin (hB2.ext x3) x13 ⟨λh=>(by cases h),λh=>by have:=hb.2 h.1;cases this⟩
 | true=>
 simp only [aR];have ir:=hb.1 rfl;have hm8:=ir.2.2.1.1.2;refine ⟨λv w'=>∃ j:Nat,v=i64 j/\j<=i.methods.length/\aG w2 w'/\∀ q,q < j->∃ st,qO i (i.meth q) (some st),λv _=>i.methods.length - (RowKit.intOf v).toNat,⟨0,rfl,Nat.zero_le _,x3,λ_ h=>absurd h (Nat.not_lt_zero _)⟩,?_⟩;rintro _ w4 ⟨j,rfl,hj,x4,hall⟩ _;refine aV (hb1.ext x4) bP dN rfl (yR iF ((h.ext x12).ext x4).mt (aZ.2 (aC (λhlt=>?_) λhge=>?_)))
 ·refine iC (hb1.ext x4) kJ rfl ?_;refine aFj ((h.ext x12).ext x4) ir (by omega) (λst sv hv w5 hw _ _ x5=>?_) λpc e w5 hw hne x5=>?_
  ·refine KR.2 (KQ.2 (KP.2 (KO.2 (cL.2 ?_))));simp only [aR];refine jS (by omega) ?_;refine ⟨⟨j+1,rfl,by omega,x4.trans x5,λq hq=>?_⟩,by simp only [aK];omega⟩;by_cases hqj:q=j
   ·subst hqj;exact ⟨st,hw⟩
   ·exact hall q (by omega)
  ·refine KR.2 (KQ.2 (KP.2 (KO.2 (cL.2 ?_))));simp only [hne,aR];refine lF IA [(0,i64 j),(1,i64 pc)] rfl rfl ?_;refine fin (hB2.ext (x4.trans x5)) ((x12.trans x4).trans x5) ⟨λh=>absurd h hne,λht=>?_⟩;have hmm:=gI (i:=i) (a:=(j:Int)) (by omega) (by omega);obtain ⟨s,hs⟩:=ht.2 _ (List.mem_of_getElem? hmm);have:=hs.det hw;cases this
 ·have hjl:j=i.methods.length:=by omega
  subst hjl;refine lF IA [] rfl rfl ?_;refine fin (hB2.ext x4) (x12.trans x4) ⟨λ_=>⟨ir,λm hm=>?_⟩,λ_=>rfl⟩;obtain ⟨q,hq⟩:=List.getElem?_of_mem hm;have hlt:=(List.getElem?_eq_some_iff.1 hq).1;have hmm:=gI (i:=i) (a:=(q:Int)) (by omega) (by omega);rw [Int.toNat_natCast,hq] at hmm;cases hmm;exact hall q hlt
end Go.Proofs.YtjcmcfidblhnnaaGreatDoor
namespace Go.Vc
section
variable {P:Program} {w:O} {K:Y->O->Prop}
theorem MC {t ty e:TypeId} (ht:P.underlying t=some (.slice e)):(Builtin.cap_ #[t] ty #[.slice none 0 0]).run P w=.ok (i64 0) w:=by
 simp [Builtin.cap_,run_underlying ht,goInt]
theorem GZ {B e sz n a:Nat} {g cap:Nat} {xs:List Y} (h:w.ownsRow B e sz (.slice (some ⟨g,0,none⟩) n cap) n xs) (ha:a<=n):w.ownsRow B e sz (.slice (some ⟨g,0,none⟩) a cap) a (xs.take (a*sz)):=by
 obtain ⟨hl,h⟩:=h;rcases h with ⟨he,_⟩|⟨g',cap',cur,he,h1,h2,h3,h4,h5,h6⟩
 ·cases he
 ·cases he;have hle:a*sz<=n*sz:=Nat.mul_le_mul_right _ ha;refine ⟨by simp;omega,.inr ⟨g,cap,cur,rfl,h1,h2,by omega,h4,h5,?_⟩⟩;rw [<- h6,List.take_take,Nat.min_eq_left hle]
theorem bNs {t tn ty e:TypeId} {z:Y} {by_:Nat} {kn:IntKind} (ht:P.underlying t=some (.slice e)) (htn:P.underlying tn=some (.int kn)) (hi:cZ P e z 1 by_) (hz:z.cells=#[z]) {n:Nat} (h0:0 < n) (h63:n<=maxLen) (hb:n*by_<=281474976710656)
  (hk:∀ g cap w',w'.ownsRow w.heap.size e 1 (.slice (some ⟨g,0,none⟩) n cap) n (List.replicate n z)->aG w w'->K (.slice (some ⟨g,0,none⟩) n cap) w'):V P (Builtin.append_ #[t,tn] ty #[.slice none 0 0,i64 n]) w K:=by
 obtain ⟨i,hi',hz',hn,hby⟩:=info_parts hi;have hr:=Go.Lib.run_append_nil_zeros (P:=P) w t tn ty e i z .i64 kn ht htn hi' hz' n h0 (by omega) (by unfold maxLen at h63;omega) (by rw [hby];exact hb);have hge:=grownCap_ge w n 0 e;have hle:=grownCap_le_maxLen w n 0 e h63;generalize grownCap w n 0 e=cap at hr hge hle;refine V.ok hr (hk _ _ _ ?_ (((aG.refl w).drew).alloc _))
 have e1:(Builtin.zeroCells z.cells n++Builtin.zeroCells z.cells (cap - n)).toList=List.replicate cap z:=by
  rw [hz]
  have:∀ k,(Builtin.zeroCells #[z] k).toList=List.replicate k z:=λk=>List.eq_replicate_iff.2 ⟨by simp [Builtin.zeroCells],λb hb=>by
   simp only [Builtin.zeroCells,Array.toList_map,List.mem_map] at hb;obtain ⟨q,_,rfl⟩:=hb;simp [Nat.mod_one]⟩
  rw [Array.toList_append,this,this,List.replicate_append_replicate]
  congr 1;omega
 have e2:(Builtin.zeroCells z.cells n++Builtin.zeroCells z.cells (cap - n))=(List.replicate cap z).toArray:=by rw [<- e1]
 rw [e2];refine ⟨by simp,.inr ⟨w.heap.size,cap,(List.replicate cap z).toArray,rfl,Nat.le_refl _,?_,hge,hle,by simp,?_⟩⟩
 ·have:=heap_alloc_new w.drew (.cells (List.replicate cap z).toArray e);exact this
 ·simp [List.take_replicate,Nat.min_eq_left hge]
end
end Go.Vc
namespace Go.Proofs.YtjcmcfidblhnnaaGreatDoor
open Tryz
open Go.Vc Go.Tc
variable {w:O} {K:Y->O->Prop}
theorem aSa {n:Nat} (hn:n<=1000) (hk:∀ v w',w'.ownsRow w.heap.size 3 1 v 0 []->aG w w'->K v w'):aB prog 167 #[bC,i64 n] w K:=by
 apply aYa;unfold QO;refine ⟨λw'=>w'=w,?_,?_⟩
 ·refine aZ.2 (aC (λh=>by omega) λ_=>rfl)
 rintro w3 hw3 _;have hw3:=hw3.symm;subst hw3;refine V.ok (MC underlying23) (V.ok (wA underlying23) (fT.2 ?_));have e0:IntKind.i64.wrap (0 - ((0:Nat):Int))=0:=by decide
 rw [e0];refine fT.2 ?_;rw [aQ (by omega),Int.sub_zero];refine jF.2 (aC (λh=>?_) λh=>?_)
 ·refine V.ok (MC underlying23) ?_;refine V.ok (w':=w) (v:=bC) ?_ ?_
  ·simp [Instr.sliceAt,Instr.slice,run_underlying underlying23,gW bT,Instr.sliceBounds,Instr.sliceBound,asIntOf]
  refine bNs underlying23 underlying3 bT rfl (by omega) (by unfold maxLen;omega) (by omega) λg cap w1 ho1 x1=>?_;refine V.ok (wA underlying23) ?_;refine V.ok (w':=w1) (v:=.slice (some ⟨g,0,none⟩) 0 cap) ?_ (hk _ _ ?_ x1)
  ·simp [Instr.sliceAt,Instr.slice,run_underlying underlying23,gW bT,Instr.sliceBounds,Instr.sliceBound,asIntOf,mA]
  ·have:=GZ (a:=0) ho1 (Nat.zero_le _);simpa using this
 ·exact hk _ _ (World.ownsRow_nil _ _ _ _) (aG.refl _)
theorem aEj {v av bv:Y} {a b:List Int} (hv:aA w v 1 2 [av,bv]) (ha:aO w av a) (hb:aO w bv b) (la:a.length<=100) (lb:b.length<=100) (hk:∀ v w',w'.ownsRow w.heap.size 3 1 v (a++b).length ((a++b).map i64)->aG w w'->K v w') :
  aB prog 114 #[v] w K:=by
 apply bAf;unfold SO;refine gE pG hv ?_;refine ⟨λs v w'=>∃ j:Nat,v=i64 j/\w'=w/\((j=0/\s=i64 ((0:Nat):Int))\/(j=1/\s=i64 (a.length:Int))\/(j=2/\s=i64 ((a.length+b.length:Nat):Int))),λ_ v _=>2 - (RowKit.intOf v).toNat,⟨0,rfl,rfl,.inl ⟨rfl,rfl⟩⟩,?_⟩;rintro s _ w1 ⟨j,rfl,hw1,hj⟩ _;have hw1:=hw1.symm;subst hw1;refine aZ.2 (aC (λhlt=>?_) λhge=>?_)
 ·rcases hj with ⟨rfl,rfl⟩|⟨rfl,rfl⟩|⟨rfl,rfl⟩
  ·refine mH pG bE hv (by omega) (by omega) (u:=av) rfl (gE aP ha (bJ.2 ?_));rw [aQ (by omega)];refine aZ.2 (aC (λh=>by omega) λ_=>bJ.2 ?_);exact ⟨⟨1,rfl,rfl,.inr (.inl ⟨rfl,by simp⟩)⟩,by show (2 - 1:Nat) < 2 - 0;decide⟩
  ·refine mH pG bE hv (by omega) (by omega) (u:=bv) rfl (gE aP hb (bJ.2 ?_));rw [aQ (by omega)];refine aZ.2 (aC (λh=>by omega) λ_=>bJ.2 ?_);exact ⟨⟨2,rfl,rfl,.inr (.inr ⟨rfl,by simp⟩)⟩,by show (2 - 2:Nat) < 2 - 1;decide⟩
  ·omega
 have hs:s=i64 ((a.length+b.length:Nat):Int):=by
  rcases hj with ⟨rfl,rfl⟩|⟨rfl,rfl⟩|⟨rfl,rfl⟩
  iterate 2
   ·exact absurd hge (by simp)
  ·rfl
 subst hs;refine aSa (by omega) λgv w2 ho2 x2=>?_;refine gE pG (hv.ext x2) ?_;refine ⟨λov v w'=>∃ j:Nat,v=i64 j/\aG w w'/\((j=0/\w'.ownsRow w.heap.size 3 1 ov 0 [])\/(j=1/\w'.ownsRow w.heap.size 3 1 ov a.length (a.map i64))\/(j=2/\w'.ownsRow w.heap.size 3 1 ov (a++b).length ((a++b).map i64))),λ_ v _=>2 - (RowKit.intOf v).toNat,⟨0,rfl,x2,.inl ⟨rfl,ho2⟩⟩,?_⟩;rintro ov _ w3 ⟨j,rfl,x3,hj⟩ _;refine aZ.2 (aC (λhlt=>?_) λhge=>?_)
 ·rcases hj with ⟨rfl,ho⟩|⟨rfl,ho⟩|⟨rfl,ho⟩
  ·refine mH pG bE (hv.ext x3) (by omega) (by omega) (u:=av) rfl ?_;refine LD bB ho (ha.ext x3) (OJ _) (by omega) (by unfold maxLen;omega) x3.size λv4 w4 ho4 hg4=>?_;refine bJ.2 ?_;refine ⟨⟨1,rfl,x3.grown hg4 λk hk=>(ho.lt k hk).1,.inr (.inl ⟨rfl,by simpa using ho4⟩)⟩,by show (2 - 1:Nat) < 2 - 0;decide⟩
  ·refine mH pG bE (hv.ext x3) (by omega) (by omega) (u:=bv) rfl ?_;refine LD bB ho (hb.ext x3) (OJ _) (by omega) (by unfold maxLen;omega) x3.size λv4 w4 ho4 hg4=>?_;refine bJ.2 ?_;refine ⟨⟨2,rfl,x3.grown hg4 λk hk=>(ho.lt k hk).1,.inr (.inr ⟨rfl,by simpa using ho4⟩)⟩,by show (2 - 2:Nat) < 2 - 1;decide⟩
  ·omega
 ·rcases hj with ⟨rfl,ho⟩|⟨rfl,ho⟩|⟨rfl,ho⟩
  iterate 2
   ·exact absurd hge (by simp)
  ·exact hk _ _ ho x3
end Go.Proofs.YtjcmcfidblhnnaaGreatDoor
namespace Go.Vc
section
variable {P:Program} {w:O} {K:Y->O->Prop} {S:O->Prop} {L:Y->Prop}
theorem aRp {s f o s2 f2 o2 ft b:Nat} {cs:List Y} {u:Y} (hb:bF w b cs) (h:FA P s f o) (h2:FA P s2 f2 o2) (hl:L1 P ft) (hc:cs[o+o2]?=some u) (hk:K u w) :
  V P (Instr.fieldAt s (.pointer (some ⟨b,0,none⟩)) f) w λq w1=>V P (Instr.fieldAt s2 q f2) w1 λq2 w2=>V P (Instr.loadAt ft q2) w2 K:=by
 obtain ⟨d,hd,ha⟩:=hl;refine V.ok (h.ex w b 0) (V.ok (h2.ex w b _) (V.ok (jN hd ha ?_) hk));have:=hb (o+o2) u hc;simpa [Nat.add_assoc] using this
theorem yF2 {s f o s2 f2 o2 ft b:Nat} {cs:List Y} {u:Y} (hb:∀ w',S w'->bF w' b cs) (h:FA P s f o) (h2:FA P s2 f2 o2) (hl:L1 P ft) (hc:cs[o+o2]?=some u) (hk:L u) :
  aF P S (Instr.fieldAt s (.pointer (some ⟨b,0,none⟩)) f) λq=>aF P S (Instr.fieldAt s2 q f2) λq2=>aF P S (Instr.loadAt ft q2) L:=by
 obtain ⟨d,hd,ha⟩:=hl;refine aF.ok (λw' _=>h.ex w' b 0) (aF.ok (λw' _=>h2.ex w' b _) (aF.ok (λw' hw=>jN hd ha ?_) hk));have:=hb w' hw (o+o2) u hc;simpa [Nat.add_assoc] using this
end
end Go.Vc
namespace Go.Proofs.YtjcmcfidblhnnaaGreatDoor
open Tryz
open Go.Vc Go.Tc
variable {w:O} {K:Y->O->Prop}
variable {w0:O} {i:iA} {m:jR} {tv:Y} {x:lT}
structure uM where
 gb:Nat
 g1:Nat
 g2:Nat
 g3:Nat
 B:Nat
 p:iE
 pv:Y
 lv:Y
 cv:Y
 loc:Y
def uM.row (c:uM) (m:jR):List Y:=[c.pv,i64 m.result,c.lv,c.cv]
def uM.cells (c:uM) (i:iA) (m:jR):List Y:=
 [.string i.name,c.p.fv,c.p.iv,c.p.mv,c.p.xv,c.pv,i64 m.result,c.lv,c.cv,c.loc,.slice (some ⟨c.g1,0,none⟩) m.code.length m.code.length,.slice (some ⟨c.g2,0,none⟩) m.code.length m.code.length,.slice (some ⟨c.g3,0,none⟩) m.code.length m.code.length]
def uM.G (c:uM) (k:Nat):Prop:=k=c.g1\/k=c.g2\/k=c.g3
structure Wk (w0 w:O) (c:uM) (i:iA) (m:jR) (st:St):Prop where
 x:aG w0 w
 lo:w0.heap.size<=c.gb/\w0.heap.size<=c.g1/\w0.heap.size<=c.g2/\w0.heap.size<=c.g3
 ne:c.gb≠c.g1/\c.gb≠c.g2/\c.gb≠c.g3
 box:bO w c.gb (c.cells i m) 166
 img:kF w0 c.p i
 row:mF w0 (c.row m) m
 loc:w.ownsRow w0.heap.size 3 1 c.loc m.locs.length (m.locs.map i64)
 locne:∀ k,c.loc.ownBlock=some k->¬ c.G k
 mem:Mem c.g1 c.g2 c.g3 c.B w m.code.length st
theorem Wk.boxed {w0:O} {c:uM} {i:iA} {m:jR} {st:St} (h:Wk w0 w c i m st):bF w c.gb (c.cells i m):=bO.boxed h.box
theorem Wk.ext {w0 w':O} {c:uM} {i:iA} {m:jR} {st:St} (h:Wk w0 w c i m st) (hx:aG w w'):Wk w0 w' c i m st:=
 ⟨h.x.trans hx,h.lo,h.ne,h.box.ext hx,h.img,h.row,hx.own h.loc,h.locne,h.mem.ext hx⟩
theorem Wk.chg {w':O} {c:uM} {st st':St} (h:Wk w0 w c i m st) (hf:Fr c.G w w') (hm:Mem c.g1 c.g2 c.g3 c.B w' m.code.length st'):Wk w0 w' c i m st':=by
 have hlo:=h.lo;refine ⟨hf.ext h.x λk hk=>?_,h.lo,h.ne,hf.blk h.box ?_,h.img,h.row,hf.own h.loc h.locne,h.locne,hm⟩
 ·rcases hk with rfl|rfl|rfl
  ·exact hlo.2.1
  ·exact hlo.2.2.1
  ·exact hlo.2.2.2
 ·rintro (e|e|e)
  ·exact h.ne.1 e
  ·exact h.ne.2.1 e
  ·exact h.ne.2.2 e
theorem Wk.imgAt {c:uM} {st:St} (h:Wk w0 w c i m st):kF w c.p i:=h.img.ext h.x
theorem Wk.rowAt {c:uM} {st:St} (h:Wk w0 w c i m st):mF w (c.row m) m:=h.row.ext h.x
theorem Wk.locAt {c:uM} {st:St} (h:Wk w0 w c i m st):aO w c.loc m.locs:=aA.of_own h.loc
theorem Wk.codeAt {c:uM} {st:St} (h:Wk w0 w c i m st):oC w c.cv m.code:=by
 obtain ⟨pv,lv,cv,e,_,_,hc⟩:=h.rowAt;simp only [uM.row,List.cons.injEq] at e;obtain ⟨_,_,_,rfl,_⟩:=e;exact hc
def slB (v:Y):Option Nat:=match v with
 | .slice (some a) _ _=>some a.block
 | _=>none
theorem JC {B e sz n:Nat} {v:Y} {xs:List Y} (h:w.ownsRow B e sz v n xs):v.ownBlock=slB v:=by
 rcases h.2 with ⟨rfl,_⟩|⟨g,cap,cur,rfl,_⟩<;>rfl
def aKr (B0 n:Nat) (z:Y) (e:TypeId) (v:Y) (w:O):Prop:=∃ g,v=.slice (some ⟨g,0,none⟩) n n/\bO w g (List.replicate n z) e/\B0<=g
structure aKw (B0:Nat) (p:iE) (row:List Y) (m:jR) (c:uM) (w:O):Prop where
 p:c.p=p
 row:c.row m=row
 loc:w.ownsRow B0 3 1 c.loc m.locs.length (m.locs.map i64)
 r1:bO w c.g1 (List.replicate m.code.length (.slice none 0 0)) 23
 r2:bO w c.g2 (List.replicate m.code.length (.bool false)) 4
 r3:bO w c.g3 (List.replicate m.code.length (.bool false)) 4
 lo:B0<=c.g1/\B0<=c.g2/\B0<=c.g3
 ne:c.g1≠c.g2/\c.g1≠c.g3/\c.g2≠c.g3
 locne:∀ k,c.loc.ownBlock=some k->¬ c.G k
theorem aKw.ext {B0:Nat} {p:iE} {row:List Y} {m:jR} {c:uM} {w w':O} (h:aKw B0 p row m c w) (hx:aG w w'):aKw B0 p row m c w':=
 ⟨h.p,h.row,hx.own h.loc,h.r1.ext hx,h.r2.ext hx,h.r3.ext hx,h.lo,h.ne,h.locne⟩
structure aSx (B0:Nat) (p:iE) (i:iA) (pv lv cv:Y) (m:jR) (q:Nat) (v:Y) (w:O):Prop where
 c6:q=6->aA w v 1 2 [pv,lv]
 c7:q=7->w.ownsRow B0 3 1 v m.locs.length (m.locs.map i64)
 c9:q=9->aKr B0 m.code.length (.slice none 0 0) 23 v w
 c11:q=11\/q=13->aKr B0 m.code.length (.bool false) 4 v w
 c14:q=14->∃ c:uM,v=.agg (c.cells i m).toArray/\aKw B0 p [pv,i64 m.result,lv,cv] m c w
 c15:q=15->∃ c:uM,v=.pointer (some ⟨c.gb,0,none⟩)/\aKw B0 p [pv,i64 m.result,lv,cv] m c w/\bO w c.gb (c.cells i m) 166/\B0<=c.gb/\c.gb≠c.g1/\c.gb≠c.g2/\c.gb≠c.g3
theorem aKr.ext {B0 n:Nat} {z:Y} {e:TypeId} {v:Y} {w w':O} (h:aKr B0 n z e v w) (hx:aG w w'):aKr B0 n z e v w':=by
 obtain ⟨g,h1,h2,h3⟩:=h;exact ⟨g,h1,h2.ext hx,h3⟩
theorem aSx.ext {B0:Nat} {p:iE} {i:iA} {pv lv cv:Y} {m:jR} {q:Nat} {v:Y} {w w':O} (h:aSx B0 p i pv lv cv m q v w) (hx:aG w w'):aSx B0 p i pv lv cv m q v w':=
 ⟨λe=>(h.c6 e).ext hx,λe=>hx.own (h.c7 e),λe=>(h.c9 e).ext hx,λe=>(h.c11 e).ext hx,λe=>by
  obtain ⟨c,h1,h2⟩:=h.c14 e;exact ⟨c,h1,h2.ext hx⟩,λe=>by
  obtain ⟨c,h1,h2,h3,h4⟩:=h.c15 e;exact ⟨c,h1,h2.ext hx,h3.ext hx,h4⟩⟩
theorem HE {p:iE} {k:Nat} (h:kF w p i) (ir:i.right) (hk:k < i.methods.length)
  (hK:∀ (w0:O) (c:uM) w',aG w w0->Wk w0 w' c i (i.meth k) (St.ini (i.meth k).code.length)->aG w w'->K (.pointer (some ⟨c.gb,0,none⟩)) w') :
  aB prog 57 #[p.val i,i64 k] w K:=by
 have hm:=gI (i:=i) (a:=(k:Int)) (by omega) (by omega);rw [Int.toNat_natCast] at hm;have mr:(i.meth k).right:=ir.2.2.1.2.1 _ (List.mem_of_getElem? hm);generalize i.meth k=m at hm mr hK;have hn1:=mr.2.2.2.1.1;have hn2:=mr.2.2.2.1.2;have lp:=mr.1.2;have ll:=mr.2.2.1.2;apply bIf;unfold aAq iE.val;refine bx λb1 w1 hb1 x1=>?_;refine aV hb1 bP dN rfl ?_;refine XL iF nW (h.ext x1).mt hm pX λrow hrow=>?_;have hrow0:=hrow;obtain ⟨pv,lv,cv,rfl,hp,hl,hc⟩:=hrow;obtain ⟨pa,pc,rfl⟩:=hp.shape;obtain ⟨la,lc,rfl⟩:=hl.shape;obtain ⟨ca,cc,rfl⟩:=aA.shape hc;refine sG DB rfl rfl λb2 w2 hb2 x2=>?_;have hb2:bF w2 b2 [.slice pa m.params.length pc,i64 m.result,.slice la m.locals.length lc,.slice ca m.code.length cc]:=hb2;refine aV hb2 cC hU rfl (gE kQ (hc.ext x2) ?_);have D1:aG w2 w2.drew:=(aG.refl _).drew;refine aL.mk' (λw'=>aG w2 w') D1 ?_;have hb1:=hb1.ext x2;refine yA (λw' hw=>hb1.ext hw) kJ rfl ?_;refine yA (λw' hw=>hb2.ext hw) nW rfl ?_;refine iB (λw' hw=>hb2.ext hw) dM bE rfl ?_;refine iB (λw' hw=>hb2.ext hw) lB bE rfl ?_;have hpd:=(hp.ext x2).ext D1;have hld:=(hl.ext x2).ext D1;generalize hwd:w2.drew=w3 at D1 hpd hld;have hmade:∀ {w'},aG w3 w'->aG w w':=λhx=>((x1.trans x2).trans D1).trans hx;refine ⟨aSx w3.heap.size p i (.slice pa m.params.length pc) (.slice la m.locals.length lc) (.slice ca m.code.length cc) m,λ_ v=>slB v,⟨λ_ _ _ _ hq hg=>hq.ext hg,λw1 hg=>D1.trans hg⟩,?_,?_,?_,?_,?_,?_,?_,?_⟩
 ·intro w4 hg _ _;refine jG bKm [.slice pa m.params.length pc,.slice la m.locals.length lc] rfl rfl (by simp) rfl λv w5 ho x5=>⟨x5,⟨λ_=>aA.of_own ho,λe=>absurd e (by decide),λe=>absurd e (by decide),λe=>absurd e (by decide),λe=>absurd e (by decide),λe=>absurd e (by decide)⟩,λg hg'=>?_⟩;have hg':slB v=some g:=hg';rw [<- JC ho] at hg';exact ho.lt g hg'
 ·intro v w4 hg hq _ _;have hx:aG w3 w4:=hg;refine aEj (hq.c6 rfl) (hpd.ext hx) (hld.ext hx) (by omega) (by omega) λv5 w5 ho x5=>⟨x5,⟨λe=>absurd e (by decide),λ_=>aU ho hx.size,λe=>absurd e (by decide),λe=>absurd e (by decide),λe=>absurd e (by decide),λe=>absurd e (by decide)⟩,λg hg'=>?_⟩;have hg':slB v5=some g:=hg';rw [<- JC ho] at hg';exact ho.lt g hg'
 ·intro w4 hg _ _;have hx:aG w3 w4:=hg;refine mkB underlying92 mR rfl (by omega) (by omega) λw5 hB x5 z5=>⟨x5,⟨λe=>absurd e (by decide),λe=>absurd e (by decide),λ_=>⟨_,rfl,hB,hx.size⟩,λe=>absurd e (by decide),λe=>absurd e (by decide),λe=>absurd e (by decide)⟩,λg hg'=>?_⟩;have:w4.heap.size=g:=by simpa [slB] using hg'
  subst this;exact ⟨Nat.le_refl _,hB.lt⟩
 iterate 2
  ·intro w4 hg _ _;have hx:aG w3 w4:=hg;refine mkB underlying95 lE rfl (by omega) (by omega) λw5 hB x5 z5=>⟨x5,⟨λe=>absurd e (by decide),λe=>absurd e (by decide),λe=>absurd e (by decide),λ_=>⟨_,rfl,hB,hx.size⟩,λe=>absurd e (by decide),λe=>absurd e (by decide)⟩,λg hg'=>?_⟩;have:w4.heap.size=g:=by simpa [slB] using hg'
   subst this;exact ⟨Nat.le_refl _,hB.lt⟩
 ·intro v7 v9 v11 v13 w4 hg q7 q9 q11 q13 hA _;obtain ⟨s1,rfl,r1,l1⟩:=q9.c9 rfl;obtain ⟨s2,rfl,r2,l2⟩:=q11.c11 (.inl rfl);obtain ⟨s3,rfl,r3,l3⟩:=q13.c11 (.inr rfl);have ho7:=q7.c7 rfl;obtain ⟨za,zc,rfl⟩:=(aA.of_own ho7).shape;refine V.ok (v:=.agg #[.string i.name,p.fv,p.iv,p.mv,p.xv,.slice pa m.params.length pc,i64 m.result,.slice la m.locals.length lc,.slice ca m.code.length cc,.slice za m.locs.length zc,.slice (some ⟨s1,0,none⟩) m.code.length m.code.length,.slice (some ⟨s2,0,none⟩) m.code.length m.code.length,.slice (some ⟨s3,0,none⟩) m.code.length m.code.length]) (w':=w4) ?_ ⟨bBw _,⟨λe=>absurd e (by decide),λe=>absurd e (by decide),λe=>absurd e (by decide),λe=>absurd e (by decide),λ_=>⟨⟨0,s1,s2,s3,0,p,.slice pa m.params.length pc,.slice la m.locals.length lc,.slice ca m.code.length cc,.slice za m.locs.length zc⟩,rfl,rfl,rfl,ho7,r1,r2,r3,⟨l1,l2,l3⟩,⟨?_,?_,?_⟩,λk hk=>?_⟩,λe=>absurd e (by decide)⟩,λg hg'=>by simp [slB] at hg'⟩
  ·kernel_rfl
  ·exact λ(e:s1=s2)=>hA _ (.tail _ (.head _)) _ (.tail _ (.tail _ (.head _))) (show (9:Nat)≠11 by decide) s1 rfl (by rw [e];rfl)
  ·exact λ(e:s1=s3)=>hA _ (.tail _ (.head _)) _ (.tail _ (.tail _ (.tail _ (.head _)))) (show (9:Nat)≠13 by decide) s1 rfl (by rw [e];rfl)
  ·exact λ(e:s2=s3)=>hA _ (.tail _ (.tail _ (.head _))) _ (.tail _ (.tail _ (.tail _ (.head _)))) (show (11:Nat)≠13 by decide) s2 rfl (by rw [e];rfl)
  ·have hk:=(JC ho7).symm.trans hk;rintro (e|e|e)
   ·have e:k=s1:=e;subst e;exact hA _ (List.Mem.head _) _ (.tail _ (.head _)) (show (7:Nat)≠9 by decide) _ hk rfl
   ·have e:k=s2:=e;subst e;exact hA _ (List.Mem.head _) _ (.tail _ (.tail _ (.head _))) (show (7:Nat)≠11 by decide) _ hk rfl
   ·have e:k=s3:=e;subst e;exact hA _ (List.Mem.head _) _ (.tail _ (.tail _ (.tail _ (.head _)))) (show (7:Nat)≠13 by decide) _ hk rfl
 ·intro v14 w4 hg q14 _ _;have hx:aG w3 w4:=hg;obtain ⟨c,rfl,hc⟩:=q14.c14 rfl;have a1:=hc.r1.lt;have a2:=hc.r2.lt;have a3:=hc.r3.lt;refine bxK λw5 hB x5=>⟨x5,⟨λe=>absurd e (by decide),λe=>absurd e (by decide),λe=>absurd e (by decide),λe=>absurd e (by decide),λe=>absurd e (by decide),λ_=>⟨{ c with gb:=w4.heap.size },rfl,?_,?_,hx.size,?_,?_,?_⟩⟩,λg hg'=>by simp [slB] at hg'⟩
  ·have:=hc.ext x5;exact ⟨this.p,this.row,this.loc,this.r1,this.r2,this.r3,this.lo,this.ne,this.locne⟩
  ·exact hB
  iterate 3
   ·exact λe=>by simp only at e;omega
 ·intro v6 v7 v9 v11 v13 v14 v15 w4 hg _ _ _ _ _ _ q15 _ _;have hx:aG w3 w4:=hg;obtain ⟨c,rfl,hc',hB,hlo,n1,n2,n3⟩:=q15.c15 rfl;have a1:=hc'.r1.lt;have a2:=hc'.r2.lt;have a3:=hc'.r3.lt;have hp':=hc'.p;have hr':=hc'.row;refine hK w3 { c with B:=w4.heap.size } w4 (hmade (aG.refl _)) ⟨hx,⟨hlo,hc'.lo⟩,⟨n1,n2,n3⟩,hB,?_,?_,hc'.loc,hc'.locne,⟨⟨_,by simp,hc'.r1,λq hq=>⟨.slice none 0 0,by simp [hq],?_⟩⟩,?_,?_,by simp [St.ini],by simp [St.ini],by simp [St.ini],hc'.ne,a1,a2,a3,Nat.le_refl _⟩⟩ (hmade hx)
  ·show kF w3 c.p i;rw [hp'];exact h.ext (hmade (aG.refl _))
  ·show mF w3 (c.row m) m;rw [hr'];exact hrow0.ext (x2.trans D1)
  ·have:(St.ini m.code.length).s q=[]:=by simp [St.ini,St.s,List.getD_eq_getElem?_getD,hq]
   rw [this];exact World.ownsRow_nil _ _ _ _
  ·have:(St.ini m.code.length).has.map Value.bool=List.replicate m.code.length (.bool false):=by simp [St.ini]
   rw [this];exact hc'.r2
  ·have:(St.ini m.code.length).todo.map Value.bool=List.replicate m.code.length (.bool false):=by simp [St.ini]
   rw [this];exact hc'.r3
structure WR (w:O) (c:uM) (i:iA) (m:jR):Prop where
 box:bF w c.gb (c.cells i m)
 img:kF w c.p i
 row:mF w (c.row m) m
 loc:aO w c.loc m.locs
theorem WR.ext {w':O} {c:uM} {i:iA} {m:jR} (h:WR w c i m) (hx:aG w w'):WR w' c i m:=⟨h.box.ext hx,h.img.ext hx,h.row.ext hx,h.loc.ext hx⟩
theorem Wk.wr {c:uM} {st:St} (h:Wk w0 w c i m st):WR w c i m:=⟨h.boxed,h.imgAt,h.rowAt,h.locAt⟩
theorem WR.code {c:uM} {i:iA} {m:jR} (h:WR w c i m):oC w c.cv m.code:=by
 obtain ⟨pv,lv,cv,e,_,_,hc⟩:=h.row;simp only [uM.row,List.cons.injEq] at e;obtain ⟨_,_,_,rfl,_⟩:=e;exact hc
theorem gA {v:Y} (h:K v w):aB prog 202 #[v] w K:=by
 apply aWq;unfold PI;exact h
theorem AA {r:Int} (hk:∀ v w',aO w' v (mC r)->aG w w'->K v w'):aB prog 203 #[i64 r] w K:=by
 apply aWp;unfold PH;refine aJ.2 (aC (λh=>?_) λh=>?_)
 ·refine hk _ _ ?_ (aG.refl _);rw [mC,if_pos h];exact aA.nil _ _
 ·refine jG bB [i64 r] rfl rfl (by simp) rfl λv w1 ho x1=>gA (hk _ _ ?_ x1);rw [mC,if_neg h];exact aA.of_own ho
theorem aQx {l:List Int} (ht:aO w tv l) (hl:3<=l.length) (hk:∀ w',aG w w'->K (i64 (BB l)) w'):aB prog 209 #[tv] w K:=by
 apply aWj;unfold PB;unfold BB at hk;refine mH aP aE ht (by omega) (by omega) (cM (j:=1) (lQ (by omega))) (tD ?_);cases hz:fZ (cN l 1) with
 | true=>
  rw [hz] at hk;refine bH.2 ?_;exact mH aP aE ht (by omega) (by omega) (cM (j:=1) (lQ (by omega))) (hk _ (aG.refl _))
 | false=>
  rw [hz] at hk;refine aM.2 ?_;have D1:aG w w.drew:=(aG.refl _).drew;refine aL.mk' (λw'=>aG w w') D1 ?_;refine nT aP aE ht (λ_ h=>h) (by omega) (by omega) (cM (j:=0) (lQ (by omega))) ?_;refine nT aP aE ht (λ_ h=>h) (by omega) (by omega) (cM (j:=1) (lQ (by omega))) ?_;refine nT aP aE ht (λ_ h=>h) (by omega) (by omega) (cM (j:=2) (lQ (by omega))) ?_;exact zJ ⟨D1,zJ ⟨D1,hk _ D1⟩⟩
theorem zM (h:xR i m x):(aY i m x).length<=5:=by
 obtain ⟨op,a,b⟩:=x;obtain ⟨ir,mr,⟨ho,a1,a2,_⟩,hn⟩:=h;by_cases c1:op=37
 ·subst c1;have:((i.meth a).params.length:Int)<=4:=(ir.2.2.1.2.1 _ (iA.meth_mem a1 hn)).1.2;have e:aY i m ⟨37,a,b⟩=(i.meth a).params:=rfl;rw [e];omega
 by_cases c2:op=38
 ·subst c2;have:((i.imp a).params.length:Int)<=4:=(ir.2.1.2 _ (iA.imp_mem a1 hn)).2.1.2;have e:aY i m ⟨38,a,b⟩=(i.imp a).params:=rfl;rw [e];omega
 by_cases c3:op=39
 ·subst c3;have e:aY i m ⟨39,a,b⟩=mC m.result:=rfl;rw [e];have:=DL m.result;omega
 have ho:1<=op/\op<=39:=ho;rcases AD ho with rfl|rfl|rfl|rfl|rfl|rfl|rfl|rfl|rfl|rfl|rfl|rfl|rfl|rfl|rfl|rfl|rfl|rfl|rfl|rfl|rfl|rfl|rfl|rfl|rfl|rfl|rfl|rfl|rfl|rfl|rfl|rfl|rfl|rfl|rfl|rfl|rfl|rfl|rfl<;>first|contradiction|(simp [aY,kU];done)
theorem aHn {c:uM} (h:WR w c i m) (hx:x.right) :
  aB prog 115 #[.pointer (some ⟨c.gb,0,none⟩),.agg #[i64 x.op,i64 x.a,i64 x.b]] w (cY (fL i m x) w):=by
 obtain ⟨op,a,b⟩:=x;obtain ⟨ho,a1,a2,_⟩:=hx;apply bAe;suffices key:∀ R:Y->O->Prop,(∀ v w',cY (fL i m ⟨op,a,b⟩) w v w'->R v w')->FQ (.pointer (some ⟨c.gb,0,none⟩)) (.agg #[i64 op,i64 a,i64 b]) w R from key _ λ_ _ h=>h;intro R hR;unfold FQ;refine bx λb3 w3 hb3 x3=>?_;have h':=h.ext x3;have D1:aG w3 w3.drew:=(aG.refl _).drew;have xd:=x3.trans D1;obtain ⟨mcs,hms⟩:=h'.img.mt.sl;obtain ⟨ics,hims⟩:=h'.img.im.sl;refine aV hb3 aS aE rfl ?_;by_cases c1:op=2\/op=3
 ·have hs:fL i m ⟨op,a,b⟩↔a < (m.locs.length:Int):=by unfold fL;dsimp only;rw [if_pos c1]
  rcases c1 with rfl|rfl
  all_goals
   simp only [aR,Int.reduceEq];refine aL.mk' (λw'=>aG w3 w') D1 ?_;refine iB (λw' hw=>hb3.ext hw) (by first|exact cX|exact cW|exact cA|exact cV|exact cK|exact cJ|exact bZ|exact cU|exact cT|exact cS|exact cI|exact cH|exact cG|exact bW|exact cR|exact bV|exact dG|exact cQ|exact cP|exact dF|exact dE|exact dL|exact dK|exact dJ|exact dD|exact dI|exact dT|exact dS|exact eC|exact eQ|exact eB|exact dR|exact fB|exact eO|exact fA|exact bU|exact eA|exact dZ|exact dY|exact eN|exact dQ|exact bY|exact cF|exact eZ|exact eM|exact cE|exact dX|exact fH|exact dW|exact fS|exact eY|exact bG|exact eX|exact cD|exact eJ|exact eW|exact fR|exact dC|exact fQ|exact gM|exact gD|exact iK|exact jE|exact dV|exact gK|exact jD|exact iJ|exact jC|exact jB|exact jA|exact iZ|exact iI|exact bQ|exact gC|exact gJ|exact eI|exact eG|exact kL|exact kK|exact lN|exact jT|exact fP|exact bP|exact kP|exact lM|exact gT|exact eR|exact dM|exact gG|exact lB|exact cC|exact lL|exact oA|exact rG|exact qG|exact qF|exact qE|exact qD|exact qC|exact qB|exact rF|exact oY|exact oX|exact mK|exact nZ|exact qA|exact mJ|exact mV|exact mU|exact mI|exact rE|exact nL|exact mT|exact rD|exact aS|exact aX) (by first|exact iD|exact iY|exact iN|exact iX|exact kT|exact iW|exact kZ|exact iV|exact iU|exact bE|exact jP|exact iT|exact dN|exact aE) rfl ⟨.inl ⟨_,rfl⟩,?_⟩
   refine iB (λw' hw=>h'.box.ext hw) (by first|exact cX|exact cW|exact cA|exact cV|exact cK|exact cJ|exact bZ|exact cU|exact cT|exact cS|exact cI|exact cH|exact cG|exact bW|exact cR|exact bV|exact dG|exact cQ|exact cP|exact dF|exact dE|exact dL|exact dK|exact dJ|exact dD|exact dI|exact dT|exact dS|exact eC|exact eQ|exact eB|exact dR|exact fB|exact eO|exact fA|exact bU|exact eA|exact dZ|exact dY|exact eN|exact dQ|exact bY|exact cF|exact eZ|exact eM|exact cE|exact dX|exact fH) (by first|exact iD|exact iY|exact iN|exact iX|exact kT|exact iW|exact kZ|exact iV|exact iU|exact bE) rfl (sZ aP h'.loc (aCj ?_));exact hR _ _ ⟨_,rfl,decide_eq_true_iff.trans hs.symm,xd⟩
 by_cases c2:op=33\/op=34
 ·have hs:fL i m ⟨op,a,b⟩↔a < (i.fields.length:Int):=by unfold fL;dsimp only;rw [if_neg c1,if_pos c2]
  rcases c2 with rfl|rfl
  all_goals
   simp only [aR,Int.reduceEq];refine aL.mk' (λw'=>aG w3 w') D1 ?_;refine iB (λw' hw=>hb3.ext hw) (by first|exact cX|exact cW|exact cA|exact cV|exact cK|exact cJ|exact bZ|exact cU|exact cT|exact cS|exact cI|exact cH|exact cG|exact bW|exact cR|exact bV|exact dG|exact cQ|exact cP|exact dF|exact dE|exact dL|exact dK|exact dJ|exact dD|exact dI|exact dT|exact dS|exact eC|exact eQ|exact eB|exact dR|exact fB|exact eO|exact fA|exact bU|exact eA|exact dZ|exact dY|exact eN|exact dQ|exact bY|exact cF|exact eZ|exact eM|exact cE|exact dX|exact fH|exact dW|exact fS|exact eY|exact bG|exact eX|exact cD|exact eJ|exact eW|exact fR|exact dC|exact fQ|exact gM|exact gD|exact iK|exact jE|exact dV|exact gK|exact jD|exact iJ|exact jC|exact jB|exact jA|exact iZ|exact iI|exact bQ|exact gC|exact gJ|exact eI|exact eG|exact kL|exact kK|exact lN|exact jT|exact fP|exact bP|exact kP|exact lM|exact gT|exact eR|exact dM|exact gG|exact lB|exact cC|exact lL|exact oA|exact rG|exact qG|exact qF|exact qE|exact qD|exact qC|exact qB|exact rF|exact oY|exact oX|exact mK|exact nZ|exact qA|exact mJ|exact mV|exact mU|exact mI|exact rE|exact nL|exact mT|exact rD|exact aS|exact aX) (by first|exact iD|exact iY|exact iN|exact iX|exact kT|exact iW|exact kZ|exact iV|exact iU|exact bE|exact jP|exact iT|exact dN|exact aE) rfl ⟨.inl ⟨_,rfl⟩,?_⟩
   refine yF2 (λw' hw=>h'.box.ext hw) (by first|exact cX|exact cW|exact cA|exact cV|exact cK|exact cJ|exact bZ|exact cU|exact cT|exact cS|exact cI|exact cH|exact cG|exact bW|exact cR|exact bV|exact dG|exact cQ|exact cP|exact dF|exact dE|exact dL|exact dK|exact dJ|exact dD|exact dI|exact dT|exact dS|exact eC|exact eQ|exact eB|exact dR|exact fB|exact eO|exact fA|exact bU|exact eA|exact dZ|exact dY|exact eN|exact dQ|exact bY|exact cF|exact eZ|exact eM|exact cE) (by first|exact cX|exact cW|exact cA|exact cV|exact cK|exact cJ|exact bZ|exact cU|exact cT|exact cS|exact cI|exact cH|exact cG|exact bW|exact cR|exact bV|exact dG|exact cQ|exact cP|exact dF|exact dE|exact dL|exact dK|exact dJ|exact dD|exact dI|exact dT|exact dS|exact eC|exact eQ|exact eB|exact dR|exact fB|exact eO|exact fA|exact bU|exact eA|exact dZ|exact dY|exact eN|exact dQ|exact bY|exact cF|exact eZ|exact eM|exact cE|exact dX|exact fH|exact dW|exact fS|exact eY|exact bG|exact eX|exact cD|exact eJ|exact eW|exact fR|exact dC|exact fQ|exact gM|exact gD|exact iK|exact jE|exact dV|exact gK|exact jD|exact iJ|exact jC|exact jB|exact jA|exact iZ|exact iI|exact bQ|exact gC|exact gJ|exact eI|exact eG|exact kL|exact kK|exact lN|exact jT) (by first|exact iD|exact iY|exact iN|exact iX|exact kT|exact iW|exact kZ|exact iV|exact iU|exact bE) rfl (sZ aP h'.img.fl (aCj ?_));exact hR _ _ ⟨_,rfl,decide_eq_true_iff.trans hs.symm,xd⟩
 by_cases c3:op=37
 ·have hs:fL i m ⟨op,a,b⟩↔a < (i.methods.length:Int):=by unfold fL;dsimp only;rw [if_neg c1,if_neg c2,if_pos c3]
  subst c3;simp only [aR,Int.reduceEq];refine aL.mk' (λw'=>aG w3 w') D1 ?_;refine iB (λw' hw=>hb3.ext hw) aX aE rfl ⟨.inl ⟨_,rfl⟩,?_⟩;refine yF2 (λw' hw=>h'.box.ext hw) cE bP dN rfl (sZ iF hms (aCj ?_));exact hR _ _ ⟨_,rfl,decide_eq_true_iff.trans hs.symm,xd⟩
 by_cases c4:op=38
 ·have hs:fL i m ⟨op,a,b⟩↔a < (i.imports.length:Int):=by unfold fL;dsimp only;rw [if_neg c1,if_neg c2,if_neg c3,if_pos c4]
  subst c4;simp only [aR,Int.reduceEq];refine aL.mk' (λw'=>aG w3 w') D1 ?_;refine iB (λw' hw=>hb3.ext hw) aX aE rfl ⟨.inl ⟨_,rfl⟩,?_⟩;refine yF2 (λw' hw=>h'.box.ext hw) cE fP iT rfl (sZ oD hims (aCj ?_));exact hR _ _ ⟨_,rfl,decide_eq_true_iff.trans hs.symm,xd⟩
 by_cases c5:op=23\/op=24
 ·have hs:fL i m ⟨op,a,b⟩↔a < (m.code.length:Int):=by unfold fL;dsimp only;rw [if_neg c1,if_neg c2,if_neg c3,if_neg c4,if_pos c5]
  rcases c5 with rfl|rfl
  all_goals
   simp only [aR,Int.reduceEq];refine aL.mk' (λw'=>aG w3 w') D1 ?_;refine iB (λw' hw=>hb3.ext hw) (by first|exact cX|exact cW|exact cA|exact cV|exact cK|exact cJ|exact bZ|exact cU|exact cT|exact cS|exact cI|exact cH|exact cG|exact bW|exact cR|exact bV|exact dG|exact cQ|exact cP|exact dF|exact dE|exact dL|exact dK|exact dJ|exact dD|exact dI|exact dT|exact dS|exact eC|exact eQ|exact eB|exact dR|exact fB|exact eO|exact fA|exact bU|exact eA|exact dZ|exact dY|exact eN|exact dQ|exact bY|exact cF|exact eZ|exact eM|exact cE|exact dX|exact fH|exact dW|exact fS|exact eY|exact bG|exact eX|exact cD|exact eJ|exact eW|exact fR|exact dC|exact fQ|exact gM|exact gD|exact iK|exact jE|exact dV|exact gK|exact jD|exact iJ|exact jC|exact jB|exact jA|exact iZ|exact iI|exact bQ|exact gC|exact gJ|exact eI|exact eG|exact kL|exact kK|exact lN|exact jT|exact fP|exact bP|exact kP|exact lM|exact gT|exact eR|exact dM|exact gG|exact lB|exact cC|exact lL|exact oA|exact rG|exact qG|exact qF|exact qE|exact qD|exact qC|exact qB|exact rF|exact oY|exact oX|exact mK|exact nZ|exact qA|exact mJ|exact mV|exact mU|exact mI|exact rE|exact nL|exact mT|exact rD|exact aS|exact aX) (by first|exact iD|exact iY|exact iN|exact iX|exact kT|exact iW|exact kZ|exact iV|exact iU|exact bE|exact jP|exact iT|exact dN|exact aE) rfl ⟨.inl ⟨_,rfl⟩,?_⟩
   refine yF2 (λw' hw=>h'.box.ext hw) (by first|exact cX|exact cW|exact cA|exact cV|exact cK|exact cJ|exact bZ|exact cU|exact cT|exact cS|exact cI|exact cH|exact cG|exact bW|exact cR|exact bV|exact dG|exact cQ|exact cP|exact dF|exact dE|exact dL|exact dK|exact dJ|exact dD|exact dI|exact dT|exact dS|exact eC|exact eQ|exact eB|exact dR|exact fB|exact eO|exact fA|exact bU|exact eA|exact dZ|exact dY|exact eN|exact dQ|exact bY|exact cF|exact eZ|exact eM|exact cE|exact dX) (by first|exact cX|exact cW|exact cA|exact cV|exact cK|exact cJ|exact bZ|exact cU|exact cT|exact cS|exact cI|exact cH|exact cG|exact bW|exact cR|exact bV|exact dG|exact cQ|exact cP|exact dF|exact dE|exact dL|exact dK|exact dJ|exact dD|exact dI|exact dT|exact dS|exact eC|exact eQ|exact eB|exact dR|exact fB|exact eO|exact fA|exact bU|exact eA|exact dZ|exact dY|exact eN|exact dQ|exact bY|exact cF|exact eZ|exact eM|exact cE|exact dX|exact fH|exact dW|exact fS|exact eY|exact bG|exact eX|exact cD|exact eJ|exact eW|exact fR|exact dC|exact fQ|exact gM|exact gD|exact iK|exact jE|exact dV|exact gK|exact jD|exact iJ|exact jC|exact jB|exact jA|exact iZ|exact iI|exact bQ|exact gC|exact gJ|exact eI|exact eG|exact kL|exact kK|exact lN|exact jT|exact fP|exact bP|exact kP|exact lM|exact gT|exact eR|exact dM|exact gG|exact lB|exact cC) (by first|exact iD|exact iY|exact iN|exact iX|exact kT|exact iW|exact kZ|exact iV|exact iU|exact bE|exact jP|exact iT|exact dN|exact aE|exact kY|exact hU) rfl (sZ kQ h'.code (aCj ?_));exact hR _ _ ⟨_,rfl,decide_eq_true_iff.trans hs.symm,xd⟩
 ·have hs:fL i m ⟨op,a,b⟩:=by unfold fL;dsimp only;rw [if_neg c1,if_neg c2,if_neg c3,if_neg c4,if_neg c5];trivial
  simp only [not_or] at c1 c2 c5;simp only [c1.1,c1.2,c2.1,c2.2,c3,c4,c5.1,c5.2,aR];exact hR _ _ (cY.yes hs x3)
theorem CY {c:uM} (h:WR w c i m) (hx:xR i m x) (hk:∀ v w',aO w' v (aY i m x)->aG w w'->K v w') :
  aB prog 170 #[.pointer (some ⟨c.gb,0,none⟩),.agg #[i64 x.op,i64 x.a,i64 x.b]] w K:=by
 obtain ⟨op,a,b⟩:=x;obtain ⟨ir,mr,⟨ho,a1,a2,_⟩,hn⟩:=hx;apply aXw;unfold QK;refine bx λb3 w3 hb3 x3=>?_;have h':=h.ext x3;refine aV hb3 aS aE rfl ?_;rcases AD ho with rfl|rfl|rfl|rfl|rfl|rfl|rfl|rfl|rfl|rfl|rfl|rfl|rfl|rfl|rfl|rfl|rfl|rfl|rfl|rfl|rfl|rfl|rfl|rfl|rfl|rfl|rfl|rfl|rfl|rfl|rfl|rfl|rfl|rfl|rfl|rfl|rfl|rfl|rfl<;>simp only [aR,Int.reduceEq,Int.reduceNeg]
 iterate 2
  ·exact hk _ _ (aA.nil _ _) x3
 ·have a1:0<=a:=a1;obtain ⟨k,rfl⟩:∃ k:Nat,a=k:=⟨a.toNat,by omega⟩;have ha:(k:Int) < (m.locs.length:Int):=hn;have D1:aG w3 w3.drew:=(aG.refl _).drew;refine aL.mk' (λw'=>aG w3 w') D1 ⟨.inl ⟨_,rfl⟩,?_⟩;refine iB (λw' hw=>h'.box.ext hw) fH bE rfl ?_;refine iB (λw' hw=>hb3.ext hw) aX aE rfl ?_;refine nT aP aE h'.loc (λ_ h=>h) (by omega) (by omega) (cM (fO (by omega))) ?_;refine jG bB [i64 (m.locs.getD k 0)] rfl rfl (by simp) rfl λv w4 ho x4=>⟨D1.trans x4,gA ⟨D1.trans x4,hk _ _ (aA.of_own ho) ((x3.trans D1).trans x4)⟩⟩
 iterate 2
  ·refine jG bB [i64 (-1)] rfl rfl (by simp) rfl λv w4 ho x4=>gA (hk _ _ (aA.of_own ho) (x3.trans x4))
 iterate 9
  ·refine jG bB [i64 (-2),i64 (-2)] rfl rfl (by simp) rfl λv w4 ho x4=>gA (hk _ _ (aA.of_own ho) (x3.trans x4))
 iterate 2
  ·refine jG bB [i64 (-2)] rfl rfl (by simp) rfl λv w4 ho x4=>gA (hk _ _ (aA.of_own ho) (x3.trans x4))
 iterate 2
  ·refine jG bB [i64 (-3),i64 (-3)] rfl rfl (by simp) rfl λv w4 ho x4=>gA (hk _ _ (aA.of_own ho) (x3.trans x4))
 iterate 3
  ·refine jG bB [i64 (-2),i64 (-2)] rfl rfl (by simp) rfl λv w4 ho x4=>gA (hk _ _ (aA.of_own ho) (x3.trans x4))
 ·refine jG bB [i64 (-2),i64 (-1),i64 (-1)] rfl rfl (by simp) rfl λv w4 ho x4=>gA (hk _ _ (aA.of_own ho) (x3.trans x4))
 ·exact hk _ _ (aA.nil _ _) x3
 ·refine jG bB [i64 (-3)] rfl rfl (by simp) rfl λv w4 ho x4=>gA (hk _ _ (aA.of_own ho) (x3.trans x4))
 ·exact hk _ _ (aA.nil _ _) x3
 ·refine jG bB [i64 (-4)] rfl rfl (by simp) rfl λv w4 ho x4=>gA (hk _ _ (aA.of_own ho) (x3.trans x4))
 ·refine jG bB [i64 (-3)] rfl rfl (by simp) rfl λv w4 ho x4=>gA (hk _ _ (aA.of_own ho) (x3.trans x4))
 ·refine jG bB [i64 (-4)] rfl rfl (by simp) rfl λv w4 ho x4=>gA (hk _ _ (aA.of_own ho) (x3.trans x4))
 ·refine jG bB [i64 (-4),i64 (-3)] rfl rfl (by simp) rfl λv w4 ho x4=>gA (hk _ _ (aA.of_own ho) (x3.trans x4))
 ·refine jG bB [i64 (-4),i64 (-3),i64 (-2)] rfl rfl (by simp) rfl λv w4 ho x4=>gA (hk _ _ (aA.of_own ho) (x3.trans x4))
 iterate 2
  ·refine jG bB [i64 (-4),i64 (-3),i64 (-4),i64 (-3),i64 (-3)] rfl rfl (by simp) rfl λv w4 ho x4=>gA (hk _ _ (aA.of_own ho) (x3.trans x4))
 ·exact hk _ _ (aA.nil _ _) x3
 ·have a1:0<=a:=a1;obtain ⟨k,rfl⟩:∃ k:Nat,a=k:=⟨a.toNat,by omega⟩;have ha:(k:Int) < (i.fields.length:Int):=hn;have D1:aG w3 w3.drew:=(aG.refl _).drew;refine aL.mk' (λw'=>aG w3 w') D1 ⟨.inl ⟨_,rfl⟩,?_⟩;refine yF2 (λw' hw=>h'.box.ext hw) cE jT bE rfl ?_;refine iB (λw' hw=>hb3.ext hw) aX aE rfl ?_;refine nT aP aE h'.img.fl (λ_ h=>h) (by omega) (by omega) (cM (fO (by omega))) ?_;refine jG bB [i64 (i.fields.getD k 0)] rfl rfl (by simp) rfl λv w4 ho x4=>⟨D1.trans x4,gA ⟨D1.trans x4,hk _ _ (aA.of_own ho) ((x3.trans D1).trans x4)⟩⟩
 ·exact hk _ _ (aA.nil _ _) x3
 ·refine jG bB [i64 (-4),i64 (-3),i64 (-3)] rfl rfl (by simp) rfl λv w4 ho x4=>gA (hk _ _ (aA.of_own ho) (x3.trans x4))
 ·have a1:0<=a:=a1;obtain ⟨k,rfl⟩:∃ k:Nat,a=k:=⟨a.toNat,by omega⟩;have ha:(k:Int) < (i.methods.length:Int):=hn;have D1:aG w3 w3.drew:=(aG.refl _).drew;refine aL.mk' (λw'=>aG w3 w') D1 ⟨.inl ⟨_,rfl⟩,?_⟩;refine yF2 (λw' hw=>h'.box.ext hw) cE bP dN rfl ?_;refine iB (λw' hw=>hb3.ext hw) aX aE rfl ?_;have hmi:=gI a1 hn;simp only [Int.toNat_natCast] at hmi;refine ySF iF dM bE h'.img.mt (λ_ h=>h) hmi λrow hrow=>?_;obtain ⟨pv9,lv9,cv9,rfl,hp9,_,_⟩:=hrow;exact ⟨pv9,rfl,by decide,hk _ _ (hp9.ext D1) (x3.trans D1)⟩
 ·have a1:0<=a:=a1;obtain ⟨k,rfl⟩:∃ k:Nat,a=k:=⟨a.toNat,by omega⟩;have ha:(k:Int) < (i.imports.length:Int):=hn;have D1:aG w3 w3.drew:=(aG.refl _).drew;refine aL.mk' (λw'=>aG w3 w') D1 ⟨.inl ⟨_,rfl⟩,?_⟩;refine yF2 (λw' hw=>h'.box.ext hw) cE fP iT rfl ?_;refine iB (λw' hw=>hb3.ext hw) aX aE rfl ?_;have hmi:=tY a1 hn;simp only [Int.toNat_natCast] at hmi;refine ySF oD bY bE h'.img.im (λ_ h=>h) hmi λrow hrow=>?_;obtain ⟨pv9,rfl,hp9⟩:=hrow;exact ⟨pv9,rfl,by decide,hk _ _ (hp9.ext D1) (x3.trans D1)⟩
 ·refine ⟨.inl ⟨_,rfl⟩,?_⟩;refine aRp h'.box dX gG aE rfl ?_;exact AA λv w4 hv x4=>hk _ _ hv (x3.trans x4)
theorem NO {c:uM} {l:List Int} (h:WR w c i m) (hx:xR i m x) (ht:aO w tv l) (hln:(aY i m x).length<=l.length) (hk:∀ v w',aO w' v (jJ i m x l)->aG w w'->K v w') :
  aB prog 174 #[.pointer (some ⟨c.gb,0,none⟩),.agg #[i64 x.op,i64 x.a,i64 x.b],tv] w K:=by
 obtain ⟨op,a,b⟩:=x;obtain ⟨ir,mr,⟨ho,a1,a2,_⟩,hn⟩:=hx;apply aXs;unfold QG;refine bx λb3 w3 hb3 x3=>?_;have h':=h.ext x3;refine aV hb3 aS aE rfl ?_;rcases AD ho with rfl|rfl|rfl|rfl|rfl|rfl|rfl|rfl|rfl|rfl|rfl|rfl|rfl|rfl|rfl|rfl|rfl|rfl|rfl|rfl|rfl|rfl|rfl|rfl|rfl|rfl|rfl|rfl|rfl|rfl|rfl|rfl|rfl|rfl|rfl|rfl|rfl|rfl|rfl<;>simp only [aR,Int.reduceEq]
 ·refine jG bB [i64 (1)] rfl rfl (by simp) rfl λv w4 ho x4=>gA (hk _ _ (aA.of_own ho) (x3.trans x4))
 ·have a1:0<=a:=a1;obtain ⟨k,rfl⟩:∃ k:Nat,a=k:=⟨a.toNat,by omega⟩;have ha:(k:Int) < (m.locs.length:Int):=hn;have D1:aG w3 w3.drew:=(aG.refl _).drew;refine aL.mk' (λw'=>aG w3 w') D1 ⟨.inl ⟨_,rfl⟩,?_⟩;refine iB (λw' hw=>h'.box.ext hw) fH bE rfl ?_;refine iB (λw' hw=>hb3.ext hw) aX aE rfl ?_;refine nT aP aE h'.loc (λ_ h=>h) (by omega) (by omega) (cM (fO (by omega))) ?_;refine jG bB [i64 (m.locs.getD k 0)] rfl rfl (by simp) rfl λv w4 ho x4=>⟨D1.trans x4,gA ⟨D1.trans x4,hk _ _ (aA.of_own ho) ((x3.trans D1).trans x4)⟩⟩
 iterate 2
  ·exact hk _ _ (aA.nil _ _) x3
 ·have hl1:1<=l.length:=hln;have D1:aG w3 w3.drew:=(aG.refl _).drew;refine aL.mk' (λw'=>aG w3 w') D1 ?_;refine nT aP aE (ht.ext x3) (λ_ h=>h) (by omega) (by omega) (cM (j:=0) (lQ (by omega))) ?_;refine nT aP aE (ht.ext x3) (λ_ h=>h) (by omega) (by omega) (cM (j:=0) (lQ (by omega))) ?_;refine jG bB [i64 (cN l 0),i64 (cN l 0)] rfl rfl (by simp) rfl λv w4 ho x4=>⟨D1.trans x4,gA ⟨D1.trans x4,hk _ _ (aA.of_own ho) ((x3.trans D1).trans x4)⟩⟩
 iterate 9
  ·have hl1:2<=l.length:=hln;have D1:aG w3 w3.drew:=(aG.refl _).drew;refine aL.mk' (λw'=>aG w3 w') D1 ?_;refine nT aP aE (ht.ext x3) (λ_ h=>h) (by omega) (by omega) (cM (j:=0) (lQ (by omega))) ?_;refine nT aP aE (ht.ext x3) (λ_ h=>h) (by omega) (by omega) (cM (j:=1) (lQ (by omega))) ?_;refine zJ ⟨D1,?_⟩;refine jG bB [i64 (rZ (cN l 0) (cN l 1))] rfl rfl (by simp) rfl λv w4 ho x4=>⟨D1.trans x4,gA ⟨D1.trans x4,hk _ _ (aA.of_own ho) ((x3.trans D1).trans x4)⟩⟩
 iterate 2
  ·have hl1:1<=l.length:=hln;refine mH aP aE (ht.ext x3) (by omega) (by omega) (cM (j:=0) (lQ (by omega))) ?_;refine jG bB [i64 (cN l 0)] rfl rfl (by simp) rfl λv w4 ho x4=>gA (hk _ _ (aA.of_own ho) (x3.trans x4))
 iterate 2
  ·refine jG bB [i64 (1)] rfl rfl (by simp) rfl λv w4 ho x4=>gA (hk _ _ (aA.of_own ho) (x3.trans x4))
 iterate 3
  ·have hl1:2<=l.length:=hln;have D1:aG w3 w3.drew:=(aG.refl _).drew;refine aL.mk' (λw'=>aG w3 w') D1 ?_;refine nT aP aE (ht.ext x3) (λ_ h=>h) (by omega) (by omega) (cM (j:=0) (lQ (by omega))) ?_;refine nT aP aE (ht.ext x3) (λ_ h=>h) (by omega) (by omega) (cM (j:=1) (lQ (by omega))) ?_;refine zJ ⟨D1,?_⟩;refine jG bB [i64 (rZ (cN l 0) (cN l 1))] rfl rfl (by simp) rfl λv w4 ho x4=>⟨D1.trans x4,gA ⟨D1.trans x4,hk _ _ (aA.of_own ho) ((x3.trans D1).trans x4)⟩⟩
 ·have hl1:3<=l.length:=hln;refine aQx (ht.ext x3) hl1 λw5 x5=>?_;refine jG bB [i64 (BB l)] rfl rfl (by simp) rfl λv w4 ho x4=>gA (hk _ _ (aA.of_own ho) ((x3.trans x5).trans x4))
 iterate 2
  ·exact hk _ _ (aA.nil _ _) x3
 ·refine aV hb3 aX aE rfl ?_;refine jG bB [i64 (a)] rfl rfl (by simp) rfl λv w4 ho x4=>gA (hk _ _ (aA.of_own ho) (x3.trans x4))
 ·refine jG bB [i64 (1)] rfl rfl (by simp) rfl λv w4 ho x4=>gA (hk _ _ (aA.of_own ho) (x3.trans x4))
 ·refine aV hb3 aX aE rfl ?_;refine jG bB [i64 (a)] rfl rfl (by simp) rfl λv w4 ho x4=>gA (hk _ _ (aA.of_own ho) (x3.trans x4))
 ·refine jG bB [i64 (1)] rfl rfl (by simp) rfl λv w4 ho x4=>gA (hk _ _ (aA.of_own ho) (x3.trans x4))
 ·have hl1:2<=l.length:=hln;refine mH aP aE (ht.ext x3) (by omega) (by omega) (cM (j:=0) (lQ (by omega))) ?_;refine bLj ?_;refine jG bB [i64 (ofK (cN l 0))] rfl rfl (by simp) rfl λv w4 ho x4=>gA (hk _ _ (aA.of_own ho) (x3.trans x4))
 iterate 2
  ·exact hk _ _ (aA.nil _ _) x3
 ·have hl1:5<=l.length:=hln;have e:∀ v w',aO w' v (if cN l 0=4\/cN l 2=4 then [2] else [1])->aG w w'->K v w':=hk;refine mH aP aE (ht.ext x3) (by omega) (by omega) (cM (j:=0) (lQ (by omega))) ?_;refine aJ.2 ?_;by_cases z0:cN l 0=4
  ·simp only [z0,true_or,aR] at e ⊢;refine jG bB [i64 (2)] rfl rfl (by simp) rfl λv w4 ho x4=>gA (e _ _ (aA.of_own ho) (x3.trans x4))
  ·simp only [z0,aR];refine mH aP aE (ht.ext x3) (by omega) (by omega) (cM (j:=2) (lQ (by omega))) ?_;refine aJ.2 ?_;by_cases z2:cN l 2=4
   ·simp only [z2,or_true,aR] at e ⊢;refine jG bB [i64 (2)] rfl rfl (by simp) rfl λv w4 ho x4=>gA (e _ _ (aA.of_own ho) (x3.trans x4))
   ·simp only [z0,z2,or_self,aR] at e ⊢;refine jG bB [i64 (1)] rfl rfl (by simp) rfl λv w4 ho x4=>gA (e _ _ (aA.of_own ho) (x3.trans x4))
 ·have a1:0<=a:=a1;obtain ⟨k,rfl⟩:∃ k:Nat,a=k:=⟨a.toNat,by omega⟩;have ha:(k:Int) < (i.fields.length:Int):=hn;have D1:aG w3 w3.drew:=(aG.refl _).drew;refine aL.mk' (λw'=>aG w3 w') D1 ⟨.inl ⟨_,rfl⟩,?_⟩;refine yF2 (λw' hw=>h'.box.ext hw) cE jT bE rfl ?_;refine iB (λw' hw=>hb3.ext hw) aX aE rfl ?_;refine nT aP aE h'.img.fl (λ_ h=>h) (by omega) (by omega) (cM (fO (by omega))) ?_;refine jG bB [i64 (i.fields.getD k 0)] rfl rfl (by simp) rfl λv w4 ho x4=>⟨D1.trans x4,gA ⟨D1.trans x4,hk _ _ (aA.of_own ho) ((x3.trans D1).trans x4)⟩⟩
 ·exact hk _ _ (aA.nil _ _) x3
 ·have a1:1<=a:=a1;have a2:a<=2:=a2;refine aV hb3 aX aE rfl (bJ.2 ?_);rw [lI (by dsimp only;omega) (by dsimp only;omega)];refine fT.2 ?_;rw [lI (by dsimp only;omega) (by dsimp only;omega)];refine jG bB [i64 (3+a - 1)] rfl rfl (by simp) rfl λv w4 ho x4=>gA (hk _ _ (aA.of_own ho) (x3.trans x4))
 ·exact hk _ _ (aA.nil _ _) x3
 ·have a1:0<=a:=a1;obtain ⟨k,rfl⟩:∃ k:Nat,a=k:=⟨a.toNat,by omega⟩;have ha:(k:Int) < (i.methods.length:Int):=hn;have D1:aG w3 w3.drew:=(aG.refl _).drew;refine aL.mk' (λw'=>aG w3 w') D1 ⟨.inl ⟨_,rfl⟩,?_⟩;refine yF2 (λw' hw=>h'.box.ext hw) cE bP dN rfl ?_;refine iB (λw' hw=>hb3.ext hw) aX aE rfl ?_;have hmi:=gI a1 hn;simp only [Int.toNat_natCast] at hmi;refine ySF iF gG aE h'.img.mt (λ_ h=>h) hmi λrow hrow=>?_;obtain ⟨pv9,lv9,cv9,rfl,_,_,_⟩:=hrow;refine ⟨i64 (i.meth (k:Int)).result,rfl,by decide,?_⟩;exact AA λv w4 hv x4=>⟨D1.trans x4,hk _ _ hv ((x3.trans D1).trans x4)⟩
 ·have a1:0<=a:=a1;obtain ⟨k,rfl⟩:∃ k:Nat,a=k:=⟨a.toNat,by omega⟩;have ha:(k:Int) < (i.imports.length:Int):=hn;have D1:aG w3 w3.drew:=(aG.refl _).drew;refine aL.mk' (λw'=>aG w3 w') D1 ⟨.inl ⟨_,rfl⟩,?_⟩;refine yF2 (λw' hw=>h'.box.ext hw) cE fP iT rfl ?_;refine iB (λw' hw=>hb3.ext hw) aX aE rfl ?_;have hmi:=tY a1 hn;simp only [Int.toNat_natCast] at hmi;refine ySF oD cF aE h'.img.im (λ_ h=>h) hmi λrow hrow=>?_;obtain ⟨pv9,rfl,_⟩:=hrow;refine ⟨i64 (i.imp (k:Int)).result,rfl,by decide,?_⟩;exact AA λv w4 hv x4=>⟨D1.trans x4,hk _ _ hv ((x3.trans D1).trans x4)⟩
 ·exact hk _ _ (aA.nil _ _) x3
end Go.Proofs.YtjcmcfidblhnnaaGreatDoor
namespace Go.Tc
theorem EZ:∀ {t l:List Int} {j:Nat},(∀ q,q < j->q < t.length->uI (cN l q) (cN t q)=true)->t.length<=j->kD t l=true
 | [],_,_,_,_=>rfl
 | _::_,[],_,_,_=>rfl
 | a::t,k::l,0,_,h=>by simp at h
 | a::t,k::l,j+1,h,hl=>by
  simp only [kD,Bool.and_eq_true];refine ⟨h 0 (by omega) (by simp),EZ (j:=j) (λq hq hqt=>?_) (by simpa using hl)⟩;have:=h (q+1) (by omega) (by simpa using hqt);simpa [cN] using this
theorem aJw:∀ {t l:List Int} {q:Nat},q < t.length->t.length<=l.length->kD t l=true->uI (cN l q) (cN t q)=true:=λh1 h2 h=>AG h1 (by omega) h
theorem AZ:∀ {t l:List Int} {j:Nat} {a k:Int},t[j]?=some a->l[j]?=some k->gP (t.take (j+1)) (l.take (j+1))=(gP (t.take j) (l.take j)||wS k a)
 | [],_,_,_,_,h,_=>by simp at h
 | _::_,[],_,_,_,_,h=>by simp at h
 | a::t,k::l,0,_,_,h1,h2=>by simp at h1 h2;subst h1 h2;simp [gP]
 | a::t,k::l,j+1,_,_,h1,h2=>by
  have:=AZ (t:=t) (l:=l) (j:=j) (by simpa using h1) (by simpa using h2);simp only [List.take_succ_cons,gP] at this ⊢;rw [this,Bool.or_assoc]
end Go.Tc
namespace Go.Proofs.YtjcmcfidblhnnaaGreatDoor
open Tryz
open Go.Vc Go.Tc
variable {w:O} {K:Y->O->Prop}
variable {i:iA} {m:jR} {x:lT} {av bv tv:Y} {a:List Int}
theorem IE (h:xR i m x):∀ a∈aY i m x,Ask a:=by
 obtain ⟨op,a,b⟩:=x;obtain ⟨ir,mr,⟨ho,a1,a2,_⟩,hn⟩:=h;have hm1:Ask (-1):=.inl rfl;have hm2:Ask (-2):=.inr (.inl rfl);have hm3:Ask (-3):=.inr (.inr (.inl rfl));have hm4:Ask (-4):=.inr (.inr (.inr (.inl rfl)));have kd:∀ {l:List Int},sY l->∀ a∈l,Ask a:=λh a ha=>.inr (.inr (.inr (.inr (h a ha))));by_cases c3:op=3
 ·subst c3;intro q hq;have e:aY i m ⟨3,a,b⟩=[m.locs.getD a.toNat 0]:=rfl;rw [e,List.mem_singleton] at hq;subst hq;have hn:a < (m.locs.length:Int):=hn;have a1:0<=a:=a1;exact .inr (.inr (.inr (.inr (tT (JM mr) (by omega)))))
 by_cases c34:op=34
 ·subst c34;intro q hq;have e:aY i m ⟨34,a,b⟩=[i.fields.getD a.toNat 0]:=rfl;rw [e,List.mem_singleton] at hq;subst hq;have hn:a < (i.fields.length:Int):=hn;have a1:0<=a:=a1;exact .inr (.inr (.inr (.inr (tT ir.1.1 (by omega)))))
 by_cases c1:op=37
 ·subst c1;exact kd (MQ ir a1 hn)
 by_cases c2:op=38
 ·subst c2;exact kd (XR ir a1 hn)
 by_cases c4:op=39
 ·subst c4;exact kd (DM mr.2.1)
 have ho:1<=op/\op<=39:=ho;rcases AD ho with rfl|rfl|rfl|rfl|rfl|rfl|rfl|rfl|rfl|rfl|rfl|rfl|rfl|rfl|rfl|rfl|rfl|rfl|rfl|rfl|rfl|rfl|rfl|rfl|rfl|rfl|rfl|rfl|rfl|rfl|rfl|rfl|rfl|rfl|rfl|rfl|rfl|rfl|rfl<;>first|contradiction|(simp [aY,kU,hm1,hm2,hm3,hm4];done)
theorem aDx {c:uM} (h:WR w c i m) (hx:xR i m x) (hk:∀ w',aG w w'->K (i64 (hgt i m x)) w') :
  aB prog 171 #[.pointer (some ⟨c.gb,0,none⟩),.agg #[i64 x.op,i64 x.a,i64 x.b]] w K:=by
 apply aXv;unfold QJ;refine bx λb3 w3 hb3 x3=>?_;refine mkB (n:=8) underlying23 bT rfl (by decide) (by decide) λw4 hB x4 _=>?_;refine iC (hb3.ext x4) gS rfl ?_
 have hz:aO w4 (.slice (some ⟨w3.heap.size,0,none⟩) 8 8) (List.replicate 8 0):=by
  have:=hB.slice (n:=8) (by simp) (by unfold maxLen;decide);exact this
 refine NO (h.ext (x3.trans x4)) hx hz (by have:=zM hx;simp;omega) λv w5 hv x5=>?_;refine gE aP hv ?_;rw [KE];exact hk _ ((x3.trans x4).trans x5)
theorem aIk {c:uM} {l:List Int} (h:WR w c i m) (hx:xR i m x) (ht:aO w tv l) (hl:l.length=(aY i m x).length) (hkd:sY l) (hk:∀ e w',(e=0↔mY x (aY i m x) l=true)->aG w w'->K (i64 e) w') :
  aB prog 172 #[.pointer (some ⟨c.gb,0,none⟩),.agg #[i64 x.op,i64 x.a,i64 x.b],tv] w K:=by
 have hask:=IE hx;have hle:=zM hx;have hx0:=hx;obtain ⟨op,a,b⟩:=x;apply aXu;unfold QI;refine bx λb3 w3 hb3 x3=>?_;refine iC hb3 gS rfl ?_;refine CY (h.ext x3) hx0 λav w4 hav x4=>?_;have x34:=x3.trans x4;have hb3:=hb3.ext x4;generalize hA:aY i m ⟨op,a,b⟩=t at hav hl hask hle hk;refine gE aP hav ?_;refine ⟨λv w'=>∃ j:Nat,v=i64 j/\j<=t.length/\aG w4 w'/\∀ q,q < j->q < t.length->uI (cN l q) (cN t q)=true,λv _=>t.length - (RowKit.intOf v).toNat,⟨0,rfl,Nat.zero_le _,aG.refl _,λ_ h=>absurd h (Nat.not_lt_zero _)⟩,?_⟩;rintro _ w5 ⟨j,rfl,hj,x5,hall⟩ _;refine aZ.2 (aC (λhlt=>?_) λhge=>?_)
 ·have h1:=lQ (l:=t) (j:=j) (by omega);have h2:=lQ (l:=l) (j:=j) (by omega);refine mH aP aE (hav.ext x5) (by omega) (by omega) (cM h1) ?_;refine mH aP aE ((ht.ext x34).ext x5) (by omega) (by omega) (cM h2) ?_;refine aSj (hkd _ (List.mem_of_getElem? h2)) (hask _ (List.mem_of_getElem? h1)) (dO.2 ?_);cases hd:uI (cN l j) (cN t j) with
  | false=>
   simp only [aR];refine hk 11 _ ⟨λh=>absurd h (by decide),λh=>?_⟩ (x34.trans x5);simp only [mY,Bool.and_eq_true] at h;have:=aJw (q:=j) (by omega) (by omega) h.1;rw [hd] at this;cases this
  | true=>
   simp only [aR];refine jS (by omega) ?_;refine ⟨⟨j+1,rfl,by omega,x5,λq hq hqt=>?_⟩,by simp only [aK];omega⟩;by_cases hqj:q=j
   ·subst hqj;exact hd
   ·exact hall q (by omega) hqt
 have hdl:kD t l=true:=EZ hall (by omega);have D1:aG w5 w5.drew:=(aG.refl _).drew;have xd:=(x34.trans x5).trans D1;refine aL.mk' (λw'=>aG w5 w') D1 ?_;have htd:=(ht.ext x34).ext x5;refine iB (λw' hw=>(hb3.ext x5).ext hw) aS aE rfl (aF.ok (λw' _=>AB) ?_);by_cases h22:op=22
 ·subst h22;have hl3:l.length=3:=by rw [hl,<- hA];rfl
  have e:mY ⟨22,a,b⟩ t l=true↔(eF (cN l 1)&&eF (cN l 2)||fZ (cN l 1)&&cN l 1 == cN l 2)=true:=by
   unfold mY;rw [if_pos rfl,hdl,Bool.true_and]
  simp only [aR];have yr:∀ {n L},n < l.length->L (i64 (cN l n))->aF prog (λw'=>aG w5 w') (Instr.indexAt 23 tv (i64 (n:Nat))) λp=>aF prog (λw'=>aG w5 w') (Instr.loadAt 3 p) L:=λ{n L} hn hL=>nT aP aE htd (λ_ h=>h) (by omega) (by omega) (cM (lQ hn)) hL;have arrpart:eF (cN l 1)=true/\eF (cN l 2)=true->False\/True:=λ_=>.inr trivial;refine yr (n:=1) (by omega) (yV ⟨D1,?_⟩);cases i1:eF (cN l 1) with
  | true=>
   simp only [aR];refine yr (n:=2) (by omega) (yV ⟨D1,aF.ok (λw' _=>vZ) ?_⟩);cases i2:eF (cN l 2) with
   | true=>
    simp only [aR];refine ⟨D1,hk 0 _ ⟨λ_=>e.2 (by rw [i1,i2];rfl),λ_=>rfl⟩ xd⟩
   | false=>
    simp only [aR];refine yr (n:=1) (by omega) (tD ⟨D1,?_⟩)
    have na:fZ (cN l 1)=false:=by
     have:=LC (oS hkd (n:=1) (by omega));rcases this with h|h|h|h<;>rw [h] at i1 ⊢<;>first|rfl|(exact absurd i1 (by decide))
    rw [na];simp only [aR];refine aF.ok (λw' _=>vZ) ?_;simp only [aR];exact hk 11 _ ⟨λh=>absurd h (by decide),λh=>by rw [e,i1,i2,na] at h;cases h⟩ xd
  | false=>
   simp only [aR];refine ⟨D1,aF.ok (λw' _=>vZ) ?_⟩;simp only [aR];refine yr (n:=1) (by omega) (tD ⟨D1,?_⟩);cases a1':fZ (cN l 1) with
   | false=>
    simp only [aR];refine aF.ok (λw' _=>vZ) ?_;simp only [aR];exact hk 11 _ ⟨λh=>absurd h (by decide),λh=>by rw [e,i1,a1'] at h;cases h⟩ xd
   | true=>
    simp only [aR];refine yr (n:=1) (by omega) (yr (n:=2) (by omega) (aF.ok (λw' _=>AB) (aF.ok (λw' _=>vZ) ?_)));by_cases he:cN l 1=cN l 2
    ·simp only [he,aR];exact hk 0 _ ⟨λ_=>e.2 (by rw [i1,a1'];simp [he]),λ_=>rfl⟩ xd
    ·simp only [he,aR];exact hk 11 _ ⟨λh=>absurd h (by decide),λh=>by rw [e,i1,a1'] at h;simp [he] at h⟩ xd
 ·have e:mY ⟨op,a,b⟩ t l=true:=by
   unfold mY;rw [if_neg h22,hdl,Bool.true_and]
  simp only [h22,aR];exact ⟨D1,D1,D1,hk 0 _ ⟨λ_=>e,λ_=>rfl⟩ xd⟩
theorem aIc {c:uM} {l:List Int} (h:WR w c i m) (hx:xR i m x) (ht:aO w tv l) (hl:l.length=(aY i m x).length) (hkd:sY l) (hk:∀ e w',(e=0↔kO x (aY i m x) l=false)->aG w w'->K (i64 e) w') :
  aB prog 173 #[.pointer (some ⟨c.gb,0,none⟩),.agg #[i64 x.op,i64 x.a,i64 x.b],tv] w K:=by
 have hask:=IE hx;have hle:=zM hx;have hx0:=hx;obtain ⟨op,a,b⟩:=x;apply aXt;unfold QH;refine bx λb3 w3 hb3 x3=>?_;refine iC hb3 gS rfl ?_;refine CY (h.ext x3) hx0 λav w4 hav x4=>?_;have x34:=x3.trans x4;have hb3:=hb3.ext x4;have hlen:∀ {n:Nat},aY i m ⟨op,a,b⟩=aY i m ⟨op,a,b⟩->(aY i m ⟨op,a,b⟩).length=n->l.length=n:=λ_ h=>by omega
 generalize hA:aY i m ⟨op,a,b⟩=t at hav hl hask hle hk hlen;refine gE aP hav ?_;refine ⟨λbv v w'=>∃ j:Nat,v=i64 j/\j<=t.length/\aG w4 w'/\bv=.bool (gP (t.take j) (l.take j)),λ_ v _=>t.length - (RowKit.intOf v).toNat,⟨0,rfl,Nat.zero_le _,aG.refl _,rfl⟩,?_⟩;rintro _ _ w5 ⟨j,rfl,hj,x5,rfl⟩ _;refine aZ.2 (aC (λhlt=>?_) λhge=>?_)
 ·have h1:=lQ (l:=t) (j:=j) (by omega);have h2:=lQ (l:=l) (j:=j) (by omega);have es:=AZ h1 h2;refine mH aP aE (hav.ext x5) (by omega) (by omega) (cM h1) ?_;generalize gP (t.take j) (l.take j)=A at es
  have go:∀ v,v=gP (t.take (j+1)) (l.take (j+1))->V prog (binOp .add 3 (i64 j) (i64 1)) w5 λt28 w16=>
    (∃ j:Nat,t28=i64 j/\j<=t.length/\aG w4 w16/\(.bool v:Y)=.bool (gP (t.take j) (l.take j)))/\t.length - (RowKit.intOf t28).toNat < t.length - (RowKit.intOf (i64 (j:Int))).toNat:=by
   rintro _ rfl;refine jS (by omega) ?_;exact ⟨⟨j+1,rfl,by omega,x5,rfl⟩,by simp only [aK];omega⟩
  cases A with
  | true=>simp only [aR];exact go _ (by rw [es];rfl)
  | false=>
   simp only [aR];refine mH aP aE ((ht.ext x34).ext x5) (by omega) (by omega) (cM h2) ?_;refine aFy (hkd _ (List.mem_of_getElem? h2)) (hask _ (List.mem_of_getElem? h1)) ?_;exact go _ (by rw [es];rfl)
 have hjt:j=t.length:=by omega
 subst hjt;rw [List.take_length,<- hl,List.take_length];have x35:=x34.trans x5
 have rd:∀ {n u K},n < l.length->u=i64 (cN l n)->K u w5->V prog (Instr.indexAt 23 tv (i64 (n:Nat))) w5 λp w1=>V prog (Instr.loadAt 3 p) w1 K:=λ{n u K} hn hu hK=>by
  subst hu;exact mH aP aE (ht.ext x35) (by omega) (by omega) (cM (lQ hn)) hK
 have yes:kO ⟨op,a,b⟩ t l=false->K (i64 0) w5:=λh=>hk 0 _ ⟨λ_=>h,λ_=>rfl⟩ x35;have no:kO ⟨op,a,b⟩ t l=true->K (i64 12) w5:=λh=>hk 12 _ ⟨λh=>absurd h (by decide),λh'=>by rw [h] at h';cases h'⟩ x35
 have fin:∀ v,v=kO ⟨op,a,b⟩ t l->aI (.bool v) (K (i64 12) w5) (K (i64 0) w5):=by
  rintro _ rfl;cases hv:kO ⟨op,a,b⟩ t l with
  | true=>rw [bH];exact no hv
  | false=>rw [aM];exact yes hv
 refine aV (hb3.ext x5) aS aE rfl ?_;generalize hS:gP t l=A;by_cases c22:op=22
 ·subst c22;have hl3:l.length=3:=by rw [hl,<- hA];rfl
  simp only [aR,Int.reduceEq];refine rd (n:=1) (by omega) rfl (tD ?_);cases hz:fZ (cN l 1) with
  | false=>simp only [aR];exact yes (by unfold kO;rw [if_pos rfl,hz];rfl)
  | true=>
   simp only [aR];refine rd (n:=0) (by omega) rfl (aJ.2 ?_);exact fin _ (by unfold kO;rw [if_pos rfl,hz];rfl)
 by_cases c30:op=30
 ·subst c30;have hl3:l.length=3:=by rw [hl,<- hA];rfl
  have e:kO ⟨30,a,b⟩ t l=(A||(cN l 0 == 3&&cN l 2 == 2)):=by unfold kO;rw [hS];rfl
  simp only [aR,Int.reduceEq];cases A with
  | true=>simp only [aR];exact no (by rw [e];rfl)
  | false=>
   simp only [aR];refine rd (n:=0) (by omega) rfl (aJ.2 ?_);by_cases z0:cN l 0=3
   ·simp only [z0,aR];refine rd (n:=2) (by omega) rfl (aJ.2 ?_);exact fin _ (by rw [e,z0];rfl)
   ·simp only [z0,aR];exact yes (by rw [e];simp [z0])
 by_cases c31:op=31
 ·subst c31;have hl5:l.length=5:=by rw [hl,<- hA];rfl
  have e:kO ⟨31,a,b⟩ t l=(A||(cN l 0 == 3&&cN l 2 == 4)):=by unfold kO;rw [hS];rfl
  simp only [aR,Int.reduceEq];cases A with
  | true=>simp only [aR];exact no (by rw [e];rfl)
  | false=>
   simp only [aR];refine rd (n:=0) (by omega) rfl (aJ.2 ?_);by_cases z0:cN l 0=3
   ·simp only [z0,aR];refine rd (n:=2) (by omega) rfl (aJ.2 ?_);exact fin _ (by rw [e,z0];rfl)
   ·simp only [z0,aR];exact yes (by rw [e];simp [z0])
 by_cases c36:op=36
 ·subst c36;have hl3:l.length=3:=by rw [hl,<- hA];rfl
  have e:kO ⟨36,a,b⟩ t l=(A||(a == 1&&cN l 0 == 4)):=by unfold kO;rw [hS];rfl
  simp only [aR,Int.reduceEq];cases A with
  | true=>simp only [aR];exact no (by rw [e];rfl)
  | false=>
   simp only [aR];refine aV (hb3.ext x5) aX aE rfl (aJ.2 ?_);by_cases z0:a=1
   ·subst z0;simp only [aR];refine rd (n:=0) (by omega) rfl (aJ.2 ?_);exact fin _ (by rw [e];rfl)
   ·simp only [z0,aR];exact yes (by rw [e];simp [z0])
 have e:kO ⟨op,a,b⟩ t l=A:=by unfold kO;rw [if_neg c22,if_neg c30,if_neg c31,if_neg c36,hS]
 simp only [c22,c30,c31,c36,aR];exact fin _ e.symm
theorem OA {v:Y} {l:List Int} (h:aO w v l) (hl:l.length<=4294967296) (hk:∀ v' w',w'.ownsRow w.heap.size 3 1 v' l.length (l.map i64)->aG w w'->K v' w') :
  aB prog 132 #[v] w K:=by
 apply aCc;unfold FO;exact VF bB h (OJ l) (by omega) hk
theorem aJl {b:List Int} (ha:aO w av a) (hb:aO w bv b) (hk:∀ w',aG w w'->K (.bool (decide (a=b))) w'):aB prog 169 #[av,bv] w K:=by
 have ca:=uX ha;apply aXy;unfold QM;refine gE aP ha (gE aP hb (cL.2 (aC (λhne=>?_) λheq=>?_)))
 ·have:¬ a=b:=λe=>hne (by rw [e]);rw [decide_eq_false this] at hk;exact hk _ (aG.refl _)
 have hl:a.length=b.length:=by omega
 refine gE aP ha ?_;refine ⟨λv w'=>∃ j:Nat,v=i64 j/\j<=a.length/\aG w w'/\a.take j=b.take j,λv _=>a.length - (RowKit.intOf v).toNat,⟨0,rfl,Nat.zero_le _,aG.refl _,rfl⟩,?_⟩;rintro _ w1 ⟨j,rfl,hj,x1,hjs⟩ _;refine aZ.2 (aC (λhlt=>?_) λhge=>?_)
 ·obtain ⟨x,hx⟩:=bI (l:=a) (j:=j) (by omega);obtain ⟨y,hy⟩:=bI (l:=b) (j:=j) (by omega);have D1:aG w1 w1.drew:=(aG.refl _).drew;refine aL.mk' (λw'=>aG w1 w') D1 ?_;refine nT aP aE (ha.ext x1) (λ_ h=>h) (by omega) (by omega) (cM hx) ?_;refine nT aP aE (hb.ext x1) (λ_ h=>h) (by omega) (by omega) (cM hy) ?_;refine aF.ok (λw' _=>wX) (aC (λhne=>?_) λheq=>?_)
  ·have:¬ a=b:=λe=>hne (by subst e;rw [hx] at hy;cases hy;rfl);rw [decide_eq_false this] at hk;exact hk _ (x1.trans D1)
  ·have:x=y:=by simpa using heq
   subst this;refine bJ.2 ?_;rw [lI (by omega) (by unfold maxLen at ca;omega),bK];exact ⟨⟨j+1,rfl,by omega,x1.trans D1,by rw [List.take_add_one,List.take_add_one,hx,hy,hjs]⟩,by simp only [aK];omega⟩
 ·have hjl:j=a.length:=by omega
  subst hjl
  have:a=b:=by
   rw [List.take_length,hl,List.take_length] at hjs;exact hjs
  rw [decide_eq_true this] at hk;exact hk _ x1
theorem UF {b:List Int} (ha:aO w av a) (hb:aO w bv b) (ka:sY a) (kb:sY b) (hl8:a.length<=1000)
  (yes:∀ j v w',mO a b=some j->w'.ownsRow w.heap.size 3 1 v j.length (j.map i64)->aG w w'->K (.tuple #[v,.bool true]) w') (no:∀ w',mO a b=none->aG w w'->K (.tuple #[bC,.bool false]) w') :
  aB prog 168 #[av,bv] w K:=by
 apply aXz;unfold QN;refine gE aP ha (gE aP hb (cL.2 (aC (λhne=>?_) λheq=>?_)))
 ·exact no _ (ED λe=>hne (by rw [e])) (aG.refl _)
 have hl:a.length=b.length:=by omega
 refine gE aP ha ?_
 refine ⟨λov v w'=>∃ (j:Nat) (acc:List Int),v=i64 j/\j<=a.length/\aG w w'/\mO (a.take j) (b.take j)=some acc/\acc.length=j/\w'.ownsRow w.heap.size 3 1 ov j (acc.map i64),λ_ v _=>a.length - (RowKit.intOf v).toNat,
  ⟨0,[],rfl,Nat.zero_le _,aG.refl _,rfl,rfl,World.ownsRow_nil _ _ _ _⟩,?_⟩
 rintro ov _ w1 ⟨j,acc,rfl,hj,x1,hacc,hal,ho⟩ _;refine aZ.2 (aC (λhlt=>?_) λhge=>?_)
 ·obtain ⟨x,hx⟩:=bI (l:=a) (j:=j) (by omega);obtain ⟨y,hy⟩:=bI (l:=b) (j:=j) (by omega);have D1:aG w1 w1.drew:=(aG.refl _).drew;have xd:=x1.trans D1;refine aL.mk' (λw'=>aG w1 w') D1 ?_;refine nT aP aE (ha.ext x1) (λ_ h=>h) (by omega) (by omega) (cM hx) ?_;refine nT aP aE (hb.ext x1) (λ_ h=>h) (by omega) (by omega) (cM hy) ?_;refine aRu (ka x (List.mem_of_getElem? hx)) (kb y (List.mem_of_getElem? hy)) ⟨D1,?_⟩;unfold XN;cases hk:BH x y with
  | none=>
   refine aF.ok (λw' _=>nQ) (aF.ok (λw' _=>nP) (dO.2 (bH.2 ?_)));exact no _ (EC hx hy hk) xd
  | some k=>
   refine aF.ok (λw' _=>nQ) (aF.ok (λw' _=>nP) (dO.2 (aM.2 ?_)));refine jG bB [i64 k] rfl rfl (by simp) rfl λv2 w2 ho2 x2=>?_;have x12:=D1.trans x2;refine LD bB (x12.own ho) (aA.of_own ho2) rfl (by omega) (by unfold maxLen;omega) (xd.trans x2).size λv3 w3 ho3 hg3=>?_;refine jS (by omega) ?_;refine ⟨⟨j+1,acc++[k],rfl,by omega,(xd.trans x2).grown hg3 λq hq=>((x12.own ho).lt q hq).1,xF hx hy hacc hk,by simp [hal],by simpa using ho3⟩,by simp only [aK];omega⟩
 ·have hjl:j=a.length:=by omega
  subst hjl;rw [List.take_length,hl,List.take_length] at hacc;refine yes acc ov _ hacc ?_ x1;have:=ho;rw [<- hal] at this;exact this
theorem aRi {pc:Nat} (hp:pc<=1000) (hk:∀ v w',w'.ownsRow w.heap.size 3 1 v (fN x pc).length ((fN x pc).map i64)->aG w w'->K v w'):aB prog 119 #[.agg #[i64 x.op,i64 x.a,i64 x.b],i64 pc] w K:=by
 obtain ⟨op,a,b⟩:=x;apply bAa;unfold SK;refine bx λb1 w1 hb x1=>?_;refine aV hb aS aE rfl (aJ.2 (aC (λc1=>?_) λc1=>aJ.2 (aC (λc2=>?_) λc2=>aJ.2 (aC (λc3=>?_) λc3=>?_))))
 ·refine aV hb aX aE rfl ?_;refine jG bB [i64 a] rfl rfl (by simp) rfl λv w2 ho x2=>hk _ _ ?_ (x1.trans x2);have e:fN ⟨op,a,b⟩ pc=[a]:=by unfold fN;dsimp only;rw [if_pos c1]
  rw [e];exact aU ho x1.size
 ·refine bJ.2 ?_;rw [aQ (by omega)];refine aV hb aX aE rfl ?_;refine jG bB [i64 ((pc:Int)+1),i64 a] rfl rfl (by simp) rfl λv w2 ho x2=>hk _ _ ?_ (x1.trans x2);have e:fN ⟨op,a,b⟩ pc=[(pc:Int)+1,a]:=by unfold fN;dsimp only;rw [if_neg c1,if_pos c2]
  rw [e];exact aU ho x1.size
 ·have e:fN ⟨op,a,b⟩ pc=[]:=by unfold fN;dsimp only;rw [if_neg c1,if_neg c2,if_pos c3]
  refine hk _ _ ?_ x1;rw [e];exact World.ownsRow_nil _ _ _ _
 ·refine bJ.2 ?_;rw [aQ (by omega)];refine jG bB [i64 ((pc:Int)+1)] rfl rfl (by simp) rfl λv w2 ho x2=>hk _ _ ?_ (x1.trans x2);have e:fN ⟨op,a,b⟩ pc=[(pc:Int)+1]:=by unfold fN;dsimp only;rw [if_neg c1,if_neg c2,if_neg c3]
  rw [e];exact aU ho x1.size
def KD (l:List Bool):Int:=match nS l with
 | some q=>q
 | none=>-1
theorem aIw {v:Y} {l:List Bool} (h:gO w v l) (hl:l.length<=1000) (hk:K (i64 (KD l)) w):aB prog 117 #[v,.bool true] w K:=by
 apply bAc;unfold SM;have hs:aA w v 1 l.length (l.map .bool):=h;refine gE hO hs ?_;refine ⟨λv w'=>∃ j:Nat,v=i64 j/\j<=l.length/\w'=w/\∀ q,q < j->l.getD q false=false,λv _=>l.length - (RowKit.intOf v).toNat,⟨0,rfl,Nat.zero_le _,rfl,λ_ h=>absurd h (Nat.not_lt_zero _)⟩,?_⟩;rintro _ w1 ⟨j,rfl,hj,hw1,hno⟩ _;have hw1:=hw1.symm;subst hw1;refine aZ.2 (aC (λhlt=>?_) λhge=>?_)
 ·refine mH hO oM hs (by omega) (by omega) (EV (by omega)) ?_;refine V.ok (aGv underlying4) ?_;cases hb:l.getD j false with
  | true=>
   refine bH.2 ?_;have:KD l=j:=by unfold KD;rw [AL hb hno]
   rw [this] at hk;exact hk
  | false=>
   refine aM.2 (bJ.2 ?_);rw [aQ (by omega),bK];refine ⟨⟨j+1,rfl,by omega,rfl,λq hq=>?_⟩,by simp only [aK];omega⟩;by_cases hqj:q=j
   ·rw [hqj];exact hb
   ·exact hno q (by omega)
 ·have:KD l=-1:=by unfold KD;rw [xI λq hq=>hno q (by omega)]
  rw [this] at hk;exact hk
theorem bMc {c:uM} {sv:Y} {s:List Int} (h:WR w c i m) (hx:xR i m x) (hs:aO w sv s) (ks:sY s) (h8:s.length<=8)
  (yes:∀ out v w',CG i m x s=some out->w'.ownsRow w.heap.size 3 1 v out.length (out.map i64)->aG w w'->K (.tuple #[v,i64 0]) w') (no:∀ e w',CG i m x s=none->e≠0->aG w w'->K (.tuple #[bC,i64 e]) w') :
  aB prog 118 #[.pointer (some ⟨c.gb,0,none⟩),.agg #[i64 x.op,i64 x.a,i64 x.b],sv] w K:=by
 have hle:=zM hx
 have hh2:hgt i m x<=2:=by
  obtain ⟨op,a,b⟩:=x;obtain ⟨_,_,⟨ho,_⟩,_⟩:=hx;have ho:1<=op/\op<=39:=ho;unfold hgt;rcases AD ho with rfl|rfl|rfl|rfl|rfl|rfl|rfl|rfl|rfl|rfl|rfl|rfl|rfl|rfl|rfl|rfl|rfl|rfl|rfl|rfl|rfl|rfl|rfl|rfl|rfl|rfl|rfl|rfl|rfl|rfl|rfl|rfl|rfl|rfl|rfl|rfl|rfl|rfl|rfl<;>first|exact Nat.zero_le _|exact Nat.le_succ 1|exact Nat.le_refl _|exact Nat.le_succ_of_le (DL _)
 apply bAb;unfold SL;refine bx λb1 w1 hb1 x1=>?_;refine gE aP (hs.ext x1) (iC hb1 gS rfl ?_);refine CY (h.ext x1) hx λav w2 hav x2=>?_;have x12:=x1.trans x2;have hb1:=hb1.ext x2;refine gE aP hav (fT.2 ?_);rw [aQ (by omega)];refine aZ.2 ?_;by_cases hlt:(s.length:Int) - ((aY i m x).length:Int) < 0
 ·simp only [hlt,aR];refine no 10 _ ?_ (by decide) x12;unfold CG;dsimp only;rw [if_pos (.inl (by omega))]
 have hsl:(aY i m x).length<=s.length:=by omega
 rw [show (s.length:Int) - ((aY i m x).length:Int)=((s.length - (aY i m x).length:Nat):Int) by omega] at hlt ⊢;simp only [hlt,aR];refine iC hb1 gS rfl ?_;refine aDx (h.ext x12) hx λw3 x3=>bJ.2 ?_;have x13:=x12.trans x3;have hb1:=hb1.ext x3;rw [aQ (by omega)];refine jF.2 ?_;by_cases hgt8:((s.length - (aY i m x).length:Nat):Int)+((hgt i m x:Nat):Int) > 8
 ·simp only [hgt8,aR];refine no 10 _ ?_ (by decide) x13;unfold CG;dsimp only;rw [if_pos (.inr (by omega))]
 simp only [hgt8,aR];obtain ⟨tv,trun,tsl⟩:=aCz underlying23 bT (hs.ext x13) (lo:=some (.int .i64 ((s.length - (aY i m x).length:Nat):Int))) (hi':=none) (a:=s.length - (aY i m x).length) (b:=s.length) (.inr rfl) (.inl ⟨rfl,rfl⟩) (by omega) (Nat.le_refl _);refine V.ok (trun _) ?_
 have ht3:aO w3 tv (s.drop (s.length - (aY i m x).length)):=by
  have:=tsl _ (hs.ext x13);unfold aO;rw [List.length_drop,List.map_drop];have e2:((s.map i64).drop (s.length - (aY i m x).length)).take (s.length - (s.length - (aY i m x).length))=(s.map i64).drop (s.length - (aY i m x).length):=List.take_of_length_le (by simp)
  rwa [e2] at this
 have hdo:∀ {l},l=s.drop (s.length - (aY i m x).length)->CG i m x s=if mY x (aY i m x) l=true/\kO x (aY i m x) l=false then some (s.take (s.length - (aY i m x).length)++jJ i m x l) else none:=by
  rintro _ rfl;unfold CG;dsimp only;rw [if_neg (by omega)]
 have hkl:sY (s.drop (s.length - (aY i m x).length)):=λk hk=>ks k (List.mem_of_mem_drop hk);have hll:(s.drop (s.length - (aY i m x).length)).length=(aY i m x).length:=by rw [List.length_drop];omega
 generalize hL:s.drop (s.length - (aY i m x).length)=l at ht3 hkl hll;have hdo:=hdo hL.symm;refine iC hb1 gS rfl ?_;refine aIk (h.ext x13) hx ht3 hll hkl λe w4 he x4=>cL.2 ?_;have x14:=x13.trans x4;have hb1:=hb1.ext x4;by_cases he0:e=0
 case neg=>
  simp only [he0,aR];exact no e _ (by rw [hdo,if_neg (λhc=>he0 (he.2 hc.1))]) he0 x14
 have hkB:=he.1 he0;simp only [he0,aR];refine iC hb1 gS rfl ?_;refine aIc (h.ext x14) hx (ht3.ext x4) hll hkl λe' w5 he' x5=>cL.2 ?_;have x15:=x14.trans x5;have hb1:=hb1.ext x5;by_cases he1:e'=0
 case neg=>
  simp only [he1,aR];exact no e' _ (by rw [hdo,if_neg (λhc=>he1 (he'.2 hc.2))]) he1 x15
 have hlB:=he'.1 he1;simp only [he1,aR];have hdo:=hdo.trans (if_pos ⟨hkB,hlB⟩);have D1:aG w5 w5.drew:=(aG.refl _).drew;have xd:=x15.trans D1;refine aL.mk' (λw'=>aG w5 w') D1 ?_;obtain ⟨uv,urun,usl⟩:=aCz underlying23 bT hs (lo:=none) (hi':=some (.int .i64 ((s.length - (aY i m x).length:Nat):Int))) (a:=0) (b:=s.length - (aY i m x).length) (.inl ⟨rfl,rfl⟩) (.inr rfl) (by omega) (by omega);refine aF.ok (λw' _=>urun _) ?_
 have hu:aO w5.drew uv (s.take (s.length - (aY i m x).length)):=by
  have:=usl _ (hs.ext xd);have hul:(s.take (s.length - (aY i m x).length)).length=s.length - (aY i m x).length:=by rw [List.length_take];omega
  unfold aO;rw [hul];simpa [List.map_take] using this
 refine yA (λw' hw=>hb1.ext hw) gS rfl ?_;have hul:(s.take (s.length - (aY i m x).length)).length=s.length - (aY i m x).length:=by rw [List.length_take];omega
 generalize s.take (s.length - (aY i m x).length)=u at hu hdo hul;refine OA hu (by omega) λcv w6 hoc x6=>⟨D1.trans x6,?_⟩;refine NO (h.ext (xd.trans x6)) hx ((ht3.ext ((x4.trans x5).trans (D1.trans x6)))) (by omega) λgv w7 hg x7=>⟨(D1.trans x6).trans x7,?_⟩;have hgl:(jJ i m x l).length<=2:=by rw [KE];exact hh2
 refine LD bB (x7.own hoc) hg (OJ _) (by omega) (by unfold maxLen;omega) (x6.trans x7).size λv4 w12 ho12 hg12=>?_;have x12':aG w5.drew w12:=(x6.trans x7).grown hg12 λk hk=>((x7.own hoc).lt k hk).1;refine ⟨D1.trans x12',yes _ v4 w12 hdo ?_ (xd.trans x12')⟩;have:=aU ho12 xd.size;rw [List.length_append,List.map_append];exact this
end Go.Proofs.YtjcmcfidblhnnaaGreatDoor
namespace Go.Vc
theorem yX {P:Program} {S:O->Prop} {L:Y->Prop} {t g n c:Nat} {k:IntKind} {i:Int} (h:XA P t 1) (h0:0<=i) (h1:i < n) (hk:L (.pointer (some ⟨g,0+i.toNat*1,none⟩))):aF P S (Instr.indexAt t (.slice (some ⟨g,0,none⟩) n c) (.int k i)) L:=by
 obtain ⟨e,z,b,ht,hi⟩:=h;exact aF.ok (λw' _=>jZ ht hi h0 h1) hk
end Go.Vc
namespace Go.Tc
theorem bEm (m:jR):WF m (St.ini m.code.length):=by
 have eH:∀ q,(St.ini m.code.length).h q=false:=λq=>by
  simp only [St.ini,St.h,List.getD_eq_getElem?_getD,List.getElem?_replicate];split<;>rfl
 have eS:∀ q,(St.ini m.code.length).s q=[]:=λq=>by
  simp only [St.ini,St.s,List.getD_eq_getElem?_getD,List.getElem?_replicate];split<;>rfl
 exact ⟨by simp [St.ini],by simp [St.ini],by simp [St.ini],λk h=>(by rw [eH] at h;cases h),λk _=>⟨eS k,eH k⟩⟩
theorem NE {n:Nat} (h:1<=n):nM n (St.ini n) 0 []=some (St.first n):=by
 have eH:(St.ini n).h 0=false:=by
  simp only [St.ini,St.h,List.getD_eq_getElem?_getD,List.getElem?_replicate];split<;>rfl
 unfold nM;rw [if_neg (by omega)];simp only [Int.toNat_zero,eH];rfl
end Go.Tc
namespace Go.Proofs.YtjcmcfidblhnnaaGreatDoor
open Tryz
open Go.Vc Go.Tc
variable {w:O} {K:Y->O->Prop}
variable {n sz:Nat} {w0:O} {i:iA} {m:jR} {sv:Y}
theorem fV {B e:Nat} {v:Y} {xs:List Y} (h:w.ownsRow B e sz v n xs):bX v=true:=by
 rcases h.2 with ⟨rfl,_⟩|⟨_,_,_,rfl,_⟩<;>rfl
theorem XW {c:uM} {st:St} {to:Int} {stack:List Int} (h:Wk w0 w c i m st) (wf:WF m st) (hn:m.code.length<=1000) (h0:0<=to) (hs:aO w sv stack) (hks:sY stack) (hl8:stack.length<=8)
  (yes:∀ st' w',nM m.code.length st to stack=some st'->Wk w0 w' c i m st'->Fr c.G w w'->K (i64 0) w') (no:∀ e w',nM m.code.length st to stack=none->e≠0->Fr c.G w w'->K (i64 e) w') :
  aB prog 116 #[.pointer (some ⟨c.gb,0,none⟩),i64 to,sv] w K:=by
 apply bAd;unfold SN;refine ⟨.inl ⟨_,rfl⟩,aRp h.boxed dX cC hU rfl ?_⟩;refine gE kQ h.codeAt (fK.2 (aC (λhbig=>?_) λhsm=>?_))
 ·exact no 13 _ (by unfold nM;rw [if_pos hbig]) (by decide) (Fr.of_ext (aG.refl _))
 obtain ⟨t,rfl⟩:∃ t:Nat,to=t:=⟨to.toNat,by omega⟩;have htn:t < m.code.length:=by omega
 have hM:=h.mem;refine ⟨.inl ⟨_,rfl⟩,aV h.boxed fS oU rfl ?_⟩;refine mH hO oM (hM.hs hn) (by omega) (by omega) (EV (by rw [hM.l2];exact htn)) (dO.2 ?_);have ehh:st.has.getD t false=st.h t:=rfl;rw [ehh]
 have hgG:∀ {r},(if st.h t then (mO (st.s t) stack).bind λj=>if j=st.s t then some st else some { st with st:=st.st.set t j,todo:=st.todo.set t true } else some ⟨st.st.set t stack,st.has.set t true,st.todo.set t true⟩)=r->nM m.code.length st t stack=r:=by
  rintro _ rfl;unfold nM;rw [if_neg (by omega)];simp only [Int.toNat_natCast]
 have hne:=h.ne;have hBo:=hM.o;cases hht:st.h t with
 | false=>
  simp only [aR];have D1:aG w w.drew:=(aG.refl _).drew;refine aL.mk' (λw'=>bO w' c.gb (c.cells i m) 166) (h.box.ext D1) ?_;refine ⟨.inl ⟨_,rfl⟩,iB (λw' hw=>bO.boxed hw) dW HL rfl ?_⟩;refine ⟨.inl ⟨_,rfl⟩,iB (λw' hw=>bO.boxed hw) fS oU rfl ?_⟩;refine ⟨.inl ⟨_,rfl⟩,iB (λw' hw=>bO.boxed hw) eY oU rfl ?_⟩;refine OA (hs.ext D1) (by omega) λcv w2 hoc x2=>⟨(h.box.ext D1).ext x2,?_⟩;have xd:=D1.trans x2;have hM2:=hM.ext xd;have hoc:=aU hoc (B':=c.B) (Nat.le_trans hBo.2.2.2.2 D1.size);have hB2:=h.box.ext xd;obtain ⟨vs,q1,q2,q3⟩:=hM2.s1;refine yX pG (by omega) (by omega) (LM mR q2 (by rw [q1];simpa using htn) (fV hoc) ⟨hB2.other hne.1,?_⟩);rw [Int.toNat_natCast];have hM3:=hM2.setS hoc htn;refine yX hO (by omega) (by omega) (LM lE hM3.s2 (by rw [List.length_map,hM3.l2];simpa using htn) rfl ⟨(hB2.other hne.1).other hne.2.1,?_⟩);rw [Int.toNat_natCast];have hM4:=hM3.setH t true;refine yX hO (by omega) (by omega) (LM lE hM4.s3 (by rw [List.length_map,hM4.l3];simpa using htn) rfl ?_);rw [Int.toNat_natCast];have hM5:=hM4.setT t true;have hf:Fr c.G w _:=(((Fr.of_ext (S:=c.G) xd).set (b:=c.g1) (o:=t) (v:=cv) (.inl rfl)).set (b:=c.g2) (o:=t) (v:=.bool true) (.inr (.inl rfl))).set (b:=c.g3) (o:=t) (v:=.bool true) (.inr (.inr rfl));exact yes _ _ (hgG (by rw [hht];rfl)) (h.chg hf hM5) hf
 | true=>
  simp only [aR];obtain ⟨hkt,hlt8⟩:=wf.kd t hht;obtain ⟨vs,v,hvs,hv,hov⟩:=hM.ss hn htn;refine ⟨.inl ⟨_,rfl⟩,aV h.boxed dW HL rfl ?_⟩;refine mH pG bE hvs (by omega) (by omega) hv ?_;refine UF (aA.of_own hov) hs hkt hks (by omega) (λjo v6 w2 hjo ho6 x2=>?_) λw2 hjo x2=>?_
  case refine_2=>
   refine gR.2 (gQ.2 (dO.2 ?_));simp only [aR];exact no 14 _ (hgG (by rw [hht,hjo];rfl)) (by decide) (Fr.of_ext x2)
  refine gR.2 (gQ.2 (dO.2 ?_));simp only [aR];have h2:=h.ext x2;have hM2:=h2.mem;obtain ⟨vs7,v7,hvs7,hv7,hov7⟩:=hM2.ss hn htn;refine ⟨.inl ⟨_,rfl⟩,aV h2.boxed dW HL rfl ?_⟩;refine mH pG bE hvs7 (by omega) (by omega) hv7 ?_;refine aJl (aA.of_own ho6) (aA.of_own hov7) λw3 x3=>dO.2 ?_;have x23:=x2.trans x3;by_cases hje:jo=st.s t
  ·simp only [hje,aR];exact yes st _ (hgG (by rw [hht,hjo];simp [hje])) (h.ext x23) (Fr.of_ext x23)
  ·simp only [hje,aR];have D1:aG w3 w3.drew:=(aG.refl _).drew;have xd:=x23.trans D1;have h3:=h.ext xd;have hM3:=h3.mem;have ho6:=aU ((x3.trans D1).own ho6) (B':=c.B) hBo.2.2.2.2;refine aL.mk' (λw'=>bO w' c.gb (c.cells i m) 166) h3.box ?_;refine ⟨.inl ⟨_,rfl⟩,iB (λw' hw=>bO.boxed hw) dW HL rfl ?_⟩;refine ⟨.inl ⟨_,rfl⟩,iB (λw' hw=>bO.boxed hw) eY oU rfl ?_⟩;obtain ⟨vs8,q1,q2,q3⟩:=hM3.s1;refine yX pG (by omega) (by omega) (LM mR q2 (by rw [q1];simpa using htn) (fV ho6) ⟨h3.box.other hne.1,?_⟩);rw [Int.toNat_natCast];have hM4:=hM3.setS ho6 htn;refine yX hO (by omega) (by omega) (LM lE hM4.s3 (by rw [List.length_map,hM4.l3];simpa using htn) rfl ?_);rw [Int.toNat_natCast];have hM5:=hM4.setT t true;have hf:Fr c.G w _:=((Fr.of_ext (S:=c.G) xd).set (b:=c.g1) (o:=t) (v:=v6) (.inl rfl)).set (b:=c.g3) (o:=t) (v:=.bool true) (.inr (.inr rfl));exact yes _ _ (hgG (by rw [hht,hjo];simp [hje])) (h.chg hf hM5) hf
theorem bFj {c:uM} {x:lT} {s:List Int} (h:WR w c i m) (hx:xR i m x) (hs:aO w sv s) (ks:sY s) (h8:s.length<=8)
  (hk:∀ v e w',((e≠0/\CG i m x s=none)\/(e=0/\∃ out,CG i m x s=some out/\w'.ownsRow w.heap.size 3 1 v out.length (out.map i64)))->aG w w'->K (.tuple #[v,i64 e]) w') :
  aB prog 118 #[.pointer (some ⟨c.gb,0,none⟩),.agg #[i64 x.op,i64 x.a,i64 x.b],sv] w K:=
 bMc h hx hs ks h8 (λout v w' h1 h2 x=>hk v 0 w' (.inr ⟨rfl,out,h1,h2⟩) x) λe w' h1 h2 x=>hk _ e w' (.inl ⟨h2,h1⟩) x
theorem Mem.todo {g1 g2 g3 B n:Nat} {st:St} (h:Mem g1 g2 g3 B w n st) (hn:n<=1000):gO w (.slice (some ⟨g3,0,none⟩) n n) st.todo:=by
 unfold gO;rw [h.l3];exact h.ts hn
theorem TQ {c:uM} {w':O} {e:Nat} {v:Y} {xs:List Y} (hf:Fr c.G w w') (ho:w.ownsRow c.B e sz v n xs) (h:c.g1 < c.B/\c.g2 < c.B/\c.g3 < c.B):w'.ownsRow c.B e sz v n xs:=
 hf.own ho λk hk=>by
  have:=(ho.lt k hk).1;rintro (e|e|e)<;>omega
theorem aGe {c:uM} (h:Wk w0 w c i m (St.ini m.code.length)) (ir:i.right) (mr:m.right)
  (yes:∀ st w',qO i m (some st)->Wk w0 w' c i m st->K (.tuple #[i64 0,i64 0]) w') (no:∀ pc e w',qO i m none->e≠0->aG w0 w'->K (.tuple #[i64 pc,i64 e]) w') :
  aB prog 58 #[.pointer (some ⟨c.gb,0,none⟩)] w K:=by
 have hn1:=mr.2.2.2.1.1;have hn2:=mr.2.2.2.1.2;have hn:m.code.length<=1000:=by omega
 apply bIe;unfold aAp;refine ⟨.inl ⟨_,rfl⟩,aRp h.boxed dX cC hU rfl ?_⟩;have hc:=h.codeAt;refine gE kQ hc ?_;refine ⟨λv w'=>∃ j:Nat,v=i64 j/\j<=m.code.length/\aG w w'/\∀ x∈m.code.take j,fL i m x,λv _=>m.code.length - (RowKit.intOf v).toNat,⟨0,rfl,Nat.zero_le _,aG.refl _,λ_ h=>by simp at h⟩,?_⟩;rintro _ w3 ⟨j,rfl,hj,x3,hnm⟩ _;refine aZ.2 (aC (λhlt=>?_) λhge=>?_)
 ·have hj':j < m.code.length:=by omega
  have hx:=qL hj';have hxm:=List.mem_of_getElem? hx;refine ldI (hc.ext x3) hx ?_;refine sG WL rfl rfl λb4 w4 hb4 x4=>?_;have hb4:bF w4 b4 [i64 (m.ins j).op,i64 (m.ins j).a,i64 (m.ins j).b]:=hb4;refine iC hb4 gS rfl ?_;refine (aHn (h.ext (x3.trans x4)).wr (mr.2.2.2.2 _ hxm)).mono λv w5 ⟨b,hv,hb,x5⟩=>?_;subst hv;have x35:=(x3.trans x4).trans x5;refine dO.2 ?_;cases b with
  | false=>simp only [aR];exact no _ 9 _ (.inl ⟨⟨_,hxm,λh=>by have:=hb.2 h;cases this⟩,rfl⟩) (by decide) (h.x.trans x35)
  | true=>
   simp only [aR];refine jS (by omega) ?_;refine ⟨⟨j+1,rfl,by omega,x35,λy hy=>?_⟩,by simp only [aK];omega⟩;rw [List.take_add_one,hx] at hy;rcases List.mem_append.1 hy with hy|hy
   ·exact hnm y hy
   ·simp at hy;subst hy;exact hb.1 rfl
 have hjl:j=m.code.length:=by omega
 subst hjl;rw [List.take_length] at hnm;have hox:∀ x∈m.code,xR i m x:=λx hx=>⟨ir,mr,mr.2.2.2.2 x hx,hnm x hx⟩;obtain ⟨wf0,inv0⟩:=zC (i:=i) hn1;have h3:=h.ext x3;refine XW (stack:=[]) h3 (bEm m) hn (Int.le_refl 0) (aA.nil _ _) (λ_ h=>by simp at h) (by simp) (λst1 w4 hg h4 _=>?_) λe w4 hg _ _=>by rw [NE hn1] at hg;cases hg
 rw [NE hn1] at hg;cases hg;generalize hnn:m.code.length=n at *;refine ⟨λw'=>∃ st,(Wk w0 w' c i m st/\WF m st/\ZA i m st/\∀ r,oO i m st r->oO i m (St.first n) r),λw'=>mu λq=>∃ st,(Wk w0 w' c i m st/\WF m st/\ZA i m st/\∀ r,oO i m st r->oO i m (St.first n) r)/\msr n st=q,⟨_,h4,wf0,inv0,λ_ h=>h⟩,?_⟩;rintro w9 ⟨st0,hst0⟩ _;obtain ⟨st,⟨hW,wf,inv,hR⟩,hmu⟩:=yO (p:=λq=>∃ st,(Wk w0 w9 c i m st/\WF m st/\ZA i m st/\∀ r,oO i m st r->oO i m (St.first n) r)/\msr n st=q) ⟨_,_,hst0,rfl⟩;clear hst0 st0;have hWk:∀ {r},oO i m st r->qO i m r:=λ{r} hr=>.inr ⟨hnm,by rw [hnn];exact hR r hr⟩;have hM:=hW.mem;rw [hnn] at hM;have hcc:c.cells i m=[.string i.name,c.p.fv,c.p.iv,c.p.mv,c.p.xv,c.pv,i64 m.result,c.lv,c.cv,c.loc,.slice (some ⟨c.g1,0,none⟩) n n,.slice (some ⟨c.g2,0,none⟩) n n,.slice (some ⟨c.g3,0,none⟩) n n]:=by unfold uM.cells;rw [hnn]
 have hbox:∀ {w'},bF w' c.gb (c.cells i m)->bF w' c.gb _:=λh=>hcc▸h;refine ⟨.inl ⟨_,rfl⟩,aV (hbox hW.boxed) eY oU rfl ?_⟩;refine aIw (hM.todo hn) (by rw [hM.l3];exact hn) (aZ.2 ?_);cases hfirst:nS st.todo with
 | none=>
  have e1:KD st.todo=-1:=by unfold KD;rw [hfirst]
  rw [e1];simp only [aR,Int.reduceLT,Int.reduceNeg];exact yes st _ (hWk (.done hfirst)) hW
 | some q=>
 have e1:KD st.todo=(q:Int):=by unfold KD;rw [hfirst]
 rw [e1];have hq0:¬ ((q:Int) < 0):=by omega
 simp only [hq0,aR];have htq:st.t q=true:=(sL hfirst).1;have hqn':q < n:=by have:=tZ htq;rw [hM.l3] at this;exact this
 have hhq:st.h q=true:=by
  cases e:st.h q with
  | true=>rfl
  | false=>have:=(wf.no q e).2;rw [htq] at this;cases this
 obtain ⟨hkd,hl8⟩:=wf.kd q hhq;have hxq:=qL (m:=m) (k:=q) (by omega);have ox:=hox _ (List.mem_of_getElem? hxq);refine ⟨.inl ⟨_,rfl⟩,aV (hbox hW.boxed) eY oU rfl ?_⟩;refine WH hO lE hM.s3 (n:=n) (by simpa using hM.l3) (by omega) (by omega) rfl ?_;rw [Int.toNat_natCast];have hM1:=hM.setT q false;have hf1:Fr c.G w9 (w9.setCell ⟨c.g3,q,none⟩ (.bool false)):=Fr.of_set (.inr (.inr rfl));have hW1:=hW.chg hf1 (by rw [hnn];exact hM1);generalize w9.setCell ⟨c.g3,q,none⟩ (.bool false)=w10 at hM1 hW1;have estep:uP i m st q=(CG i m (m.ins q) (st.s q)).bind λstack=>lX n stack (fN (m.ins q) q) { st with todo:=st.todo.set q false }:=by unfold uP;rw [hnn]
 generalize hst1:({ st with todo:=st.todo.set q false }:St)=st1 at hM1 hW1 estep;have es1:st1.s q=st.s q:=by rw [<- hst1];rfl
 refine ⟨.inl ⟨_,rfl⟩,aRp (hbox hW1.boxed) dX cC hU rfl ?_⟩;refine ldI hW1.codeAt hxq ?_;refine sG WL rfl rfl λb5 w11 hb5 x11=>?_;have hb5:bF w11 b5 [i64 (m.ins q).op,i64 (m.ins q).a,i64 (m.ins q).b]:=hb5;have D1:aG w11 w11.drew:=(aG.refl _).drew;have xd:=x11.trans D1;have hWd:=hW1.ext xd;have hW11:=hW1.ext x11;have hMd:=hWd.mem;rw [hnn] at hMd;obtain ⟨vs,v,hvs,hv,hov⟩:=hMd.ss hn hqn';rw [es1] at hov;refine aL.mk' (λw'=>aG w11.drew w') (aG.refl _) ?_;refine yA (λw' hw=>hb5.ext (D1.trans hw)) gS rfl ?_;refine ⟨.inl ⟨_,rfl⟩,iB (λw' hw=>hbox (hWd.boxed.ext hw)) dW HL rfl ?_⟩;refine nT pG bE hvs (λ_ h=>h) (by omega) (by omega) hv ?_;refine bFj hWd.wr ox (aA.of_own hov) hkd hl8 λv2 e2 w12 hdo x12=>?_;refine ⟨x12,aF.ok (λw' _=>nQ) (aF.ok (λw' _=>nP) ?_)⟩;refine iC (hb5.ext (D1.trans x12)) gS rfl ?_;refine aRi (x:=m.ins q) (pc:=q) (by omega) λtv w13 hot x13=>?_;have ht0:=XH ox (pc:=q);have hLl:(fN (m.ins q) q).length<=2:=HD _ _;generalize fN (m.ins q) q=L at hot ht0 estep hLl;have hW13:=hWd.ext (x12.trans x13);have hBo:=hMd.o;have hBd:c.B<=w11.drew.heap.size:=hBo.2.2.2.2;have hg3:c.g1 < c.B/\c.g2 < c.B/\c.g3 < c.B:=⟨hBo.2.1,hBo.2.2.1,hBo.2.2.2.1⟩;have hot:=aU hot (B':=c.B) (Nat.le_trans hBd x12.size)
 have wf1:WF m st1:=by
  rw [<- hst1];refine ⟨wf.l1,wf.l2,by simpa using wf.l3,wf.kd,λk hk=>⟨(wf.no k hk).1,?_⟩⟩;simp only [St.t,lK];split
  ·rfl
  ·exact (wf.no k hk).2
 have hdo':(e2≠0/\qO i m none/\aG w0 w13)\/(e2=0/\∃ out st',CG i m (m.ins q) (st.s q)=some out/\Wk w0 w13 c i m st'/\lX n out (L.take 0) st1=some st'/\w13.ownsRow c.B 3 1 v2 out.length (out.map i64)):=by
  rcases hdo with ⟨h1,h2⟩|⟨h1,out,h2,h3⟩
  ·exact .inl ⟨h1,hWk (.fail hfirst (by rw [estep,h2];rfl)),hW13.x⟩
  ·exact .inr ⟨h1,out,st1,h2,hW13,rfl,aU (x13.own h3) hBd⟩
 refine gE aP (aA.of_own hot) ?_;refine ⟨λev v w'=>∃ (j:Nat) (e:Int),v=i64 j/\ev=i64 e/\j<=L.length/\w'.ownsRow c.B 3 1 tv L.length (L.map i64)/\((e≠0/\qO i m none/\aG w0 w')\/(e=0/\∃ out st',CG i m (m.ins q) (st.s q)=some out/\Wk w0 w' c i m st'/\lX n out (L.take j) st1=some st'/\w'.ownsRow c.B 3 1 v2 out.length (out.map i64))),λ_ v _=>L.length - (RowKit.intOf v).toNat,⟨0,e2,rfl,rfl,Nat.zero_le _,hot,hdo'⟩,?_⟩;rintro _ _ w14 ⟨j,e,rfl,rfl,hj,hot4,hst⟩ _;refine aZ.2 (aC (λhlt=>?_) λhge=>?_)
 case refine_2=>
  have hjL:j=L.length:=by omega
  subst hjL;rw [List.take_length] at hst;refine cL.2 ?_;rcases hst with ⟨h1,h2,h3⟩|⟨h1,out,st',h2,h3,h4,_⟩
  ·simp only [h1,aR];exact no q e _ h2 h1 h3
  ·simp only [h1,aR];have es:uP i m st q=some st':=by rw [estep,h2];exact h4
   obtain ⟨s1,s2,s3⟩:=BX hox wf inv hfirst es;have hI:Wk w0 w14 c i m st'/\WF m st'/\ZA i m st'/\∀ r,oO i m st' r->oO i m (St.first n) r:=⟨h3,s1,s2,λr hr=>hR r (.go hfirst es hr)⟩;rw [hnn] at s3;exact ⟨⟨st',hI⟩,Nat.lt_of_le_of_lt (MP ⟨st',hI,rfl⟩) (Nat.lt_of_lt_of_eq s3 hmu)⟩
 obtain ⟨to,hto⟩:=bI (l:=L) (j:=j) (by omega);have hto0:=ht0 to (List.mem_of_getElem? hto);refine JT aP aE hot4 (by omega) (by omega) (cM hto) (aJ.2 ?_);rcases hst with ⟨h1,h2,h3⟩|⟨h1,out,st',h2,h3,h4,ho4⟩
 ·simp only [h1,aR];refine jS (by omega) ?_;exact ⟨⟨j+1,e,rfl,rfl,by omega,hot4,.inl ⟨h1,h2,h3⟩⟩,by simp only [aK];omega⟩
 ·simp only [h1,aR];obtain ⟨od1,od2,_,_⟩:=AO ox hkd h2;have wf':WF m st':=(zA od1 od2 wf1 (λto ht=>ht0 to (List.mem_of_mem_take ht)) (by rw [hnn];exact h4)).1;have hlo:=h3.lo;refine XW h3 wf' (by rw [hnn];exact hn) hto0 (aA.of_own ho4) od1 od2 (λst'' w15 hg h5 hf=>bJ.2 ?_) λe' w15 hg hne hf=>bJ.2 ?_
  ·rw [hnn] at hg;rw [aQ (by omega),bK];exact ⟨⟨j+1,0,rfl,rfl,by omega,TQ hf hot4 hg3,.inr ⟨rfl,out,st'',h2,h5,ES h4 hto hg,TQ hf ho4 hg3⟩⟩,by simp only [aK];omega⟩
  ·rw [hnn] at hg;rw [aQ (by omega),bK];refine ⟨⟨j+1,e',rfl,rfl,by omega,TQ hf hot4 hg3,.inl ⟨hne,hWk (.fail hfirst ?_),hf.ext h3.x λk hk=>?_⟩⟩,by simp only [aK];omega⟩
   ·rw [estep,h2];exact EU h4 hto hg
   ·rcases hk with rfl|rfl|rfl
    ·exact hlo.2.1
    ·exact hlo.2.2.1
    ·exact hlo.2.2.2
end Go.Proofs.YtjcmcfidblhnnaaGreatDoor
namespace Go.Vc
variable {P:Program} {w:O} {a:Addr} {x:Operand}
theorem aGx {s e:TypeId} (hs:P.underlying s=some (.pointer e)) (d:Nat):(Op.equalIn (d+1) s (.pointer (some a)) (Value.pointer none)).run P w=.ok false w:=by
 simp [Op.equalIn,run_underlying hs]
theorem aDa {s e:TypeId} (hs:P.underlying s=some (.pointer e)) (d:Nat):(Op.equalIn (d+1) s (Value.pointer none) (Value.pointer none)).run P w=.ok true w:=by
 simp [Op.equalIn,run_underlying hs]
theorem TM {s e:TypeId} (hs:P.underlying s=some (.pointer e)) {y:Operand} :
  (do eqGuard .eql s x y (.pointer (some a)) (Value.pointer none);binOp .eql s (.pointer (some a)) (Value.pointer none)).run P w=.ok (.bool false) w:=by
 simp [eqGuard,binOp,nA,aGx hs]
theorem MB {s e:TypeId} (hs:P.underlying s=some (.pointer e)) {y:Operand} :
  (do eqGuard .eql s x y (Value.pointer none) (Value.pointer none);binOp .eql s (Value.pointer none) (Value.pointer none)).run P w=.ok (.bool true) w:=by
 simp [eqGuard,binOp,nA,aDa hs]
end Go.Vc
namespace Go.Proofs.YtjcmcfidblhnnaaGreatDoor
open Tryz
open Go.Vc Go.Tc
variable {w:O} {K:Y->O->Prop}
variable {p:iE} {i:iA} {k:Int}
theorem GI (h:kF w p i) (hn:lO w i) (hb7:iA.rg i) (hk:∀ a b e w',(e=0↔mE i)->aG w w'->K (.tuple #[.agg #[i64 a,i64 b],i64 e]) w'):aB prog 28 #[p.val i] w K:=by
 apply bJg;unfold aBo iE.val;refine bx λb1 w1 hb1 x1=>?_;refine zU BM λw2 hB2 x2=>?_;have x12:=x1.trans x2;have hg:w.heap.size<=w1.heap.size:=x1.size;have hb1:=hb1.ext x2;generalize w1.heap.size=g at hB2 hg;have hB2:bO w2 g [i64 0,i64 0] 78:=hB2;refine iC hb1 kJ rfl ?_;refine (aGk (h.ext x12) hb7 (hn.ext x12)).mono λv w3 ⟨b,hv,hb,x3⟩=>?_;subst hv;have x13:=x12.trans x3
 have fin:∀ {w':O} {a b e:Int},bO w' g [i64 0,i64 0] 78->aG w w'->(e=0↔mE i)->U prog (Instr.storeAt 78 (.pointer (some ⟨g,0,none⟩)) (.agg #[i64 a,i64 b])) w' λ_ w7=>
   ∃ r1,(loadVar 78 (match (Value.pointer (some ⟨g,0,none⟩)) with|.pointer (some p)=>p|_=>⟨0,0,none⟩)).run prog w7=.ok r1 w7/\(∃ p,(Value.pointer (some ⟨g,0,none⟩))=Value.pointer (some p))/\K (.tuple #[r1,i64 e]) w7:=by
  intro w' a b e hB hx he;refine wR BM hB (l:=[i64 a,i64 b]) rfl rfl rfl rfl λw7 hB7 hc=>?_;exact ⟨_,oF underlying78 rfl BM hB7 rfl,⟨_,rfl⟩,hk a b e _ he (hc.ext _ hx hg)⟩
 refine dO.2 ?_;cases b with
 | false=>
  simp only [aR];refine lF IA [] rfl rfl ?_;exact fin (hB2.ext x3) x13 ⟨λh=>(by cases h),λh=>by have:=hb.2 h.1;cases this⟩
 | true=>
 simp only [aR];have ir:=hb.1 rfl;have hm8:=ir.2.2.1.1.2;refine aV (hb1.ext x3) bP dN rfl (yR iF (h.ext x13).mt ?_);refine ⟨λv w'=>∃ j:Nat,v=i64 j/\j<=i.methods.length/\aG w2 w'/\∀ q,q < j->∃ st,qO i (i.meth q) (some st),λv _=>i.methods.length - (RowKit.intOf v).toNat,⟨0,rfl,Nat.zero_le _,x3,λ_ h=>absurd h (Nat.not_lt_zero _)⟩,?_⟩;rintro _ w4 ⟨j,rfl,hj,x4,hall⟩ _;refine aZ.2 (aC (λhlt=>?_) λhge=>?_)
 ·refine iC (hb1.ext x4) kJ rfl ?_;have hmm:=gI (i:=i) (a:=(j:Int)) (by omega) (by omega);have mr:(i.meth j).right:=ir.2.2.1.2.1 _ (List.mem_of_getElem? hmm);refine HE ((h.ext x12).ext x4) ir (by omega) λw0 c w5 x40 hW x45=>?_;refine aGe hW ir mr (λst w6 hw hW6=>?_) λpc e w6 hw hne x6=>?_
  ·refine gR.2 (gQ.2 (cL.2 ?_));simp only [aR];refine bJ.2 ?_;rw [aQ (by omega)];refine ⟨⟨j+1,rfl,by omega,x4.trans (x40.trans hW6.x),λq hq=>?_⟩,by simp only [aK];omega⟩;by_cases hqj:q=j
   ·subst hqj;exact ⟨st,hw⟩
   ·exact hall q (by omega)
  ·refine gR.2 (gQ.2 (cL.2 ?_));simp only [hne,aR];refine lF IA [(0,i64 j),(1,i64 pc)] rfl rfl ?_;refine fin (hB2.ext (x4.trans (x40.trans x6))) ((x12.trans x4).trans (x40.trans x6)) ⟨λh=>absurd h hne,λht=>?_⟩;obtain ⟨s,hs⟩:=ht.2 _ (List.mem_of_getElem? hmm);have:=hs.det hw;cases this
 ·have hjl:j=i.methods.length:=by omega
  subst hjl;refine lF IA [] rfl rfl ?_;refine fin (hB2.ext x4) (x12.trans x4) ⟨λ_=>⟨ir,λm hm=>?_⟩,λ_=>rfl⟩;obtain ⟨q,hq⟩:=List.getElem?_of_mem hm;have hlt:=(List.getElem?_eq_some_iff.1 hq).1;have hmm:=gI (i:=i) (a:=(q:Int)) (by omega) (by omega);rw [Int.toNat_natCast,hq] at hmm;cases hmm;exact hall q hlt
theorem aFi (h:kF w p i) (hn:lO w i) (hb7:iA.rg i)
  (yes:∀ w0 c st w',mE i->0<=k->k < i.methods.length->qO i (i.meth k) (some st)->aG w w0->Wk w0 w' c i (i.meth k) st->K (.pointer (some ⟨c.gb,0,none⟩)) w')
  (no:∀ w',¬ (mE i/\0<=k/\k < i.methods.length)->aG w w'->K (Value.pointer none) w'):aB prog 51 #[p.val i,i64 k] w K:=by
 apply bIl;unfold aAv iE.val;refine bx λb1 w1 hb1 x1=>?_;refine iC hb1 kJ rfl ?_;refine GI (h.ext x1) (hn.ext x1) hb7 λa b e w2 he x2=>?_;refine gR.2 (gQ.2 ?_);refine sG LT rfl rfl λb3 w3 _ x3=>?_;have x13:=(x1.trans x2).trans x3;have hb1:=hb1.ext (x2.trans x3);refine cL.2 ?_;by_cases he0:e=0
 case neg=>
  simp only [he0,aR];exact no _ (λht=>he0 (he.2 ht.1)) x13
 have ht:=he.1 he0;by_cases hk0:k < 0
 ·simp only [he0,hk0,aR];exact no _ (λht=>by omega) x13
 simp only [he0,hk0,aR];refine aV hb1 bP dN rfl (yR iF (h.ext x13).mt (fK.2 ?_));by_cases hkl:(i.methods.length:Int)<=k
 ·simp only [hkl,aR];exact no _ (λht=>by omega) x13
 simp only [hkl,aR];obtain ⟨q,rfl⟩:∃ q:Nat,k=q:=⟨k.toNat,by omega⟩;have hmm:=gI (i:=i) (a:=(q:Int)) (by omega) (by omega);have mr:(i.meth q).right:=ht.1.2.2.1.2.1 _ (List.mem_of_getElem? hmm);refine iC hb1 kJ rfl ?_;refine HE (h.ext x13) ht.1 (by omega) λw0 c w5 x30 hW x35=>?_;refine aGe hW ht.1 mr (λst w6 hw hW6=>?_) λpc e' w6 hw hne x6=>?_
 ·exact yes w0 c st w6 ht (by omega) (by omega) hw (x13.trans x30) hW6
 ·obtain ⟨s,hs⟩:=ht.2 _ (List.mem_of_getElem? hmm);have:=hs.det hw;cases this
theorem aFt (h:kF w p i) (hn:lO w i) (hb7:iA.rg i)
  (yes:∀ st sv w',mE i->0<=k->k < i.methods.length->qO i (i.meth k) (some st)->rJ w' sv st.st->aG w w'->K (.tuple #[sv,.bool true]) w')
  (no:∀ w',¬ (mE i/\0<=k/\k < i.methods.length)->aG w w'->K (.tuple #[bC,.bool false]) w'):aB prog 24 #[p.val i,i64 k] w K:=by
 apply bJk;unfold aBr iE.val;refine bx λb1 w1 hb1 x1=>?_;refine iC hb1 kJ rfl ?_;refine aFi (h.ext x1) (hn.ext x1) hb7 (λw0 c st w2 ht h0 hk hw x2 hW=>?_) λw2 hne x2=>?_
 ·refine V.ok (TM underlying163) ?_;simp only [aR];refine ⟨.inl ⟨_,rfl⟩,aV hW.boxed dW HL rfl ?_⟩;have hm:=gI (i:=i) (a:=k) h0 hk;have mr:(i.meth k).right:=ht.1.2.2.1.2.1 _ (List.mem_of_getElem? hm);have:=mr.2.2.2.1.2;exact yes st _ _ ht h0 hk hw (hW.mem.states (by omega)) ((x1.trans x2).trans hW.x)
 ·refine V.ok (MB underlying163) ?_;simp only [aR];exact no _ hne (x1.trans x2)
end Go.Proofs.YtjcmcfidblhnnaaGreatDoor
namespace Go.Vc
section
variable {P:Program} {w:O} {K:Y->O->Prop}
theorem apG {t e by_ ty sz:Nat} {z:Y} (ht:P.underlying t=some (.slice e)) (hi:cZ P e z sz by_) (hz:(z.cells.size == sz)=true) (hsz:0 < sz) {B:Nat} {v:Y} {n:Nat} {xs:List Y} (ho:w.ownsRow B e sz v n xs) {x:Y} {m:Nat} {news:List Y} (hs:aA w x sz m news) (h1:news.all bX=true)
  (hb:(n+m)*by_<=140737488355328) (h63:n+m<=maxLen) (hB:B<=w.heap.size)
  (hk:∀ v' w',w'.ownsRow B e sz v' (n+m) (xs++news)->w.grownBy w' v.ownBlock->(v'.ownBlock=v.ownBlock\/v'.ownBlock=some w.heap.size)->K v' w') :
  V P (Builtin.append_ #[t,t] ty #[v,x]) w K:=by
 obtain ⟨i,hi',hz',hn,hby⟩:=info_parts hi;rcases hs.2 with ⟨rfl,rfl⟩|⟨b,off,cap,rfl,_,_,hc⟩
 ·have hnews:news=[]:=by have:=hs.1;simpa using this
  subst hnews;exact V.ok (run_append_owned_none w B t ty e i sz ht hi' v n xs ho) (hk _ _ (by simpa using ho) ⟨rfl,rfl,rfl,Nat.le_refl _,λ_ _ _=>rfl⟩ (.inl rfl))
 ·obtain ⟨v',w',hr,h2,h3,_,h5⟩:=run_append_own_at (P:=P) w B t ty e i z sz by_ ht hi' hz' hn hby (by simpa using hz) hsz v n xs ho ⟨b,off,none⟩ m cap news hs.1
   (λj u hj=>by rw [mA];exact hc j u hj) (λu hu=>by rw [CB];exact List.all_eq_true.1 h1 u hu) h63 hb hB
  exact V.ok hr (hk v' w' h2 h3 h5)
theorem xM {t e by_ sz:Nat} {z:Y} (ht:P.underlying t=some (.slice e)) (hi:cZ P e z sz by_) (hz:(z.cells.size == sz)=true) (hsz:0 < sz) (vs:List Y) {n:Nat} {parts:Array (Nat × Y)} (hn:n=vs.length) (hp:parts.toList=(vs.zipIdx 0).map λx=>(x.2,x.1)) (hc:∀ v∈vs,v.cells.size=sz)
  (h0:0 < n) (hl:n*sz<=16777216) (hk:∀ v w',w'.ownsRow w.heap.size e sz v n (vs.flatMap λv=>v.cells.toList)->aG w w'->K v w'):V P (Instr.buildSlice t n parts) w K:=by
 subst hn;obtain ⟨i,hi',hz',hn,hby⟩:=info_parts hi;have hz2:z.cells.size=sz:=by simpa using hz
 have hl1:vs.length<=vs.length*sz:=Nat.le_mul_of_pos_right _ hsz;have hf:=Go.Great.fill_whole hsz vs ((Array.range (vs.length*sz)).map (z.cells[· % z.cells.size]!)) hc (by simp)
 have hr:=run_buildSlice (P:=P) w t e vs.length parts _ i z ht hi' hz' (by rw [hn];omega) (by rw [hn];omega) (by rw [hn,hp];exact hf);refine V.ok hr (hk _ _ ?_ ((aG.refl w).alloc _))
 have hsize:((vs.flatMap λv=>v.cells.toList).toArray).size=vs.length*sz:=by
  clear hr hf hl hp h0 hl1 hk;simp only [List.size_toArray];induction vs with
  | nil=>simp
  | cons v l ih=>
   have h1:=hc v (by simp);have h2:=ih λu hu=>hc u (by simp [hu]);simp only [List.flatMap_cons,List.length_append,List.length_cons,Array.length_toList,h1,h2,Nat.add_mul];omega
 have:=World.ownsRow_lit (base:=w.heap.size) (e:=e) (size:=sz) w (vs.flatMap λv=>v.cells.toList).toArray vs.length (Nat.le_refl _) (by unfold maxLen;omega) hsize;simpa using this
theorem aRz {t e n by_:Nat} {z:Y} {k:IntKind} (ht:P.underlying t=some (.array n e)) (hi:cZ P e z 1 by_) (hd:P.underlying e=some (.int k)) {l:List Int} (hl:l.length=n) {i:Int} (h0:0<=i) (h1:i < n) (hk:∀ z∈l,K (i64 z) w) :
  V P (Instr.index t (.agg (l.map i64).toArray) (i64 i)) w K:=by
 have hlt:i.toNat < l.length:=by omega
 refine V.ok (bLd ht hi ⟨_,hd⟩ h0 h1 (u:=i64 l[i.toNat]) ?_ rfl) (hk _ (List.getElem_mem hlt));simp [hlt]
end
end Go.Vc
namespace Go.Proofs.YtjcmcfidblhnnaaGreatDoor
open Tryz
open Go.Vc Go.Tc
variable {w:O} {K:Y->O->Prop}
variable {d n n':Nat} {wb:O} {k:Int}
theorem iR {n m:Int} (hm:0 < m) (hm2:m<=4611686018427387904) (hk:∀ k,0<=k->k < m->K (i64 k) w):aB prog 16 #[i64 n,i64 m] w K:=by
 apply bJq;unfold aBy;refine rm hm λc _ h1 h2=>?_;refine aZ.2 (aC (λhlt=>?_) λhge=>?_)
 ·refine bJ.2 ?_;rw [aQ (by omega)];exact hk _ (by omega) (by omega)
 ·exact hk _ (by omega) h2
def qV (w:O):Prop:=∀ j,j < 12->∃ n,w.cell? ⟨0,j,none⟩=some (i64 n)
structure Mc where
 H:Nat->Prop
 B:Nat
 g:Nat
 nv:Y
 lv:Y
 nums:List Int
 loc:List Int
structure Mo (c:Mc) (wb:O):Prop where
 gB:c.g < c.B/\c.B<=wb.heap.size
 hH:∀ k,c.H k->k < wb.heap.size/\k≠c.g
 nums:∀ w,Fr (λk=>¬ c.H k) wb w->aO w c.nv c.nums
 loc:∀ w,Fr (λk=>¬ c.H k) wb w->aO w c.lv c.loc
 bins:∀ w,Fr (λk=>¬ c.H k) wb w->qV w
 ln:c.nums.length<=4611686018427387904
 ll:c.loc.length<=1000000
structure Mk (c:Mc) (wb w:O) (lo n d:Nat):Prop where
 o:Mo c wb
 fr:Fr (λk=>¬ c.H k) wb w
 at_:∃ (cv:Y) (code:List lT) (pos:Nat),bO w c.g [cv,c.nv,i64 pos,c.lv,i64 d] 195/\w.ownsRow c.B 88 3 cv code.length (oN code)/\lo<=code.length/\code.length<=n/\pos<=n/\(∀ x∈code,x.rg)/\∀ k,cv.ownBlock=some k->¬ c.H k
theorem Mk.mono {c:Mc} {lo lo':Nat} (h:Mk c wb w lo n d) (h1:lo'<=lo) (h2:n<=n'):Mk c wb w lo' n' d:=by
 obtain ⟨o,fr,cv,code,pos,a1,a2,a3,a4,a5,a6⟩:=h;exact ⟨o,fr,cv,code,pos,a1,a2,by omega,by omega,by omega,a6⟩
theorem Mk.up {c:Mc} {lo:Nat} (h:Mk c wb w lo n d) (h2:n<=n'):Mk c wb w 0 n' d:=h.mono (Nat.zero_le _) h2
theorem Mk.ext {c:Mc} {wb w':O} {lo n d:Nat} (h:Mk c wb w lo n d) (hx:aG w w'):Mk c wb w' lo n d:=by
 obtain ⟨o,fr,cv,code,pos,a1,a2,a3⟩:=h;exact ⟨o,fr.trans (Fr.of_ext hx) λ_ _ h=>h,cv,code,pos,a1.ext hx,hx.own a2,a3⟩
theorem Mk.numsAt {c:Mc} {lo:Nat} (h:Mk c wb w lo n d):aO w c.nv c.nums:=h.o.nums w h.fr
theorem Mk.locAt {c:Mc} {lo:Nat} (h:Mk c wb w lo n d):aO w c.lv c.loc:=h.o.loc w h.fr
theorem Mk.gH {c:Mc} {lo:Nat} (h:Mk c wb w lo n d):¬ c.H c.g:=λhg=>(h.o.hH _ hg).2 rfl
theorem ldD {c:Mc} {lo:Nat} (h:Mk c wb w lo n d) (hk:K (i64 (d:Nat)) w):V prog (Instr.fieldAt 195 (.pointer (some ⟨c.g,0,none⟩)) 4) w λq w1=>V prog (Instr.loadAt 3 q) w1 K:=by
 obtain ⟨cv,code,pos,a1,_⟩:=h.at_;exact aV (bO.boxed a1) iK aE rfl hk
theorem stD {c:Mc} {lo d':Nat} {K':O->Prop} (h:Mk c wb w lo n d) (hk:∀ w',Mk c wb w' lo n d'->K' w'):V prog (Instr.fieldAt 195 (.pointer (some ⟨c.g,0,none⟩)) 4) w λq w1=>U prog (Instr.storeAt 3 q (i64 (d':Nat))) w1 λ_ w2=>K' w2:=by
 have hg:=h.gH;obtain ⟨o,fr,cv,code,pos,a1,a2,a3⟩:=h;refine FZ iK bT a1 (n:=5) rfl (by decide) rfl (hk _ ⟨o,fr.set hg,cv,code,pos,a1.set 4 _,?_,a3⟩);exact (Fr.of_set (S:=λi=>i=c.g) rfl).own a2 λk hk he=>by have:=(a2.lt k hk).1;have:=o.gB.1;omega
theorem aDu (l:List lT) (x:lT):oN (l++[x])=oN l++[i64 x.op,i64 x.a,i64 x.b]:=by simp [oN]
theorem gZ {c:Mc} {lo:Nat} {op a b:Int} (h:Mk c wb w lo n d) (hn:n<=1000000) (hk:∀ w',Mk c wb w' 1 (n+1) d->K (.tuple #[]) w') (hb:-9223372036854775808<=b/\b<=9223372036854775807:=by decide) :
  aB prog 89 #[.pointer (some ⟨c.g,0,none⟩),i64 op,i64 a,i64 b] w K:=by
 have hg:=h.gH;obtain ⟨o,fr,cv,code,pos,a1,a2,a3,a4,a5,a6,a7⟩:=h;have hgB:=o.gB;apply bGz;unfold ZK;refine ⟨.inl ⟨_,rfl⟩,aV (bO.boxed a1) dC hU rfl ?_⟩;refine lF OC [(0,i64 op),(1,i64 a),(2,i64 b)] rfl rfl ?_;refine xM underlying36 uY rfl (by decide) [.agg #[i64 op,i64 a,i64 b]] rfl rfl (by intro v hv;rw [List.mem_singleton] at hv;subst hv;rfl) (by decide) (by decide) λuv w5 ho5 x5=>?_;refine apG underlying36 uY rfl (by decide) (x5.own a2) (aA.of_own ho5) (by rfl) (by omega) (by unfold maxLen;omega) (Nat.le_trans hgB.2 (fr.trans (Fr.of_ext x5) λ_ _ h=>h).size) λv6 w6 ho6 hg6 hl6=>?_;have a1':bO w6 c.g _ _:=(Fr.of_grown (S:=λk=>cv.ownBlock=some k) hg6 λk hk=>hk).blk (a1.ext x5) λhk=>by have:=(a2.lt _ hk).1;omega
 have fr6:Fr (λk=>¬ c.H k) wb w6:=(fr.trans (Fr.of_ext x5) λ_ _ h=>h).trans (Fr.of_grown (S:=λk=>¬ c.H k) hg6 λk hk=>a7 k hk) λ_ _ h=>h;have e6:oN code++[Value.agg #[i64 op,i64 a,i64 b]].flatMap (λv=>v.cells.toList)=oN (code++[⟨op,a,b⟩]):=by rw [aDu];rfl
 rw [e6] at ho6;refine ⟨.inl ⟨_,rfl⟩,FZ dC NH a1' (n:=5) rfl (by decide) (fV ho6) (hk _ ⟨o,fr6.set hg,v6,code++[⟨op,a,b⟩],pos,a1'.set 0 _,?_,by simp,by simp;omega,by omega,λx hx=>?_,λk hk=>?_⟩)⟩
 ·rw [List.length_append];exact (Fr.of_set (S:=λi=>i=c.g) rfl).own ho6 λk hk he=>by have:=(ho6.lt k hk).1;omega
 ·rcases List.mem_append.1 hx with hx|hx
  ·exact a6 x hx
  ·rw [List.mem_singleton] at hx;subst hx;exact hb
 ·rcases hl6 with h6|h6
  ·rw [h6] at hk;exact a7 k hk
  ·rw [h6] at hk;cases hk;intro hH;have h1:=(o.hH _ hH).1;have h2:=fr.size;have h3:=x5.size;omega
theorem kN {c:Mc} {lo:Nat} (h:Mk c wb w lo n d) (hn:n<=1000000) (hk:∀ z w',Mk c wb w' lo (n+1) d->Fr (λk=>k=c.g) w w'->K (i64 z) w') :
  aB prog 188 #[.pointer (some ⟨c.g,0,none⟩)] w K:=by
 have hg:=h.gH;have hnum:=h.numsAt;have h0:=h;obtain ⟨o,fr,cv,code,pos,a1,a2,a3,a4,a5,a6⟩:=h;have hgB:=o.gB;have hln:=o.ln;apply aXe;unfold PV;refine ⟨.inl ⟨_,rfl⟩,aV (bO.boxed a1) fQ bE rfl (gE aP hnum (aJ.2 (aC (λhz=>?_) λhz=>?_)))⟩
 ·exact hk 0 w (h0.mono (Nat.le_refl _) (by omega)) (Fr.refl _ _)
 refine ⟨.inl ⟨_,rfl⟩,aV (bO.boxed a1) gM aE rfl (bJ.2 ?_)⟩;rw [aQ (by omega),bK];refine ⟨.inl ⟨_,rfl⟩,FZ gM bT a1 (n:=5) rfl (by decide) rfl ?_⟩;have hset:Fr (λk=>k=c.g) w (w.setCell ⟨c.g,2,none⟩ (i64 ((pos+1:Nat):Int))):=Fr.of_set rfl
 have hm:Mk c wb (w.setCell ⟨c.g,2,none⟩ (i64 ((pos+1:Nat):Int))) lo (n+1) d:=by
  refine ⟨o,fr.set hg,cv,code,pos+1,a1.set 2 _,?_,a3,by omega,by omega,a6⟩;exact hset.own a2 λk hk he=>by have:=(a2.lt k hk).1;omega
 have a1s:=a1.set 2 (i64 ((pos+1:Nat):Int));generalize w.setCell ⟨c.g,2,none⟩ (i64 ((pos+1:Nat):Int))=w2 at hset hm a1s;have D1:aG w2 w2.drew:=(aG.refl _).drew;have hbx:∀ w',aG w2.drew w'->bF w' c.g [cv,c.nv,i64 ((pos+1:Nat):Int),c.lv,i64 d]:=λw' hx=>bO.boxed (a1s.ext (D1.trans hx));have hnum2:=(hm.ext D1).numsAt;have hlen:0 < c.nums.length:=by omega
 refine aL.mk' (λw'=>aG w2.drew w') (aG.refl _) ?_;refine ⟨.inl ⟨_,rfl⟩,iB hbx fQ bE rfl ?_⟩;refine ⟨.inl ⟨_,rfl⟩,iB hbx gM aE rfl ?_⟩;refine ⟨.inl ⟨_,rfl⟩,iB hbx fQ bE rfl (sZ aP hnum2 ?_)⟩;refine aF.ok (λw' _=>aGq (by omega)) ?_
 have e1:(((pos+1:Nat):Int)).tmod (c.nums.length:Int)=(((pos+1) % c.nums.length:Nat):Int):=by
  rw [Int.tmod_eq_emod_of_nonneg (by omega)];rfl
 rw [e1];have hlt:=Nat.mod_lt (pos+1) hlen;refine nT aP aE hnum2 (λ_ h=>h) (by omega) (by omega) (cM (lQ hlt)) ?_;refine ⟨.inl ⟨_,rfl⟩,iB hbx gM aE rfl ?_⟩;refine ⟨.inl ⟨_,rfl⟩,iB hbx fQ bE rfl (sZ aP hnum2 ?_)⟩;refine aF.ok (λw' _=>WM (by omega)) (aF.ok (λw' _=>ME) ?_);exact hk _ _ (hm.ext D1) (hset.trans (Fr.of_ext D1) λ_ _ h=>h)
theorem yQ {c:Mc} {lo:Nat} (h:Mk c wb w lo n d) (hn:n<=1000000) (hk:∀ z b w',Mk c wb w' lo (n+1) d->K (.tuple #[i64 z,.bool b]) w') :
  aB prog 189 #[.pointer (some ⟨c.g,0,none⟩),i64 k] w K:=by
 have hgB:=h.o.gB;have hsz:=h.fr.size;have hll:=h.o.ll;apply aXd;unfold PU;refine ⟨λsv v w'=>∃ (j:Nat) (l:List Int),v=i64 j/\j<=c.loc.length/\l.length<=j/\aG w w'/\w'.ownsRow w.heap.size 3 1 sv l.length (l.map i64),λ_ v _=>c.loc.length - (RowKit.intOf v).toNat,⟨0,[],rfl,Nat.zero_le _,Nat.le_refl _,aG.refl _,World.ownsRow_nil _ _ _ _⟩,?_⟩;rintro sv _ w1 ⟨j,l,rfl,hj,hl,x1,ho⟩ _;have h1:=h.ext x1;obtain ⟨o,fr,cv,code,pos,a1,a2,_⟩:=h1;have hloc:=o.loc _ fr;refine ⟨.inl ⟨_,rfl⟩,aV (bO.boxed a1) gD bE rfl (gE aP hloc (aZ.2 (aC (λhlt=>?_) λhge=>?_)))⟩
 ·refine ⟨.inl ⟨_,rfl⟩,aV (bO.boxed a1) gD bE rfl ?_⟩;refine mH aP aE hloc (by omega) (by omega) (cM (lQ (l:=c.loc) (j:=j) (by omega))) (aJ.2 (aC (λhe=>?_) λhe=>?_))
  ·refine jG bB [i64 j] rfl rfl (by simp) rfl λv2 w2 ho2 x2=>?_;refine LD bB (x2.own ho) (aA.of_own ho2) rfl (by omega) (by unfold maxLen;omega) (x1.trans x2).size λv3 w3 ho3 hg3=>?_;refine jS (by omega) ?_;exact ⟨⟨j+1,l++[(j:Int)],rfl,by omega,by simp;omega,(x1.trans x2).grown hg3 λq hq=>((x2.own ho).lt q hq).1,by simpa using ho3⟩,by simp only [aK];omega⟩
  ·refine jS (by omega) ?_;exact ⟨⟨j+1,l,rfl,by omega,by omega,x1,ho⟩,by simp only [aK];omega⟩
 refine gE aP (aA.of_own ho) (aJ.2 (aC (λhz=>?_) λhz=>?_))
 ·exact hk _ _ _ ((h.ext x1).mono (Nat.le_refl _) (by omega))
 refine kN (h.ext x1) hn λz w2 h2 f2=>?_;have ho2:=f2.own ho λq hq he=>by have:=(ho.lt q hq).1;omega
 refine gE aP (aA.of_own ho2) (iR (by omega) (by omega) λq hq0 hq1=>?_);obtain ⟨r,rfl⟩:∃ r:Nat,q=r:=⟨q.toNat,by omega⟩;refine JT aP aE ho2 (by omega) (by omega) (cM (lQ (by omega))) ?_;exact hk _ _ _ h2
theorem wL {c:Mc} {lo:Nat} (h:Mk c wb w lo n d) (hn:n<=900000) (hk:∀ w',Mk c wb w' 0 (n+6) d->K (.tuple #[]) w') :
  aB prog 138 #[.pointer (some ⟨c.g,0,none⟩),i64 k] w K:=by
 apply aZg;unfold RS;refine kN h (by omega) λz w1 h1 _=>?_;refine iR (by decide) (by decide) λq hq0 hq1=>?_;have hc:q=0\/q=1\/q=2\/q=3\/q=4\/q=5:=by omega
 rcases hc with rfl|rfl|rfl|rfl|rfl|rfl
 case inl|inr.inl=>
  all_goals
   simp only [aR,Int.reduceEq]
   try intro _
   refine yQ h1 (by omega) λz b w2 h2=>?_;refine gR.2 (gQ.2 ?_);cases b with
   | true=>
    refine bH.2 ?_;exact gZ h2 (by omega) λw3 h3=>hk _ (h3.up (by omega))
   | false=>
    refine aM.2 ?_;exact gZ h2 (by omega) λw3 h3=>hk _ (h3.up (by omega))
 case inr.inr.inl|inr.inr.inr.inl=>
  all_goals
   simp only [aR,Int.reduceEq]
   intros
   refine fT.2 ?_;refine bJ.2 ?_;exact gZ h1 (by omega) λw3 h3=>hk _ (h3.up (by omega))
 ·simp only [aR,Int.reduceEq]
  intros
  refine fT.2 ?_;exact gZ h1 (by omega) λw3 h3=>hk _ (h3.up (by omega))
 ·simp only [aR,Int.reduceEq]
  intros
  refine kN h1 (by omega) λz w2 h2 _=>?_;refine iR (by decide) (by decide) λq hq0 hq1=>?_;refine gZ h2 (by omega) λw3 h3=>?_;refine V.ok (w':=w3) (v:=.agg (([0,1,2,4,5,6]:List Int).map i64).toArray) (by kernel_rfl) ?_;refine kN h3 (by omega) λz w4 h4 _=>?_;refine iR (by decide) (by decide) λq hq0 hq1=>?_;refine aRz underlying270 bT underlying3 (by decide) hq0 (by simpa using hq1) λu hu=>?_;refine gZ h4 (by omega) (λw5 h5=>hk _ (h5.up (by omega))) ?_;simp at hu;omega
end Go.Proofs.YtjcmcfidblhnnaaGreatDoor
namespace Go.Vc
theorem aSm {P:Program} {w:O} {K:Y->O->Prop} {t:TypeId} {parts:Array (Nat × Y)} {v:Y} (h:∀ w,(Instr.build t parts).run P w=.ok v w) (hk:K v w):V P (Instr.build t parts) w K:=V.ok (h w) hk
end Go.Vc
namespace Go.Proofs.YtjcmcfidblhnnaaGreatDoor
open Tryz
open Go.Vc Go.Tc
variable {w:O} {K:Y->O->Prop}
variable {d k n:Nat} {wb:O}
def wM (d k:Nat):Prop:=∀ {c:Mc} {wb w:O} {lo n:Nat} {K:Y->O->Prop},Mk c wb w lo n d->n+k<=800000->(∀ w',Mk c wb w' 0 (n+k) d->K (.tuple #[]) w')->aB prog 140 #[.pointer (some ⟨c.g,0,none⟩)] w K
def zO (d k:Nat):Prop:=∀ {c:Mc} {wb w:O} {lo n:Nat} {K:Y->O->Prop},Mk c wb w lo n d->n+k<=800000->(∀ w',Mk c wb w' 0 (n+k) d->K (.tuple #[]) w')->aB prog 141 #[.pointer (some ⟨c.g,0,none⟩)] w K
theorem oV (hp:wM d k) (hk2:2<=k) {c:Mc} {lo:Nat} (h:Mk c wb w lo n d) (hn:n+k+1<=800000) (hk:∀ w',Mk c wb w' 0 (n+k+1) d->K (.tuple #[]) w') :
  aB prog 139 #[.pointer (some ⟨c.g,0,none⟩)] w K:=by
 apply aZf;unfold RR;refine kN h (by omega) λz w1 h1 _=>?_;refine iR (by decide) (by decide) λq hq0 hq1=>?_;refine aJ.2 (aC (λhe=>?_) λhe=>?_)
 ·exact hp h1 (by omega) λw2 h2=>hk _ (h2.up (by omega))
 ·refine kN h1 (by omega) λz w2 h2 _=>?_;refine iR (by decide) (by decide) λq hq0 hq1=>?_;exact gZ h2 (by omega) λw3 h3=>hk _ (h3.up (by omega))
theorem aId {c:Mc} {lo:Nat} {i:Int} (h:Mk c wb w lo n d) (h0:0<=i) (h1:i < 12) (hk:∀ z,K (i64 z) w) :
  V prog (Instr.indexAt 272 (.pointer (some ⟨0,0,none⟩)) (i64 i)) w λp w1=>V prog (Instr.loadAt 3 p) w1 K:=by
 refine V.ok (WS underlying272 bT h0 (by simpa using h1)) ?_;obtain ⟨op,hop⟩:=h.o.bins _ h.fr i.toNat (by omega);exact V.ok (aGt (by rw [Nat.zero_add];exact hop)) (hk _)
theorem CA (h20:20<=k) (hd:d<=3) (hs:d < 3->∃ k',wM (d+1) k'/\zO (d+1) k'/\20<=k'/\k=3*k'+20):wM d k:=by
 intro c wb w lo n K h hn hk;apply aZd;unfold RQ;refine ⟨.inl ⟨_,rfl⟩,ldD h (bJ.2 ?_)⟩;rw [aQ (by omega),bK];refine ⟨.inl ⟨_,rfl⟩,stD h λw1 h1=>?_⟩;refine kN h1 (by omega) λz0 w2 hh0 _=>?_;refine iR (by decide) (by decide) λq hq0 hq1=>?_;refine ⟨λv w'=>∃ z,v=i64 z/\w'=w2/\0<=z/\z < 12/\(d=3->z < 3),?_,?_⟩
 ·refine ⟨.inl ⟨_,rfl⟩,ldD hh0 (jF.2 (aC (λhg=>?_) λhg=>?_))⟩
  ·refine rm (by decide) λe he h1 h2=>⟨e,rfl,rfl,?_,by omega,λ_=>by omega⟩;rw [he];exact Int.tmod_nonneg _ hq0
  ·exact ⟨q,rfl,rfl,hq0,hq1,λ_=>by omega⟩
 rintro _ _ ⟨z,rfl,rfl,hz0,hz1,hleaf⟩ _;refine ⟨λw'=>Mk c wb w' 0 (n+k) (d+1),?_,?_⟩
 case refine_2=>
  intro w3 h3 _;refine ⟨.inl ⟨_,rfl⟩,ldD h3 (fT.2 ?_)⟩;rw [aQ (by omega),show ((d+1:Nat):Int) - 1=((d:Nat):Int) by omega];exact ⟨.inl ⟨_,rfl⟩,stD h3 λw4 h4=>hk _ h4⟩
 have hc:z=0\/z=1\/z=2\/z=3\/z=4\/z=5\/z=6\/z=7\/z=8\/z=9\/z=10\/z=11:=by omega
 have hdeep:3<=z->∃ k',wM (d+1) k'/\zO (d+1) k'/\20<=k'/\k=3*k'+20:=λhz=>hs (by omega);rcases hc with rfl|rfl|rfl|rfl|rfl|rfl|rfl|rfl|rfl|rfl|rfl|rfl
 iterate 2
  ·simp only [aR,Int.reduceEq,Int.reduceNeg]
   intros
   refine aSm (v:=.agg (([0,1,2,3,7,-1,64,1073741824]:List Int).map i64).toArray) (λw=>by kernel_rfl) ?_;refine kN hh0 (by omega) λz w1 hh1 _=>?_;refine iR (by decide) (by decide) λq hq0 hq1=>?_;refine aRz underlying271 bT underlying3 (by decide) hq0 (by simpa using hq1) λu hu=>?_;refine gZ hh1 (by omega) λw1 hh2=>?_;exact hh2.up (by omega)
 ·simp only [aR,Int.reduceEq,Int.reduceNeg]
  intros
  refine yQ hh0 (by omega) λz b w1 hh1=>?_;refine gR.2 (gQ.2 ?_);cases b with
  | true=>
   refine bH.2 ?_;refine gZ hh1 (by omega) λw1 hh2=>?_;exact hh2.up (by omega)
  | false=>
   refine aM.2 ?_;refine kN hh1 (by omega) λz w1 hh2 _=>?_;refine rm (by decide) λe _ _ _=>?_;refine gZ hh2 (by omega) λw1 hh3=>?_;exact hh3.up (by omega)
 ·simp only [aR,Int.reduceEq,Int.reduceNeg]
  intros
  obtain ⟨k2,hpub,hsec,h21,hk3⟩:=hdeep (by decide);refine yQ hh0 (by omega) λz b w1 hh1=>?_;refine gR.2 (gQ.2 ?_);cases b with
  | true=>
   refine bH.2 ?_;refine gZ hh1 (by omega) λw1 hh2=>?_;exact hh2.up (by omega)
  | false=>
   refine aM.2 ?_;refine kN hh1 (by omega) λz w1 hh2 _=>?_;refine rm (by decide) λe _ _ _=>?_;refine gZ hh2 (by omega) λw1 hh3=>?_;exact hh3.up (by omega)
 iterate 3
  ·simp only [aR,Int.reduceEq,Int.reduceNeg]
   intros
   obtain ⟨k2,hpub,hsec,h21,hk3⟩:=hdeep (by decide);refine hpub hh0 (by omega) λw1 hh1=>?_;refine hpub hh1 (by omega) λw1 hh2=>?_;refine kN hh2 (by omega) λz w1 hh3 _=>?_;refine iR (by decide) (by decide) λq hq0 hq1=>?_;refine aId hh3 hq0 hq1 λu=>?_;refine gZ hh3 (by omega) λw1 hh4=>?_;exact hh4.up (by omega)
 ·simp only [aR,Int.reduceEq,Int.reduceNeg]
  intros
  obtain ⟨k2,hpub,hsec,h21,hk3⟩:=hdeep (by decide);refine kN hh0 (by omega) λz w1 hh1 _=>?_;refine iR (by decide) (by decide) λq hq0 hq1=>?_;refine bJ.2 ?_;refine gZ hh1 (by omega) λw1 hh2=>?_;refine gZ hh2 (by omega) λw1 hh3=>?_;exact hh3.up (by omega)
 ·simp only [aR,Int.reduceEq,Int.reduceNeg]
  intros
  obtain ⟨k2,hpub,hsec,h21,hk3⟩:=hdeep (by decide);refine hpub hh0 (by omega) λw1 hh1=>?_;refine hpub hh1 (by omega) λw1 hh2=>?_;refine aSm (v:=.agg (([17,18]:List Int).map i64).toArray) (λw=>by kernel_rfl) ?_;refine kN hh2 (by omega) λz w1 hh3 _=>?_;refine iR (by decide) (by decide) λq hq0 hq1=>?_;refine aRz underlying273 bT underlying3 (by decide) hq0 (by simpa using hq1) λu hu=>?_;refine gZ hh3 (by omega) λw1 hh4=>?_;exact hh4.up (by omega)
 ·simp only [aR,Int.reduceEq,Int.reduceNeg]
  intros
  obtain ⟨k2,hpub,hsec,h21,hk3⟩:=hdeep (by decide);refine wL hh0 (by omega) λw1 hh1=>?_;refine oV hpub (by omega) hh1 (by omega) λw1 hh2=>?_;refine gZ hh2 (by omega) λw1 hh3=>?_;exact hh3.up (by omega)
 ·simp only [aR,Int.reduceEq,Int.reduceNeg]
  intros
  obtain ⟨k2,hpub,hsec,h21,hk3⟩:=hdeep (by decide);refine hpub hh0 (by omega) λw1 hh1=>?_;refine aSm (v:=.agg (([15,16,15]:List Int).map i64).toArray) (λw=>by kernel_rfl) ?_;refine kN hh1 (by omega) λz w1 hh2 _=>?_;refine iR (by decide) (by decide) λq hq0 hq1=>?_;refine aRz underlying274 bT underlying3 (by decide) hq0 (by simpa using hq1) λu hu=>?_;refine gZ hh2 (by omega) λw1 hh3=>?_;exact hh3.up (by omega)
 ·simp only [aR,Int.reduceEq,Int.reduceNeg]
  intros
  obtain ⟨k2,hpub,hsec,h21,hk3⟩:=hdeep (by decide);refine kN hh0 (by omega) λz w1 hh1 _=>?_;refine iR (by decide) (by decide) λq hq0 hq1=>?_;refine bJ.2 ?_;refine wL hh1 (by omega) λw1 hh2=>?_;refine gZ hh2 (by omega) λw1 hh3=>?_;exact hh3.up (by omega)
theorem BZ (h20:20<=k) (hd:d<=3) (hs:d < 3->∃ k',wM (d+1) k'/\zO (d+1) k'/\20<=k'/\k=3*k'+20):zO d k:=by
 intro c wb w lo n K h hn hk;apply aZc;unfold RP;refine ⟨.inl ⟨_,rfl⟩,ldD h (bJ.2 ?_)⟩;rw [aQ (by omega),bK];refine ⟨.inl ⟨_,rfl⟩,stD h λw1 h1=>?_⟩;refine kN h1 (by omega) λz0 w2 hh0 _=>?_;refine iR (by decide) (by decide) λq hq0 hq1=>?_;refine ⟨λv w'=>∃ z,v=i64 z/\w'=w2/\0<=z/\z < 9/\(d=3->z < 2),?_,?_⟩
 ·refine ⟨.inl ⟨_,rfl⟩,ldD hh0 (jF.2 (aC (λhg=>?_) λhg=>?_))⟩
  ·refine rm (by decide) λe he h1 h2=>⟨e,rfl,rfl,?_,by omega,λ_=>by omega⟩;rw [he];exact Int.tmod_nonneg _ hq0
  ·exact ⟨q,rfl,rfl,hq0,hq1,λ_=>by omega⟩
 rintro _ _ ⟨z,rfl,rfl,hz0,hz1,hleaf⟩ _;refine ⟨λw'=>Mk c wb w' 0 (n+k) (d+1),?_,?_⟩
 case refine_2=>
  intro w3 h3 _;refine ⟨.inl ⟨_,rfl⟩,ldD h3 (fT.2 ?_)⟩;rw [aQ (by omega),show ((d+1:Nat):Int) - 1=((d:Nat):Int) by omega];exact ⟨.inl ⟨_,rfl⟩,stD h3 λw4 h4=>hk _ h4⟩
 have hc:z=0\/z=1\/z=2\/z=3\/z=4\/z=5\/z=6\/z=7\/z=8:=by omega
 have hdeep:2<=z->∃ k',wM (d+1) k'/\zO (d+1) k'/\20<=k'/\k=3*k'+20:=λhz=>hs (by omega);rcases hc with rfl|rfl|rfl|rfl|rfl|rfl|rfl|rfl|rfl
 ·simp only [aR,Int.reduceEq]
  intros
  refine yQ hh0 (by omega) λz b w1 hh1=>?_;refine gR.2 (gQ.2 ?_);cases b with
  | true=>
   refine bH.2 ?_;refine gZ hh1 (by omega) λw1 hh2=>?_;exact hh2.up (by omega)
  | false=>
   refine aM.2 ?_;refine gZ hh1 (by omega) λw1 hh2=>?_;exact hh2.up (by omega)
 ·simp only [aR,Int.reduceEq]
  intros
  refine kN hh0 (by omega) λz w1 hh1 _=>?_;refine rm (by decide) λe _ _ _=>?_;refine gZ hh1 (by omega) λw1 hh2=>?_;exact hh2.up (by omega)
 iterate 2
  ·simp only [aR,Int.reduceEq]
   intros
   obtain ⟨k2,hpub,hsec,h21,hk3⟩:=hdeep (by decide);refine hsec hh0 (by omega) λw1 hh1=>?_;refine hsec hh1 (by omega) λw1 hh2=>?_;refine kN hh2 (by omega) λz w1 hh3 _=>?_;refine iR (by decide) (by decide) λq hq0 hq1=>?_;refine aId hh3 hq0 hq1 λu=>?_;refine gZ hh3 (by omega) λw1 hh4=>?_;exact hh4.up (by omega)
 iterate 2
  ·simp only [aR,Int.reduceEq]
   intros
   obtain ⟨k2,hpub,hsec,h21,hk3⟩:=hdeep (by decide);refine wL hh0 (by omega) λw1 hh1=>?_;refine oV hpub (by omega) hh1 (by omega) λw1 hh2=>?_;refine gZ hh2 (by omega) λw1 hh3=>?_;exact hh3.up (by omega)
 ·simp only [aR,Int.reduceEq]
  intros
  obtain ⟨k2,hpub,hsec,h21,hk3⟩:=hdeep (by decide);refine hsec hh0 (by omega) λw1 hh1=>?_;refine hsec hh1 (by omega) λw1 hh2=>?_;refine hsec hh2 (by omega) λw1 hh3=>?_;refine gZ hh3 (by omega) λw1 hh4=>?_;exact hh4.up (by omega)
 ·simp only [aR,Int.reduceEq]
  intros
  obtain ⟨k2,hpub,hsec,h21,hk3⟩:=hdeep (by decide);refine wL hh0 (by omega) λw1 hh1=>?_;refine oV hpub (by omega) hh1 (by omega) λw1 hh2=>?_;refine kN hh2 (by omega) λz w1 hh3 _=>?_;refine iR (by decide) (by decide) λq hq0 hq1=>?_;refine bJ.2 ?_;refine wL hh3 (by omega) λw1 hh4=>?_;refine oV hpub (by omega) hh4 (by omega) λw1 hh5=>?_;refine oV hpub (by omega) hh5 (by omega) λw1 hh6=>?_;refine gZ hh6 (by omega) λw1 hh7=>?_;exact hh7.up (by omega)
 ·simp only [aR,Int.reduceEq]
  intros
  obtain ⟨k2,hpub,hsec,h21,hk3⟩:=hdeep (by decide);refine gZ hh0 (by omega) λw1 hh1=>?_;exact hh1.up (by omega)
theorem YN:wM 3 20/\zO 3 20:=⟨CA (by omega) (by omega) λh=>by omega,BZ (by omega) (by omega) λh=>by omega⟩
theorem YO:wM 2 80/\zO 2 80:=⟨CA (by omega) (by omega) λ_=>⟨20,YN.1,YN.2,by omega,by omega⟩,BZ (by omega) (by omega) λ_=>⟨20,YN.1,YN.2,by omega,by omega⟩⟩
theorem YP:wM 1 260/\zO 1 260:=⟨CA (by omega) (by omega) λ_=>⟨80,YO.1,YO.2,by omega,by omega⟩,BZ (by omega) (by omega) λ_=>⟨80,YO.1,YO.2,by omega,by omega⟩⟩
theorem wK:wM 0 800/\zO 0 800:=⟨CA (by omega) (by omega) λ_=>⟨260,YP.1,YP.2,by omega,by omega⟩,BZ (by omega) (by omega) λ_=>⟨260,YP.1,YP.2,by omega,by omega⟩⟩
theorem IH {c:Mc} {lo:Nat} {k:Int} (h:Mk c wb w lo n 0) (hn:n+800<=800000) (hk:∀ w',Mk c wb w' 0 (n+800) 0->K (.tuple #[]) w') :
  aB prog 88 #[.pointer (some ⟨c.g,0,none⟩),i64 k] w K:=by
 apply bHa;unfold ZL;refine aJ.2 (aC (λh1=>?_) λh1=>aJ.2 (aC (λh2=>?_) λh2=>?_))
 ·exact wK.1 h hn hk
 ·exact wK.2 h hn hk
 ·exact wL h (by omega) λw1 h1=>hk _ (h1.up (by omega))
end Go.Proofs.YtjcmcfidblhnnaaGreatDoor
namespace Go.Tc
theorem yC {α:Type} {l:List α} {k:Nat} {x:α}:(l.set k x).length=l.length:=List.length_set
end Go.Tc
namespace Go.Proofs.YtjcmcfidblhnnaaGreatDoor
open Tryz
open Go.Vc Go.Tc
variable {w:O} {K:Y->O->Prop}
variable {w' w1 wb:O} {cap d g' k n pos:Nat}
def Mc.hold (c:Mc) (b:Nat):Mc:={ c with H:=λk=>c.H k\/k=b }
theorem Mk.stay {c:Mc} {lo b:Nat} (h:Mk c wb w lo n d) (x:aG w w1) (f:Fr (λk=>¬ (c.hold b).H k) w1 w'):Fr (λk=>¬ c.H k) wb w':=
 (h.fr.trans (Fr.of_ext x) λ_ _ h=>h).trans (f.mono (T:=λk=>¬ c.H k) λ_ hk hH=>hk (.inl hH)) λ_ _ h=>h
theorem Mk.hold {c:Mc} {wb w1:O} {lo n d b:Nat} (h:Mk c wb w lo n d) (x:aG w w1) (hb:b=w.heap.size) (hlt:b < w1.heap.size):Mk (c.hold b) w1 w1 lo n d:=by
 have hst:∀ w',Fr (λk=>¬ (c.hold b).H k) w1 w'->Fr (λk=>¬ c.H k) wb w':=λw' f=>h.stay x f;have s1:=h.fr.size;have s2:=x.size;have hgB:=h.o.gB;refine ⟨⟨⟨hgB.1,by show c.B<=_;omega⟩,λk hk=>?_,λw' f=>h.o.nums w' (hst w' f),λw' f=>h.o.loc w' (hst w' f),λw' f=>h.o.bins w' (hst w' f),h.o.ln,h.o.ll⟩,Fr.refl _ _,?_⟩
 ·rcases hk with hk|hk
  ·have:=h.o.hH k hk;exact ⟨by omega,this.2⟩
  ·subst hk;refine ⟨hlt,?_⟩;show k≠c.g;omega
 ·obtain ⟨cv,code,pos,a1,a2,a3,a4,a5,a6,a7⟩:=h.at_;refine ⟨cv,code,pos,a1.ext x,x.own a2,a3,a4,a5,a6,λk hk hH=>?_⟩;rcases hH with hH|hH
  ·exact a7 k hk hH
  ·have:=(a2.lt k hk).2;omega
theorem Mk.back {c:Mc} {lo lo' n' d' b:Nat} (h:Mk c wb w lo n d) (x:aG w w1) (h':Mk (c.hold b) w1 w' lo' n' d'):Mk c wb w' lo' n' d':=by
 obtain ⟨o,fr,cv,code,pos,a1,a2,a3,a4,a5,a6,a7⟩:=h';exact ⟨h.o,h.stay x fr,cv,code,pos,a1,a2,a3,a4,a5,a6,λk hk hH=>a7 k hk (.inl hH)⟩
theorem XP {l:List lT} {x:lT} (h:l[k]?=some x):(oN l)[k*3+1]?=some (i64 x.a):=by
 have:=tE h
 have e:((oN l).drop (k*3))[1]?=some (i64 x.a):=by
  rw [<- List.take_append_drop 3 ((oN l).drop (k*3)),this];rfl
 rwa [List.getElem?_drop] at e
theorem HQ:∀ {l:List lT} {k:Nat} {x:lT} {z:Int},l[k]?=some x->(oN l).set (k*3+1) (i64 z)=oN (l.set k ⟨x.op,z,x.b⟩)
 | [],_,_,_,h=>by simp at h
 | y::l,0,x,z,h=>by simp at h;subst h;simp [oN]
 | y::l,k+1,x,z,h=>by
  have:=HQ (l:=l) (k:=k) (z:=z) (by simpa using h);simp only [oN,List.flatMap_cons,List.set_cons_succ] at this ⊢;rw [show (k+1)*3+1=k*3+1+3 by omega];simpa using this
structure Code (c:Mc) (wb w:O) (lo n d:Nat) (g' cap:Nat) (code:List lT) (pos:Nat):Prop where
 o:Mo c wb
 fr:Fr (λk=>¬ c.H k) wb w
 blk:bO w c.g [.slice (some ⟨g',0,none⟩) code.length cap,c.nv,i64 pos,c.lv,i64 d] 195
 own:w.ownsRow c.B 88 3 (.slice (some ⟨g',0,none⟩) code.length cap) code.length (oN code)
 lo:lo<=code.length
 hi:code.length<=n
 ps:pos<=n
 rg:∀ x∈code,x.rg
 nH:¬ c.H g'
theorem Mk.code {c:Mc} {wb:O} {lo n d:Nat} (h:Mk c wb w lo n d) (h1:1<=lo):∃ g' cap code pos,Code c wb w lo n d g' cap code pos:=by
 obtain ⟨o,fr,cv,code,pos,a1,a2,a3,a4,a5,a6,a7⟩:=h;rcases a2.2 with ⟨_,e⟩|⟨g',cap,cur,rfl,_⟩
 ·exact absurd e (by omega)
 ·exact ⟨g',cap,code,pos,o,fr,a1,a2,a3,a4,a5,a6,a7 _ rfl⟩
theorem Code.toMk {c:Mc} {lo:Nat} {code:List lT} (h:Code c wb w lo n d g' cap code pos):Mk c wb w lo n d:=
 ⟨h.o,h.fr,_,code,pos,h.blk,h.own,h.lo,h.hi,h.ps,h.rg,λk hk=>by cases hk;exact h.nH⟩
theorem Code.ext {c:Mc} {wb w':O} {lo n d g' cap:Nat} {code:List lT} {pos:Nat} (h:Code c wb w lo n d g' cap code pos) (hx:aG w w'):Code c wb w' lo n d g' cap code pos:=
 ⟨h.o,h.fr.trans (Fr.of_ext hx) λ_ _ h=>h,h.blk.ext hx,hx.own h.own,h.lo,h.hi,h.ps,h.rg,h.nH⟩
theorem bAy {c:Mc} {lo:Nat} {code:List lT} {z:Int} {K':O->Prop} (h:Code c wb w lo n d g' cap code pos) (hkl:k < code.length)
  (hk:∀ w' code',code'.length=code.length->Code c wb w' lo n d g' cap code' pos->K' w'):U prog (Instr.storeAt 3 (.pointer (some ⟨g',0+k*3+1,none⟩)) (i64 z)) w λ_ w2=>K' w2:=by
 have hx:code[k]?=some code[k]:=List.getElem?_eq_getElem hkl;obtain ⟨s1,s2⟩:=h.own.stored (k*3+1) (i64 z);have hc:=h.own.cellAt (k*3+1) (by omega);rw [XP hx] at hc;rw [Nat.zero_add];have hgB:=h.o.gB.1;have hgg:c.B<=g':=(h.own.lt g' rfl).1;refine U.ok (nF bT rfl hc (h.own.frozenAt _)) (hk _ (code.set k ⟨code[k].op,z,code[k].b⟩) yC ⟨h.o,h.fr.set h.nH,?_,?_,?_,?_,h.ps,λy hy=>?_,h.nH⟩)
 ·rw [yC];exact h.blk.other (by omega)
 ·rw [yC,<- HQ hx];exact s1
 ·rw [yC];exact h.lo
 ·rw [yC];exact h.hi
 ·rcases List.mem_or_eq_of_mem_set hy with hy|rfl
  ·exact h.rg y hy
  ·have:=h.rg code[k] (List.getElem_mem hkl);exact this
theorem bCt {c:Mc} {lo:Nat} {k a b e:Int} (h:Mk c wb w lo n 0) (hn:n+4000<=700000) {tv mv iv:Y} {tl:List Int} {ms:List jR} {is:List IM} (ht:∀ w',Fr (λk=>¬ c.H k) wb w'->aO w' tv tl) (htl:tl.length<=1000000)
  (hm:∀ w',Fr (λk=>¬ c.H k) wb w'->sN w' mv ms) (hi:∀ w',Fr (λk=>¬ c.H k) wb w'->sO w' iv is) (m0:0 < ms.length/\ms.length<=1000) (m4:∀ m∈ms,m.params.length<=4) (i0:is.length<=1000) (i4:∀ x∈is,x.params.length<=4)
  (hk:∀ w',Mk c wb w' 0 (n+4000) 0->K (.tuple #[]) w') :
  aB prog 87 #[.pointer (some ⟨c.g,0,none⟩),.agg #[i64 k,i64 a,i64 b,i64 e],tv,mv,iv] w K:=by
 apply bHb;unfold ZM;refine bxK λw1 hB1 x1=>?_;have hh0:=h.hold x1 rfl hB1.lt;have fin:∀ {w' lo' n'},Mk (c.hold w.heap.size) w1 w' lo' n' 0->n'<=n+4000->K (.tuple #[]) w':=λhh hle=>hk _ ((h.back x1 hh).up hle);have bx1:∀ {w'},Fr (λk=>¬ (c.hold w.heap.size).H k) w1 w'->bF w' w.heap.size [i64 k,i64 a,i64 b,i64 e]:=λf=>bO.boxed (f.blk hB1 λhn=>hn (.inr rfl));have ht:=λw' f=>ht w' (h.stay (b:=w.heap.size) x1 f);have hm:=λw' f=>hm w' (h.stay (b:=w.heap.size) x1 f);have hi:=λw' f=>hi w' (h.stay (b:=w.heap.size) x1 f);have hll:=hh0.o.ll;have hgc:(c.hold w.heap.size).g=c.g:=rfl;rw [<- hgc];clear hB1;generalize c.hold w.heap.size=c' at *;generalize w.heap.size=rb at *;clear hgc h hk;refine aV (bx1 (Fr.refl _ _)) jE aE rfl ?_;refine iR (by decide) (by decide) λq hq0 hq1=>?_;have hc:q=0\/q=1\/q=2\/q=3\/q=4\/q=5\/q=6\/q=7\/q=8\/q=9\/q=10\/q=11\/q=12\/q=13\/q=14\/q=15:=by omega
 rcases hc with rfl|rfl|rfl|rfl|rfl|rfl|rfl|rfl|rfl|rfl|rfl|rfl|rfl|rfl|rfl|rfl
 iterate 3
  ·simp only [aR,Int.reduceEq,Int.reduceNeg]
   intros
   have hloc:=hh0.locAt;obtain ⟨cv,code,pos,a1,_⟩:=hh0.at_;refine ⟨.inl ⟨_,rfl⟩,aV (bO.boxed a1) gD bE rfl (gE aP hloc (aJ.2 (aC (λhz=>fin hh0 (by omega)) λhz=>?_)))⟩;have D1:aG w1 w1.drew:=(aG.refl _).drew;have hh1:=hh0.ext D1;have hlocd:=hh1.locAt;have hbx:∀ w',aG w1.drew w'->bF w' c'.g [cv,c'.nv,i64 pos,c'.lv,i64 (0:Nat)]:=λw' hx=>bO.boxed (a1.ext (D1.trans hx));refine aL.mk' (λw'=>aG w1.drew w') (aG.refl _) ?_;refine iB (λw' hx=>(bx1 hh1.fr).ext hx) dV aE rfl ?_;refine ⟨.inl ⟨_,rfl⟩,iB hbx gD bE rfl (sZ aP hlocd ?_)⟩;refine iR (by omega) (by omega) λr hr0 hr1=>⟨aG.refl _,?_⟩;refine ⟨.inl ⟨_,rfl⟩,aV (hbx _ (aG.refl _)) gD bE rfl ?_⟩;obtain ⟨r,rfl⟩:∃ r2:Nat,r=r2:=⟨r.toNat,by omega⟩;refine mH aP aE hlocd (by omega) (by omega) (cM (lQ (by omega))) ?_;refine IH hh1 (by omega) λw1 hh2=>?_;refine gZ hh2 (by omega) λw1 hh3=>?_;exact fin hh3 (by omega)
 iterate 2
  ·simp only [aR,Int.reduceEq,Int.reduceNeg]
   intros
   refine aV (bx1 hh0.fr) dV aE rfl ?_;refine iR (by decide) (by decide) λq hq0 hq1=>?_;refine bJ.2 ?_;refine wL hh0 (by omega) λw1 hh1=>?_;refine oV wK.1 (by omega) hh1 (by omega) λw1 hh2=>?_;refine fT.2 ?_;refine IH hh2 (by omega) λw1 hh3=>?_;refine gZ hh3 (by omega) λw1 hh4=>?_;exact fin hh4 (by omega)
 ·simp only [aR,Int.reduceEq,Int.reduceNeg]
  intros
  refine aV (bx1 hh0.fr) dV aE rfl ?_;refine iR (by decide) (by decide) λq hq0 hq1=>?_;refine bJ.2 ?_;refine IH hh0 (by omega) λw1 hh1=>?_;refine gZ hh1 (by omega) λw1 hh2=>?_;exact fin hh2 (by omega)
 ·simp only [aR,Int.reduceEq,Int.reduceNeg]
  intros
  refine aV (bx1 hh0.fr) dV aE rfl ?_;refine iR (by decide) (by decide) λq hq0 hq1=>?_;refine bJ.2 ?_;refine aV (bx1 hh0.fr) gK aE rfl ?_;refine iR (by decide) (by decide) λq hq0 hq1=>?_;refine bJ.2 ?_;refine ⟨λv w'=>(∃ z,v=i64 z)/\w'=w1,?_,?_⟩
  ·exact aJ.2 (aC (λ_=>⟨⟨_,rfl⟩,rfl⟩) λ_=>⟨⟨_,rfl⟩,rfl⟩)
  rintro _ _ ⟨⟨z,rfl⟩,rfl⟩ _;refine wL hh0 (by omega) λw1 hh1=>?_;refine oV wK.1 (by omega) hh1 (by omega) λw1 hh2=>?_;refine wL hh2 (by omega) λw1 hh3=>?_;refine oV wK.1 (by omega) hh3 (by omega) λw1 hh4=>?_;refine oV wK.1 (by omega) hh4 (by omega) λw1 hh5=>?_;refine gZ hh5 (by omega) λw1 hh6=>?_;exact fin hh6 (by omega)
 iterate 2
  ·simp only [aR,Int.reduceEq,Int.reduceNeg]
   intros
   refine aV (bx1 hh0.fr) dV aE rfl ?_;refine iR (by decide) (by decide) λq hq0 hq1=>?_;refine bJ.2 ?_;refine bJ.2 ?_;refine fT.2 ?_;refine wL hh0 (by omega) λw1 hh1=>?_;refine oV wK.1 (by omega) hh1 (by omega) λw1 hh2=>?_;refine oV wK.1 (by omega) hh2 (by omega) λw1 hh3=>?_;refine gZ hh3 (by omega) λw1 hh4=>?_;exact fin hh4 (by omega)
 iterate 2
  ·simp only [aR,Int.reduceEq,Int.reduceNeg]
   intros
   refine wK.1 hh0 (by omega) λw1 hh1=>?_;refine gZ hh1 (by omega) λw1 hh2=>?_;refine aV (bx1 hh2.fr) dV aE rfl ?_;refine iR (by decide) (by decide) λr hr0 hr1=>?_;by_cases hr:r=0
   case neg=>
    simp only [hr,aR];exact fin hh2 (by omega)
   have htv:=ht _ hh2.fr;subst hr;simp only [aR];refine gE aP htv ?_;by_cases hgt:(tl.length:Int) > 0
   case neg=>
    simp only [hgt,aR];exact fin hh2 (by omega)
   simp only [hgt,aR];obtain ⟨g',cap,code,pos,hcd⟩:=hh2.code (Nat.le_refl _);have D1:aG w1 w1.drew:=(aG.refl _).drew;have hcd:=hcd.ext D1;have hlo:=hcd.lo;have hhi:=hcd.hi;have htv:=htv.ext D1;have hbr:=(bx1 hh2.fr).ext D1;refine aL.mk' (λw'=>aG w1.drew w') (aG.refl _) ?_;refine ⟨.inl ⟨_,rfl⟩,iB (λw' hx=>bO.boxed (hcd.blk.ext hx)) dC hU rfl ?_⟩;refine ⟨.inl ⟨_,rfl⟩,iB (λw' hx=>bO.boxed (hcd.blk.ext hx)) dC hU rfl (sZ kQ (aA.of_own hcd.own) ?_)⟩;refine aF.ok (λw' _=>fG) ?_;rw [aQ (by omega)];refine iB (λw' hx=>hbr.ext hx) gK aE rfl (sZ aP htv ?_);refine iR (by omega) (by omega) λr hr0 hr1=>⟨aG.refl _,?_⟩;obtain ⟨r,rfl⟩:∃ r2:Nat,r=r2:=⟨r.toNat,by omega⟩;refine nT aP aE htv (λ_ h=>h) (by omega) (by omega) (cM (lQ (by omega))) ?_;refine aF.ok (λw' _=>jZ underlying36 uY (by omega) (by omega)) ?_;refine aF.ok (λw' _=>FA.ex aX w' _ _) ?_;rw [show ((code.length:Int) - 1).toNat=code.length - 1 by omega];exact bAy hcd (by omega) λw3 code' _ hc'=>fin hc'.toMk (by omega)
 iterate 2
  ·simp only [aR,Int.reduceEq,Int.reduceNeg]
   intros
   refine aV (bx1 hh0.fr) dV aE rfl ?_;have hms:=hm _ hh0.fr;refine yR iF hms ?_;refine iR (by omega) (by omega) λr hr0 hr1=>?_;refine ⟨λv w'=>(∃ z:Nat,v=i64 z/\z < ms.length)/\w'=w1,?_,?_⟩
   ·have hr:(∃ z:Nat,i64 r=i64 z/\z < ms.length):=⟨r.toNat,by rw [Int.toNat_of_nonneg hr0],by omega⟩;refine aJ.2 ?_;by_cases hz:r=0
    case neg=>
     simp only [hz,aR];exact ⟨hr,by trivial⟩
    simp only [hz,aR];refine aV (bx1 hh0.fr) gK aE rfl ?_;refine rm (by decide) λe _ _ _=>?_;refine jF.2 ?_;by_cases he:e > 0
    case neg=>
     simp only [he,aR];rw [hz] at hr;exact ⟨hr,by trivial⟩
    simp only [he,aR];refine yR iF hms (fT.2 ?_);rw [aQ (by omega)];exact ⟨⟨ms.length - 1,by congr 1;omega,by omega⟩,rfl⟩
   rintro _ w9 ⟨⟨t,rfl,htl2⟩,hw9⟩ _;have hw9:=hw9.symm;subst hw9;obtain ⟨m,hmt⟩:=bI htl2;have hm4:=m4 m (List.mem_of_getElem? hmt);refine ⟨λv w'=>∃ j:Nat,v=i64 j/\j<=m.params.length/\Mk c' w1 w' 0 (n+800*j) 0,λv _=>m.params.length - (RowKit.intOf v).toNat,⟨0,rfl,Nat.zero_le _,hh0.up (by omega)⟩,?_⟩;rintro _ w2 ⟨j,rfl,hj,h2⟩ _;refine rS iF dM bE (hm _ h2.fr) hmt λrow hrow=>?_;obtain ⟨pv,lv,cv,rfl,hp,_,_⟩:=hrow;refine ⟨pv,rfl,by decide,gE aP hp (aZ.2 (aC (λhlt=>?_) λhge=>?_))⟩
   ·refine rS iF dM bE (hm _ h2.fr) hmt λrow hrow=>?_;obtain ⟨pv,lv,cv,rfl,hp,_,_⟩:=hrow;refine ⟨pv,rfl,by decide,?_⟩;refine mH aP aE hp (by omega) (by omega) (cM (lQ (by omega))) ?_;refine IH h2 (by omega) λw3 h3=>bJ.2 ?_;rw [aQ (by omega),bK];exact ⟨⟨j+1,rfl,by omega,h3.up (by omega)⟩,by simp only [aK];omega⟩
   ·refine gZ h2 (by omega) λw3 h3=>?_;refine rS iF gG aE (hm _ h3.fr) hmt λrow hrow=>?_;obtain ⟨pv,lv,cv,rfl,hp,_,_⟩:=hrow;refine ⟨_,rfl,by decide,cL.2 (aC (λhr=>?_) λhr=>?_)⟩
    ·exact gZ h3 (by omega) λw4 h4=>fin h4 (by omega)
    ·exact fin h3 (by omega)
 ·simp only [aR,Int.reduceEq,Int.reduceNeg]
  intros
  have his:=hi _ hh0.fr;refine yR oD his (aJ.2 (aC (λhz=>fin hh0 (by omega)) λhz=>?_));refine aV (bx1 hh0.fr) dV aE rfl ?_;refine yR oD his ?_;refine iR (by omega) (by omega) λr hr0 hr1=>?_;obtain ⟨t,rfl⟩:∃ r2:Nat,r=r2:=⟨r.toNat,by omega⟩;obtain ⟨m,hmt⟩:=bI (l:=is) (j:=t) (by omega);have hm4:=i4 m (List.mem_of_getElem? hmt);refine ⟨λv w'=>∃ j:Nat,v=i64 j/\j<=m.params.length/\Mk c' w1 w' 0 (n+800*j) 0,λv _=>m.params.length - (RowKit.intOf v).toNat,⟨0,rfl,Nat.zero_le _,hh0.up (by omega)⟩,?_⟩;rintro _ w2 ⟨j,rfl,hj,h2⟩ _;refine rS oD bY bE (hi _ h2.fr) hmt λrow hrow=>?_;obtain ⟨pv,rfl,hp⟩:=hrow;refine ⟨pv,rfl,by decide,gE aP hp (aZ.2 (aC (λhlt=>?_) λhge=>?_))⟩
  ·refine rS oD bY bE (hi _ h2.fr) hmt λrow hrow=>?_;obtain ⟨pv,rfl,hp⟩:=hrow;refine ⟨pv,rfl,by decide,?_⟩;refine mH aP aE hp (by omega) (by omega) (cM (lQ (by omega))) ?_;refine IH h2 (by omega) λw3 h3=>bJ.2 ?_;rw [aQ (by omega),bK];exact ⟨⟨j+1,rfl,by omega,h3.up (by omega)⟩,by simp only [aK];omega⟩
  ·refine gZ h2 (by omega) λw3 h3=>?_;refine rS oD cF aE (hi _ h3.fr) hmt λrow hrow=>?_;obtain ⟨pv,rfl,hp⟩:=hrow;refine ⟨_,rfl,by decide,cL.2 (aC (λhr=>?_) λhr=>?_)⟩
   ·exact gZ h3 (by omega) λw4 h4=>fin h4 (by omega)
   ·exact fin h3 (by omega)
 ·simp only [aR,Int.reduceEq,Int.reduceNeg]
  intros
  refine wK.1 hh0 (by omega) λw1 hh1=>?_;refine gZ hh1 (by omega) λw1 hh2=>?_;refine gZ hh2 (by omega) λw1 hh3=>?_;refine gZ hh3 (by omega) λw1 hh4=>?_;exact fin hh4 (by omega)
 ·simp only [aR,Int.reduceEq,Int.reduceNeg]
  intros
  refine aV (bx1 hh0.fr) dV aE rfl ?_;refine rm (by decide) λe _ _ _=>?_;refine gZ hh0 (by omega) λw1 hh1=>?_;refine gZ hh1 (by omega) λw1 hh2=>?_;exact fin hh2 (by omega)
end Go.Proofs.YtjcmcfidblhnnaaGreatDoor
namespace Go.Vc
end Go.Vc
namespace Go.Proofs.YtjcmcfidblhnnaaGreatDoor
open Tryz
open Go.Vc Go.Tc
variable {w:O} {K:Y->O->Prop}
variable {L N d i n:Nat} {ty:TypeId} {S:O->Prop} {wb:O}
structure Rw where
 k:Int
 a:Int
 b:Int
 e:Int
def bGk (_:O) (row:List Y) (x:Rw):Prop:=row=[i64 x.k,i64 x.a,i64 x.b,i64 x.e]
def jQ (w:O) (v:Y) (l:List Rw):Prop:=(∃ a c,v=.slice a l.length c)/\(0 < l.length->bR bGk 4 w v l)
theorem jQ.ext {w':O} {v:Y} {l:List Rw} (h:jQ w v l) (hx:aG w w'):jQ w' v l:=⟨h.1,λh0=>bR.ext (λh _=>h) (h.2 h0) hx⟩
theorem jQ.of {v:Y} {l:List Rw} (h:bR bGk 4 w v l):jQ w v l:=by
 obtain ⟨cs,h1⟩:=h.sl;exact ⟨h1.shape,λ_=>h⟩
theorem jQ.str {v:Y} {l:List Rw} {x:Rw} (h:jQ w v l) (hi:l[i]?=some x):bR bGk 4 w v l:=h.2 (by have:=(List.getElem?_eq_some_iff.1 hi).1;omega)
theorem lnR {t:TypeId} {v:Y} {l:List Rw} (h:XA prog t 4) (hs:jQ w v l) (hk:K (i64 l.length) w):V prog (Builtin.len_ #[t] ty #[v]) w K:=by
 obtain ⟨e,z,b,ht,hi⟩:=h;obtain ⟨⟨a,c,rfl⟩,_⟩:=hs;exact V.ok (wA ht) hk
theorem bKi {L:Y->Prop} {t:TypeId} {v:Y} {l:List Rw} (h:XA prog t 4) (hs:jQ w v l) (hk:L (i64 l.length)):aF prog S (Builtin.len_ #[t] ty #[v]) L:=by
 obtain ⟨e,z,b,ht,hi⟩:=h;obtain ⟨⟨a,c,rfl⟩,_⟩:=hs;exact aF.ok (λw' _=>wA ht) hk
theorem ySS {L:Y->Prop} {α:Type} {T:O->List Y->α->Prop} {sz:Nat} {t x:TypeId} {v:Y} {l:List α} {e:α} (h:XA prog t sz) (ht:∃ d z by_,Program.underlying prog x=some d/\lZ d=true/\cZ prog x z sz by_) (hs:bR T sz w v l) (hx:∀ w',S w'->aG w w') (hi:l[i]?=some e) (hT:∀ w row e,T w row e->row.length=sz)
  (hk:∀ row,T w row e->L (.agg row.toArray)):aF prog S (Instr.indexAt t v (i64 i)) λp=>aF prog S (Instr.loadAt x p) L:=by
 obtain ⟨cs,h1,h2⟩:=hs;obtain ⟨row,h3,h4⟩:=h2 i e hi;have hlt:i < l.length:=(List.getElem?_eq_some_iff.1 hi).1;obtain ⟨e',z,b',hte,hinf⟩:=h;obtain ⟨d,z',by_,g2,g3,g4⟩:=ht;obtain ⟨b,off,cap,rfl,hcell⟩:=h1.there (by omega);refine aF.ok (λw' _=>jZ hte hinf (by omega) (by omega)) (aF.ok (λw' hw=>nG (cs:=row) g2 g3 g4 (hT _ _ _ h4) λj hj=>?_) (hk row h4));obtain ⟨u,hu⟩:∃ u,row[j]?=some u:=⟨_,List.getElem?_eq_getElem hj⟩;rw [hu,Nat.add_assoc];refine (hx w' hw).cell (hcell _ u ?_);rw [<- h3,List.getElem?_take,List.getElem?_drop] at hu;split at hu
 ·simpa using hu
 ·cases hu
theorem WN {t:TypeId} {ts:Array TypeId} {a b:Int}:(Builtin.min_ ts t #[i64 a,i64 b]).run prog w=.ok (i64 (min a b)) w:=by
 rcases aGs (P:=prog) (w:=w) (t:=t) (ts:=ts) (a:=a) (b:=b) with h|h
 ·rw [h];have:(if a < b then a else b)=min a b:=by split<;>omega
  rw [this]
 ·rw [h];have:(if b < a then b else a)=min a b:=by split<;>omega
  rw [this]
def Cd (c:Mc) (wb w:O) (L N d:Nat):Prop:=Mo c wb/\Fr (λk=>¬ c.H k) wb w/\∃ (cv:Y) (code:List lT) (pos:Nat),bO w c.g [cv,c.nv,i64 pos,c.lv,i64 d] 195/\w.ownsRow c.B 88 3 cv code.length (oN code)/\code.length=L/\pos<=N/\(∀ x∈code,x.rg)/\∀ k,cv.ownBlock=some k->¬ c.H k
theorem Cd.mk {c:Mc} (h:Cd c wb w L N d) (h1:L<=n) (h2:N<=n):Mk c wb w 0 n d:=by
 obtain ⟨o,fr,cv,code,pos,a1,a2,a3,a4,a5,a6⟩:=h;exact ⟨o,fr,cv,code,pos,a1,a2,Nat.zero_le _,by omega,by omega,a5,a6⟩
theorem Cd.code {c:Mc} {wb:O} {L N d:Nat} (h:Cd c wb w L N d) (h1:0 < L):∃ g' cap code pos,code.length=L/\pos<=N/\Code c wb w L (L+N) d g' cap code pos:=by
 obtain ⟨o,fr,cv,code,pos,a1,a2,a3,a4,a5,a6⟩:=h;rcases a2.2 with ⟨_,e⟩|⟨g',cap,cur,rfl,_⟩
 ·exact absurd e (by omega)
 ·exact ⟨g',cap,code,pos,a3,a4,o,fr,a1,a2,by omega,by omega,by omega,a5,a6 _ rfl⟩
theorem Code.cd {c:Mc} {lo g' cap:Nat} {code:List lT} {pos:Nat} (h:Code c wb w lo n d g' cap code pos) (h1:code.length=L) (h2:pos<=N):Cd c wb w L N d:=
 ⟨h.o,h.fr,_,code,pos,h.blk,h.own,h1,h2,h.rg,λk hk=>by cases hk;exact h.nH⟩
theorem Mk.cd {c:Mc} {lo:Nat} (h:Mk c wb w lo n d):∃ L,L<=n/\Cd c wb w L n d:=by
 obtain ⟨o,fr,cv,code,pos,a1,a2,a3,a4,a5,a6,a7⟩:=h;exact ⟨_,a4,o,fr,cv,code,pos,a1,a2,rfl,a5,a6,a7⟩
theorem Cd.ext {c:Mc} {wb w':O} {L N d:Nat} (h:Cd c wb w L N d) (hx:aG w w'):Cd c wb w' L N d:=by
 obtain ⟨o,fr,cv,code,pos,a1,a2,a3⟩:=h;exact ⟨o,fr.trans (Fr.of_ext hx) λ_ _ h=>h,cv,code,pos,a1.ext hx,hx.own a2,a3⟩
theorem bLr {c:Mc} (h:Cd c wb w L N d) (hk:K (i64 (L:Nat)) w) :
  V prog (Instr.fieldAt 195 (.pointer (some ⟨c.g,0,none⟩)) 0) w λq w1=>V prog (Instr.loadAt 36 q) w1 λv w2=>V prog (Builtin.len_ #[36] ty #[v]) w2 K:=by
 obtain ⟨o,fr,cv,code,pos,a1,a2,rfl,_⟩:=h;exact aV (bO.boxed a1) dC hU rfl (gE kQ (aA.of_own a2) hk)
theorem aFu {c:Mc} {B:Nat} {v:Y} {code:List lT} {K':O->Prop} (h:Cd c wb w L N d) (ho:w.ownsRow B 88 3 v code.length (oN code)) (hB:c.B<=B) (hr:∀ x∈code,x.rg) (hv:∀ k,v.ownBlock=some k->¬ c.H k)
  (hk:∀ w',Cd c wb w' code.length N d->K' w'):V prog (Instr.fieldAt 195 (.pointer (some ⟨c.g,0,none⟩)) 0) w λq w1=>U prog (Instr.storeAt 36 q v) w1 λ_ w2=>K' w2:=by
 obtain ⟨o,fr,cv,code0,pos,a1,a2,a3,a4,a5,a6⟩:=h;have hg:¬ c.H c.g:=λhg=>(o.hH _ hg).2 rfl;have hgB:=o.gB.1;refine FZ dC NH a1 (n:=5) rfl (by decide) (fV ho) (hk _ ⟨o,fr.set hg,v,code,pos,a1.set 0 _,?_,rfl,a4,hr,hv⟩);exact aU ((Fr.of_set (S:=λi=>i=c.g) rfl).own ho λk hk he=>by have:=(ho.lt k hk).1;omega) hB
end Go.Proofs.YtjcmcfidblhnnaaGreatDoor
namespace Go.Vc
theorem apS {P:Program} {w:O} {K:Y->O->Prop} {t e by_ ty:Nat} (h:XE P t e by_) {B:Nat} {v:Y} {n:Nat} {xs:List Y} (ho:w.ownsRow B e 1 v n xs) {x:Y} {m:Nat} {news:List Y} (hs:aA w x 1 m news) (h1:news.all bX=true)
  (hb:(n+m)*by_<=140737488355328) (h63:n+m<=maxLen) (hB:B<=w.heap.size)
  (hk:∀ v' w',w'.ownsRow B e 1 v' (n+m) (xs++news)->w.grownBy w' v.ownBlock->(v'.ownBlock=v.ownBlock\/v'.ownBlock=some w.heap.size)->K v' w') :
  V P (Builtin.append_ #[t,t] ty #[v,x]) w K:=by
 obtain ⟨z,ht,hi,hz⟩:=h;exact apG ht hi hz (by omega) ho hs h1 hb h63 hB hk
end Go.Vc
namespace Go.Proofs.YtjcmcfidblhnnaaGreatDoor
open Tryz
open Go.Vc Go.Tc
variable {w:O} {K:Y->O->Prop}
theorem aRw {l:List lT} {k:Nat} {x:lT} (h:l[k]?=some x):(oN l)[k*3+0]?=some (i64 x.op):=by
 have:=tE h
 have e:((oN l).drop (k*3))[0]?=some (i64 x.op):=by
  rw [<- List.take_append_drop 3 ((oN l).drop (k*3)),this];rfl
 rwa [List.getElem?_drop] at e
theorem Cd.weak {c:Mc} {wb:O} {L N d N':Nat} (h:Cd c wb w L N d) (h2:N<=N'):Cd c wb w L N' d:=by
 obtain ⟨o,fr,cv,code,pos,a1,a2,a3,a4,a5⟩:=h;exact ⟨o,fr,cv,code,pos,a1,a2,a3,by omega,a5⟩
theorem bFl {rv mv iv:Y} {rl:List Rw} {row:List Y} {m:jR} {ms:List jR} {is:List IM} (hr:jQ w rv rl) (hrow:mF w row m) (hm:sN w mv ms) (hi:sO w iv is) (hb:qV w) (rn:rl.length<=5000000000000) (pl:m.params.length<=1000) (ll:m.locals.length<=1000)
  (m0:0 < ms.length/\ms.length<=1000) (m4:∀ m∈ms,m.params.length<=4) (i0:is.length<=1000) (i4:∀ x∈is,x.params.length<=4)
  (hk:∀ v code w',w'.ownsRow w.heap.size 88 3 v code.length (oN code)->(∀ x∈code,x.rg)->code.length<=700000->aG w w'->K v w') :
  aB prog 43 #[rv,.agg row.toArray,mv,iv] w K:=by
 obtain ⟨pv,lv,cv,rfl,hp,hl,hc⟩:=hrow;apply bIr;unfold aAz;refine bx λb5 w1 hb5 x1=>?_;have hb5:bF w1 b5 [pv,i64 m.result,lv,cv]:=hb5;have D1:aG w1 w1.drew:=(aG.refl _).drew;have x2:=x1.trans D1;refine aL.mk' (λw'=>aG w1.drew w') (aG.refl _) ?_;refine iB (λw' hx=>hb5.ext (D1.trans hx)) dM bE rfl ?_;refine iB (λw' hx=>hb5.ext (D1.trans hx)) lB bE rfl ?_;have hb5:=hb5.ext D1;generalize w1.drew=w2 at x2 hb5;clear D1;refine jG bB [] rfl rfl (by simp) rfl λv3 w3 ho3 x3=>⟨x3,?_⟩;refine LD bB ho3 (hp.ext (x2.trans x3)) (OJ _) (by omega) (by unfold maxLen;omega) x3.size λv4 w4 ho4 hg4=>?_;have x4:aG w2 w4:=x3.grown hg4 λk hk=>(ho3.lt k hk).1;refine ⟨x4,LD bB ho4 (hl.ext (x2.trans x4)) (OJ _) (by omega) (by unfold maxLen;omega) x4.size λlv' w5 ho5 hg5=>?_⟩;have x5:aG w2 w5:=x4.grown hg5 λk hk=>(ho4.lt k hk).1;refine ⟨x5,mM bFs [(3,lv')] rfl (by simp [fV ho5]) ?_⟩
 have hloc:aO w5 lv' (m.params++m.locals):=by
  have:=aA.of_own ho5;unfold aO;simpa using this
 clear ho3 ho4 ho5 hg4 hg5;refine bxK λw6 hB6 x6=>⟨x5.trans x6,?_⟩;have hB6:bO w6 w5.heap.size [bC,bC,i64 ((0:Nat):Int),lv',i64 ((0:Nat):Int)] 195:=hB6;have x25:=x2.trans x5;have hr:=hr.ext x25;have hm:=hm.ext x25;have hi:=hi.ext x25
 have hbins:qV w5:=λj hj=>by
  obtain ⟨n,hn⟩:=hb j hj;exact ⟨n,x25.cell hn⟩
 have hb5:=hb5.ext x5;have hw5:w.heap.size<=w5.heap.size:=x25.size;generalize hgg:w5.heap.size=g at hB6 hw5;clear x1 x3 x4;have hlocl:(m.params++m.locals).length<=1000000:=by simp;omega
 generalize m.params++m.locals=loc at hloc hlocl;refine ⟨λv w'=>∃ (j:Nat) (nv:Y) (nums:List Int),v=i64 j/\j<=rl.length/\nums.length=3*j/\aG w5 w'/\bO w' g [bC,nv,i64 ((0:Nat):Int),lv',i64 ((0:Nat):Int)] 195/\w'.ownsRow (g+1) 3 1 nv nums.length (nums.map i64),λv _=>rl.length - (RowKit.intOf v).toNat,⟨0,bC,[],rfl,Nat.zero_le _,rfl,x6,hB6,World.ownsRow_nil _ _ _ _⟩,?_⟩;rintro _ wB ⟨j,nv,nums,rfl,hj,hnl,xB,hBB,hoB⟩ _;have hlt5:=hBB.lt;refine lnR xU (hr.ext xB) (aZ.2 (aC (λhlt=>?_) λhge=>?_))
 ·obtain ⟨x,hx⟩:=bI (l:=rl) (j:=j) (by omega);have D2:aG wB wB.drew:=(aG.refl _).drew;have xd:=xB.trans D2;have hBd:=hBB.ext D2;have hod:=D2.own hoB;refine aL.mk' (λw'=>aG w5 w'/\bO w' g [bC,nv,i64 ((0:Nat):Int),lv',i64 ((0:Nat):Int)] 195) ⟨xd,hBd⟩ ?_;refine ⟨.inl ⟨_,rfl⟩,iB (λw' hw=>bO.boxed hw.2) fQ bE rfl ?_⟩;refine ySF xU dV aE (hr.str hx) (λw' hw=>hw.1) hx λrow hrow=>⟨i64 x.a,by rw [hrow];rfl,by decide,?_⟩;refine ySF xU gK aE (hr.str hx) (λw' hw=>hw.1) hx λrow hrow=>⟨i64 x.b,by rw [hrow];rfl,by decide,?_⟩;refine ySF xU jD aE (hr.str hx) (λw' hw=>hw.1) hx λrow hrow=>⟨i64 x.e,by rw [hrow];rfl,by decide,?_⟩;refine jG bB [i64 x.a,i64 x.b,i64 x.e] rfl rfl (by simp) rfl λv7 w7 ho7 x7=>⟨⟨xd.trans x7,hBd.ext x7⟩,?_⟩;have hs7:=hBd.lt;have hs8:=x7.size;refine LD bB (x7.own hod) (aA.of_own ho7) rfl (by omega) (by unfold maxLen;omega) (by omega) λv8 w8 ho8 hg8=>?_;have hlo:∀ k,nv.ownBlock=some k->g+1<=k:=λk hk=>(hod.lt k hk).1;have x8:aG w5 w8:=(xd.trans x7).grown hg8 λk hk=>by have:=hlo k hk;omega
  have hB8:bO w8 g _ _:=(Fr.of_grown (S:=λk=>nv.ownBlock=some k) hg8 λk hk=>hk).blk (hBd.ext x7) λhk=>by have:=hlo _ hk;omega
  refine ⟨⟨x8,hB8⟩,⟨.inl ⟨_,rfl⟩,aF.ok (λw' hw=>FA.ex fQ w' _ _) ?_⟩⟩;refine bCu mR hB8 (n:=5) rfl (by decide) (fV ho8) (bJ.2 ?_);rw [aQ (by omega),bK];refine ⟨⟨j+1,v8,nums++[x.a,x.b,x.e],rfl,by omega,by simp;omega,x8.setCell (by omega) _,hB8.set 1 _,?_⟩,by simp only [aK];omega⟩;have:=(Fr.of_set (S:=λi=>i=g) (w:=w8) (b:=g) (o:=1) (v:=v8) rfl).own ho8 λk hk he=>by have:=(ho8.lt k hk).1;omega
  simpa using this
 have hf:∀ {w'},Fr (λk=>k=g\/wB.heap.size<=k) wB w'->aO w' nv nums/\aG w5 w':=λf=>⟨aA.of_own (f.own hoB λk hk hS=>by have:=hoB.lt k hk;omega),f.ext xB λk hS=>by have:=xB.size;omega⟩
 have hMo:∀ (H:Nat->Prop) {w1:O},Fr (λk=>k=g\/wB.heap.size<=k) wB w1->(∀ k,k < wB.heap.size->¬ H k->k=g)->(∀ k,H k->k < w1.heap.size/\k≠g)->Mo ⟨H,wB.heap.size,g,nv,lv',nums,loc⟩ w1/\∀ w',Fr (λk=>¬ H k) w1 w'->Fr (λk=>k=g\/wB.heap.size<=k) wB w':=by
  intro H w1 f h1 h2;have tr:∀ w',Fr (λk=>¬ H k) w1 w'->Fr (λk=>k=g\/wB.heap.size<=k) wB w':=λw' f'=>f.trans f' λi hi hn=>.inl (h1 i hi hn);refine ⟨⟨⟨hlt5,f.size⟩,h2,λw' f'=>(hf (tr w' f')).1,λw' f'=>hloc.ext (hf (tr w' f')).2,λw' f' j hj=>?_,?_,hlocl⟩,tr⟩
  ·obtain ⟨n,hn⟩:=hbins j hj;exact ⟨n,(hf (tr w' f')).2.cell hn⟩
  ·show nums.length<=_;omega
 refine ⟨λtv v w'=>∃ (j:Nat) (tl:List Int) (cv:Y) (code:List lT) (pos:Nat),v=i64 j/\j<=rl.length/\j<=12/\tl.length=j/\Fr (λk=>k=g\/wB.heap.size<=k) wB w'/\bO w' g [cv,nv,i64 (pos:Nat),lv',i64 ((0:Nat):Int)] 195/\w'.ownsRow wB.heap.size 88 3 cv code.length (oN code)/\code.length<=4100*j/\pos<=4100*j/\(∀ x∈code,x.rg)/\w'.ownsRow wB.heap.size 3 1 tv tl.length (tl.map i64)/\∀ k,cv.ownBlock=some k->tv.ownBlock≠some k,
  λ_ v _=>12 - (RowKit.intOf v).toNat,⟨0,[],bC,[],0,rfl,Nat.zero_le _,Nat.zero_le _,rfl,Fr.refl _ _,hBB,World.ownsRow_nil _ _ _ _,Nat.le_refl _,Nat.le_refl _,λ_ h=>by simp at h,World.ownsRow_nil _ _ _ _,λk hk=>by cases hk⟩,?_⟩
 rintro tv _ w9 ⟨j,tl,cv,code,pos,rfl,hj,hj12,htl,fr,hB9,ho9,hc9,hp9,hrg,hot,hne⟩ _;have hs9:=fr.size;have hng:∀ k,tv.ownBlock=some k->wB.heap.size<=k:=λk hk=>(hot.lt k hk).1
 have grow:∀ {K':Y->O->Prop},(∀ tv' w',Fr (λk=>k=g\/wB.heap.size<=k) wB w'->bO w' g [cv,nv,i64 (pos:Nat),lv',i64 ((0:Nat):Int)] 195->w'.ownsRow wB.heap.size 88 3 cv code.length (oN code)->w'.ownsRow wB.heap.size 3 1 tv' (tl++[(code.length:Int)]).length ((tl++[(code.length:Int)]).map i64)->(∀ k,cv.ownBlock=some k->tv'.ownBlock≠some k)->K' tv' w') ->
   Go.Vc.bN (.pointer (some ⟨g,0,none⟩))/\V prog (Instr.fieldAt 195 (.pointer (some ⟨g,0,none⟩)) 0) w9 λt75 w29=>V prog (Instr.loadAt 36 t75) w29 λt76 w30=>V prog (Builtin.len_ #[36] 3 #[t76]) w30 λt77 w31=>V prog (Instr.buildSlice 23 1 #[(0,t77)]) w31 λt78 w32=>V prog (Builtin.append_ #[23,23] 23 #[tv,t78]) w32 K':=by
  intro K' hK;refine ⟨.inl ⟨_,rfl⟩,aV (bO.boxed hB9) dC hU rfl (gE kQ (aA.of_own ho9) ?_)⟩;refine jG bB [i64 (code.length:Nat)] rfl rfl (by simp) rfl λv7 w7 ho7 x7=>?_;have hs7:=x7.size;refine apS bB (x7.own hot) (aA.of_own ho7) rfl (by omega) (by unfold maxLen;omega) (by omega) λv8 w8 ho8 hg8 hl8=>?_;have f8:Fr (λk=>tv.ownBlock=some k) w9 w8:=(Fr.of_ext x7).trans (Fr.of_grown hg8 λk hk=>hk) λ_ _ h=>h;refine hK v8 w8 (fr.trans f8 λi _ hi=>.inr (hng i hi)) (f8.blk hB9 λhk=>by have:=hng _ hk;omega) (f8.own ho9 λk hk hk'=>hne k hk hk') (by simpa using ho8) λk hk hk'=>?_;rcases hl8 with h8|h8
  ·rw [h8] at hk';exact hne k hk hk'
  ·rw [h8] at hk';cases hk';have:=(ho9.lt _ hk).2;omega
 have hold:∀ {tv':Y} {w':O} {L N:Nat},code.length=L->pos<=N->Fr (λk=>k=g\/wB.heap.size<=k) wB w'->bO w' g [cv,nv,i64 (pos:Nat),lv',i64 ((0:Nat):Int)] 195->w'.ownsRow wB.heap.size 88 3 cv code.length (oN code)->w'.ownsRow wB.heap.size 3 1 tv' (tl++[(code.length:Int)]).length ((tl++[(code.length:Int)]).map i64)->(∀ k,cv.ownBlock=some k->tv'.ownBlock≠some k) ->
   ∃ H:Nat->Prop,Cd ⟨H,wB.heap.size,g,nv,lv',nums,loc⟩ w' w' L N 0/\(∀ w2,Fr (λk=>¬ H k) w' w2->Fr (λk=>k=g\/wB.heap.size<=k) wB w2/\w2.ownsRow wB.heap.size 3 1 tv' (tl++[(code.length:Int)]).length ((tl++[(code.length:Int)]).map i64))/\(∀ k,tv'.ownBlock=some k->H k):=by
  intro tv' w' L N hL hN f' hB' ho' ho2' hne';have hs:=f'.size;have hcv:∀ k,cv.ownBlock=some k->wB.heap.size<=k:=λk hk=>(ho'.lt k hk).1;have htv:∀ k,tv'.ownBlock=some k->k < w'.heap.size/\k≠g/\cv.ownBlock≠some k:=λk hk=>⟨(ho2'.lt k hk).2,by have:=(ho2'.lt k hk).1;omega,λhc=>hne' k hc hk⟩
  obtain ⟨mo,tr⟩:=hMo (λk=>k < w'.heap.size/\k≠g/\cv.ownBlock≠some k) f' (λk hk hH=>by
   apply Classical.byContradiction;intro hkg;exact hH ⟨by omega,hkg,λhc=>by have:=hcv k hc;omega⟩) (λk hk=>⟨hk.1,hk.2.1⟩)
  exact ⟨_,⟨mo,Fr.refl _ _,cv,code,pos,hB',ho',hL,hN,hrg,λk hk hH=>hH.2.2 hk⟩,λw2 f2=>⟨tr w2 f2,f2.own ho2' λk hk hH=>hH (htv k hk)⟩,htv⟩
 refine lnR xU (hr.ext (hf fr).2) (aZ.2 ?_);by_cases c0:(j:Int) < (rl.length:Int)/\(j:Int) < 12/\(code.length:Int) < 70
 case pos=>
  obtain ⟨c1,c2,c3⟩:=c0;simp only [c1,c2,aR];refine ⟨.inl ⟨_,rfl⟩,aV (bO.boxed hB9) dC hU rfl (gE kQ (aA.of_own ho9) (aZ.2 ?_))⟩;simp only [c3,aR];refine grow λtv' w3 f3 hB3 ho3 ho4 hne3=>?_;obtain ⟨H,hcd,hst,htH⟩:=hold rfl (Nat.le_refl _) f3 hB3 ho3 ho4 hne3;have D3:aG w3 w3.drew:=(aG.refl _).drew;obtain ⟨x,hx⟩:=bI (l:=rl) (j:=j) (by omega);obtain ⟨uv,urun,usl⟩:=aCz underlying23 bT (aA.of_own ho4) (lo:=none) (hi':=some (.int .i64 (j:Int))) (a:=0) (b:=j) (.inl ⟨rfl,rfl⟩) (.inr rfl) (by omega) (by simp;omega);refine aL.mk' (λw'=>aG w3 w') D3 ?_;refine ySS xU bEa ((hr.ext (hf f3).2).str hx) (λ_ h=>h) hx (λ_ row e h=>by rw [h];rfl) λrow hrow=>?_;have hrow:row=[i64 x.k,i64 x.a,i64 x.b,i64 x.e]:=hrow;subst hrow;refine aF.ok (λw' _=>urun _) ?_;have mk3:=(hcd.mk (n:=4100*j) hc9 hp9).ext D3;refine bCt (tl:=tl) (ms:=ms) (is:=is) mk3 (by omega) (λw' f=>?_) (by omega) (λw' f=>hm.ext (hf (hst w' f).1).2) (λw' f=>hi.ext (hf (hst w' f).1).2) m0 m4 i0 i4 λw4 h4=>bJ.2 ?_
  ·have:=usl w' (aA.of_own (hst w' f).2);unfold aO;rw [htl];simpa [<- htl] using this
  ·rw [aQ (by omega),bK];obtain ⟨_,f4,cv4,code4,pos4,b1,b2,b3,b4,b5,b6,b7⟩:=h4;obtain ⟨f5,ho5⟩:=hst _ f4;exact ⟨⟨j+1,tl++[(code.length:Int)],cv4,code4,pos4,rfl,by omega,by omega,by simp [htl],f5,b1,b2,by omega,by omega,b6,ho5,λk hk hk'=>b7 k hk (htH k hk')⟩,by simp only [aK];omega⟩
 have c5:¬ ((j:Int) < (rl.length:Int))\/((j:Int) < (rl.length:Int)/\¬ ((j:Int) < 12))\/((j:Int) < (rl.length:Int)/\(j:Int) < 12/\¬ ((code.length:Int) < 70)):=by omega
 clear c0;rcases c5 with c1|⟨c1,c2⟩|⟨c1,c2,c3⟩
 case' neg.inl=>simp only [c1,aR]
 case' neg.inr.inl=>simp only [c1,c2,aR]
 case' neg.inr.inr=>
  simp only [c1,c2,aR];refine ⟨.inl ⟨_,rfl⟩,aV (bO.boxed hB9) dC hU rfl (gE kQ (aA.of_own ho9) (aZ.2 ?_))⟩;simp only [c3,aR]
 all_goals
  refine grow λtv' w3 f3 hB3 ho3 ho4 hne3=>?_;obtain ⟨H,hcd,hst,htH⟩:=hold (N:=4100*j) rfl hp9 f3 hB3 ho3 ho4 hne3;have htl':(tl++[(code.length:Int)]).length=j+1:=by simp [htl]
  clear hold grow;generalize tl++[(code.length:Int)]=tl' at *;clear hB9 ho9 hrg hot hne fr hng hs9 hB3 ho3 hne3 f3 hp9 htl;generalize code.length=L at *
  have fin:∀ {w' L N},Cd ⟨H,wB.heap.size,g,nv,lv',nums,loc⟩ w3 w' L N 0->L<=700000->Go.Vc.bN (.pointer (some ⟨g,0,none⟩))/\V prog (Instr.fieldAt 195 (.pointer (some ⟨g,0,none⟩)) 0) w' λt w=>V prog (Instr.loadAt 36 t) w K:=by
   intro w' L N hc hL;obtain ⟨_,f,cv,code,pos,b1,b2,b3,b4,b5,b6⟩:=hc;have hx:=(hf (hst _ f).1).2;have:=xB.size;exact ⟨.inl ⟨_,rfl⟩,aV (bO.boxed b1) (by first|exact cX|exact cW|exact cA|exact cV|exact cK|exact cJ|exact bZ|exact cU|exact cT|exact cS|exact cI|exact cH|exact cG|exact bW|exact cR|exact bV|exact dG|exact cQ|exact cP|exact dF|exact dE|exact dL|exact dK|exact dJ|exact dD|exact dI|exact dT|exact dS|exact eC|exact eQ|exact eB|exact dR|exact fB|exact eO|exact fA|exact bU|exact eA|exact dZ|exact dY|exact eN|exact dQ|exact bY|exact cF|exact eZ|exact eM|exact cE|exact dX|exact fH|exact dW|exact fS|exact eY|exact bG|exact eX|exact cD|exact eJ|exact eW|exact fR|exact dC) (by first|exact iD|exact iY|exact iN|exact iX|exact kT|exact iW|exact kZ|exact iV|exact iU|exact bE|exact jP|exact iT|exact dN|exact aE|exact kY|exact hU) rfl (hk _ code w' (aU b2 (show w.heap.size<=wB.heap.size by omega)) b5 (by omega) (x25.trans hx))⟩
  have hmt:∀ {w'},Fr (λk=>¬ H k) w3 w'->bF w' b5 [pv,i64 m.result,lv,_]:=λf=>hb5.ext (hf (hst _ f).1).2;refine ⟨λv w'=>∃ k:Nat,v=i64 k/\k<=L/\Cd ⟨H,wB.heap.size,g,nv,lv',nums,loc⟩ w3 w' L (4100*j) 0,λv _=>L - (RowKit.intOf v).toNat,⟨0,rfl,Nat.zero_le _,hcd⟩,?_⟩;clear hcd;rintro _ w10 ⟨k,rfl,hkL,hcd⟩ _;refine ⟨.inl ⟨_,rfl⟩,bLr hcd (aZ.2 (aC (λhlt=>?_) λhge2=>?_))⟩
  ·obtain ⟨g',cap,code',pos',hcl,hpp,hC⟩:=hcd.code (by omega);obtain ⟨x,hx⟩:=bI (l:=code') (j:=k) (by omega);have hsl:=aA.of_own hC.own
   have nxt:∀ {w'},Cd ⟨H,wB.heap.size,g,nv,lv',nums,loc⟩ w3 w' L (4100*j) 0->V prog (binOp .add 3 (i64 k) (i64 1)) w' λt w2=>(∃ k:Nat,t=i64 k/\k<=L/\Cd ⟨H,wB.heap.size,g,nv,lv',nums,loc⟩ w3 w2 L (4100*j) 0)/\L - (RowKit.intOf t).toNat < L - (RowKit.intOf (i64 (k:Int))).toNat:=by
    intro w' hc';refine jS (by omega) ?_;exact ⟨⟨k+1,rfl,by omega,hc'⟩,by simp only [aK];omega⟩
   refine ⟨.inl ⟨_,rfl⟩,aV (bO.boxed hC.blk) (by first|exact cX|exact cW|exact cA|exact cV|exact cK|exact cJ|exact bZ|exact cU|exact cT|exact cS|exact cI|exact cH|exact cG|exact bW|exact cR|exact bV|exact dG|exact cQ|exact cP|exact dF|exact dE|exact dL|exact dK|exact dJ|exact dD|exact dI|exact dT|exact dS|exact eC|exact eQ|exact eB|exact dR|exact fB|exact eO|exact fA|exact bU|exact eA|exact dZ|exact dY|exact eN|exact dQ|exact bY|exact cF|exact eZ|exact eM|exact cE|exact dX|exact fH|exact dW|exact fS|exact eY|exact bG|exact eX|exact cD|exact eJ|exact eW|exact fR|exact dC) (by first|exact iD|exact iY|exact iN|exact iX|exact kT|exact iW|exact kZ|exact iV|exact iU|exact bE|exact jP|exact iT|exact dN|exact aE|exact kY|exact hU) rfl ?_⟩;refine bDy kQ aS (by first|exact iD|exact iY|exact iN|exact iX|exact kT|exact iW|exact kZ|exact iV|exact iU|exact bE|exact jP|exact iT|exact dN|exact aE) hsl (by omega) (by omega) (aRw hx) (aJ.2 ?_)
   by_cases h24:x.op=24
   case neg=>simp only [h24,aR];exact nxt hcd
   simp only [h24,aR];refine ⟨.inl ⟨_,rfl⟩,aV (bO.boxed hC.blk) (by first|exact cX|exact cW|exact cA|exact cV|exact cK|exact cJ|exact bZ|exact cU|exact cT|exact cS|exact cI|exact cH|exact cG|exact bW|exact cR|exact bV|exact dG|exact cQ|exact cP|exact dF|exact dE|exact dL|exact dK|exact dJ|exact dD|exact dI|exact dT|exact dS|exact eC|exact eQ|exact eB|exact dR|exact fB|exact eO|exact fA|exact bU|exact eA|exact dZ|exact dY|exact eN|exact dQ|exact bY|exact cF|exact eZ|exact eM|exact cE|exact dX|exact fH|exact dW|exact fS|exact eY|exact bG|exact eX|exact cD|exact eJ|exact eW|exact fR|exact dC) (by first|exact iD|exact iY|exact iN|exact iX|exact kT|exact iW|exact kZ|exact iV|exact iU|exact bE|exact jP|exact iT|exact dN|exact aE|exact kY|exact hU) rfl ?_⟩;refine bDy kQ aX (by first|exact iD|exact iY|exact iN|exact iX|exact kT|exact iW|exact kZ|exact iV|exact iU|exact bE|exact jP|exact iT|exact dN|exact aE) hsl (by omega) (by omega) (XP hx) (aZ.2 ?_)
   by_cases ha0:x.a < 0
   case neg=>simp only [ha0,aR];exact nxt hcd
   simp only [ha0,aR];refine ⟨λv w'=>∃ q:Nat,v=i64 q/\q < tl'.length/\w'=w10,λv _=>tl'.length - (RowKit.intOf v).toNat,⟨0,rfl,by omega,rfl⟩,?_⟩;rintro _ w11 ⟨q,rfl,hq,hw⟩ _;have hw:=hw.symm;subst hw;have hot:=aA.of_own (hst _ hC.fr).2;refine gE aP hot (fT.2 ?_);rw [aQ (by omega)];refine aZ.2 ?_;by_cases c0:(q:Int) < (tl'.length:Int) - 1/\cN tl' q<=(k:Int)
   case pos=>
    obtain ⟨c1,c2⟩:=c0;simp only [c1,aR];refine mH aP aE hot (by omega) (by omega) (cM (lQ (by omega))) (uJ.2 ?_);simp only [c2,aR];refine jS (by omega) ?_;exact ⟨⟨q+1,rfl,by omega,rfl⟩,by simp only [aK];omega⟩
   have c5:¬ ((q:Int) < (tl'.length:Int) - 1)\/((q:Int) < (tl'.length:Int) - 1/\¬ (cN tl' q<=(k:Int))):=by omega
   clear c0;rcases c5 with c1|⟨c1,c2⟩
   case' neg.inl=>simp only [c1,aR]
   case' neg.inr=>
    simp only [c1,aR];refine mH aP aE hot (by omega) (by omega) (cM (lQ (by omega))) (uJ.2 ?_);simp only [c2,aR]
   all_goals
    have D1:aG w10 w10.drew:=(aG.refl _).drew;have hC:=hC.ext D1;have hot:=hot.ext D1;refine aL.mk' (λw'=>aG w10.drew w') (aG.refl _) ?_;refine ⟨.inl ⟨_,rfl⟩,iB (λw' hx=>bO.boxed (hC.blk.ext hx)) (by first|exact cX|exact cW|exact cA|exact cV|exact cK|exact cJ|exact bZ|exact cU|exact cT|exact cS|exact cI|exact cH|exact cG|exact bW|exact cR|exact bV|exact dG|exact cQ|exact cP|exact dF|exact dE|exact dL|exact dK|exact dJ|exact dD|exact dI|exact dT|exact dS|exact eC|exact eQ|exact eB|exact dR|exact fB|exact eO|exact fA|exact bU|exact eA|exact dZ|exact dY|exact eN|exact dQ|exact bY|exact cF|exact eZ|exact eM|exact cE|exact dX|exact fH|exact dW|exact fS|exact eY|exact bG|exact eX|exact cD|exact eJ|exact eW|exact fR|exact dC) (by first|exact iD|exact iY|exact iN|exact iX|exact kT|exact iW|exact kZ|exact iV|exact iU|exact bE|exact jP|exact iT|exact dN|exact aE|exact kY|exact hU) rfl ?_⟩;refine sZ aP hot ?_
    refine aF.ok (λw' _=>fG) (aF.ok (λw' _=>ME) (aF.ok (λw' _=>WN) ?_));rw [show IntKind.i64.wrap ((tl'.length:Int) - 1)=(tl'.length:Int) - 1 from aQ (by omega),show IntKind.i64.wrap ((q:Int)+1)=(q:Int)+1 from aQ (by omega)];obtain ⟨r,hr2,hr3⟩:∃ r:Nat,min ((tl'.length:Int) - 1) ((q:Int)+1)=r/\r < tl'.length:=⟨min (tl'.length - 1) (q+1),by omega,by omega⟩;rw [hr2];refine nT aP aE hot (λ_ h=>h) (by omega) (by omega) (cM (lQ hr3)) ?_;refine aF.ok (λw' _=>jZ underlying36 uY (by omega) (by omega)) ?_;refine aF.ok (λw' _=>FA.ex aX w' _ _) ?_;rw [Int.toNat_natCast];exact bAy hC (by omega) λw12 code2 hl2 hC2=>nxt (hC2.cd (by omega) hpp)
  refine ⟨λw'=>∃ L',L'<=60000/\Cd ⟨H,wB.heap.size,g,nv,lv',nums,loc⟩ w3 w' L' 60000 0,?_,?_⟩
  ·refine aV (hmt hcd.2.1) (by first|exact cX|exact cW|exact cA|exact cV|exact cK|exact cJ|exact bZ|exact cU|exact cT|exact cS|exact cI|exact cH|exact cG|exact bW|exact cR|exact bV|exact dG|exact cQ|exact cP|exact dF|exact dE|exact dL|exact dK|exact dJ|exact dD|exact dI|exact dT|exact dS|exact eC|exact eQ|exact eB|exact dR|exact fB|exact eO|exact fA|exact bU|exact eA|exact dZ|exact dY|exact eN|exact dQ|exact bY|exact cF|exact eZ|exact eM|exact cE|exact dX|exact fH|exact dW|exact fS|exact eY|exact bG|exact eX|exact cD|exact eJ|exact eW|exact fR|exact dC|exact fQ|exact gM|exact gD|exact iK|exact jE|exact dV|exact gK|exact jD|exact iJ|exact jC|exact jB|exact jA|exact iZ|exact iI|exact bQ|exact gC|exact gJ|exact eI|exact eG|exact kL|exact kK|exact lN|exact jT|exact fP|exact bP|exact kP|exact lM|exact gT|exact eR|exact dM|exact gG) (by first|exact iD|exact iY|exact iN|exact iX|exact kT|exact iW|exact kZ|exact iV|exact iU|exact bE|exact jP|exact iT|exact dN|exact aE) rfl (cL.2 (aC (λhr=>?_) λhr=>⟨L,by omega,hcd.weak (by omega)⟩));refine aV (hmt hcd.2.1) (by first|exact cX|exact cW|exact cA|exact cV|exact cK|exact cJ|exact bZ|exact cU|exact cT|exact cS|exact cI|exact cH|exact cG|exact bW|exact cR|exact bV|exact dG|exact cQ|exact cP|exact dF|exact dE|exact dL|exact dK|exact dJ|exact dD|exact dI|exact dT|exact dS|exact eC|exact eQ|exact eB|exact dR|exact fB|exact eO|exact fA|exact bU|exact eA|exact dZ|exact dY|exact eN|exact dQ|exact bY|exact cF|exact eZ|exact eM|exact cE|exact dX|exact fH|exact dW|exact fS|exact eY|exact bG|exact eX|exact cD|exact eJ|exact eW|exact fR|exact dC|exact fQ|exact gM|exact gD|exact iK|exact jE|exact dV|exact gK|exact jD|exact iJ|exact jC|exact jB|exact jA|exact iZ|exact iI|exact bQ|exact gC|exact gJ|exact eI|exact eG|exact kL|exact kK|exact lN|exact jT|exact fP|exact bP|exact kP|exact lM|exact gT|exact eR|exact dM|exact gG) (by first|exact iD|exact iY|exact iN|exact iX|exact kT|exact iW|exact kZ|exact iV|exact iU|exact bE|exact jP|exact iT|exact dN|exact aE) rfl ?_
   refine IH (hcd.mk (n:=49200) (by omega) (by omega)) (by omega) λw11 h11=>?_;obtain ⟨L',h1,h2⟩:=h11.cd;exact ⟨L',by omega,h2.weak (by omega)⟩
  rintro w11 ⟨L',hL',hcd'⟩ _;refine gZ (hcd'.mk (n:=60000) (by omega) (by omega)) (by omega) λw12 h12=>?_;obtain ⟨L2,hL2,hcd2⟩:=h12.cd;refine ⟨.inl ⟨_,rfl⟩,bLr hcd2 (jF.2 (aC (λhg=>?_) λhg=>fin hcd2 (by omega)))⟩;have hsB:wB.heap.size<=w12.heap.size:=(hst _ hcd2.2.1).1.size;refine lF OC [(0,i64 39)] rfl rfl ?_;refine xM underlying36 uY rfl (by decide) [.agg #[i64 39,i64 0,i64 0]] rfl rfl (by intro v hv;rw [List.mem_singleton] at hv;subst hv;rfl) (by decide) (by decide) λuv w13 ho13 x13=>?_;refine ⟨.inl ⟨_,rfl⟩,aFu (code:=[⟨39,0,0⟩]) (hcd2.ext x13) ho13 hsB (by intro x hx;rw [List.mem_singleton] at hx;subst hx;exact ⟨by decide,by decide⟩) (λk hk hH=>?_) λw14 hcd4=>?_⟩
  ·have h1:=(ho13.lt k hk).1;have h2:=(hcd2.1.hH k hH).1;have h3:=hcd2.2.1.size;omega
  refine aV (hmt hcd4.2.1) (by first|exact cX|exact cW|exact cA|exact cV|exact cK|exact cJ|exact bZ|exact cU|exact cT|exact cS|exact cI|exact cH|exact cG|exact bW|exact cR|exact bV|exact dG|exact cQ|exact cP|exact dF|exact dE|exact dL|exact dK|exact dJ|exact dD|exact dI|exact dT|exact dS|exact eC|exact eQ|exact eB|exact dR|exact fB|exact eO|exact fA|exact bU|exact eA|exact dZ|exact dY|exact eN|exact dQ|exact bY|exact cF|exact eZ|exact eM|exact cE|exact dX|exact fH|exact dW|exact fS|exact eY|exact bG|exact eX|exact cD|exact eJ|exact eW|exact fR|exact dC|exact fQ|exact gM|exact gD|exact iK|exact jE|exact dV|exact gK|exact jD|exact iJ|exact jC|exact jB|exact jA|exact iZ|exact iI|exact bQ|exact gC|exact gJ|exact eI|exact eG|exact kL|exact kK|exact lN|exact jT|exact fP|exact bP|exact kP|exact lM|exact gT|exact eR|exact dM|exact gG) (by first|exact iD|exact iY|exact iN|exact iX|exact kT|exact iW|exact kZ|exact iV|exact iU|exact bE|exact jP|exact iT|exact dN|exact aE) rfl (cL.2 (aC (λhr=>?_) λhr=>fin hcd4 (by simp)));refine lF OC [(0,i64 1)] rfl rfl (lF OC [(0,i64 39)] rfl rfl ?_)
  have hsB4:wB.heap.size<=w14.heap.size:=(hst _ hcd4.2.1).1.size;refine xM underlying36 uY rfl (by decide) [.agg #[i64 1,i64 0,i64 0],.agg #[i64 39,i64 0,i64 0]] rfl rfl (by intro v hv;simp only [List.mem_cons,List.not_mem_nil,or_false] at hv;rcases hv with rfl|rfl<;>rfl) (by decide) (by decide) λuv5 w15 ho15 x15=>?_;refine ⟨.inl ⟨_,rfl⟩,aFu (code:=[⟨1,0,0⟩,⟨39,0,0⟩]) (hcd4.ext x15) ho15 hsB4 (by intro x hx;simp only [List.mem_cons,List.not_mem_nil,or_false] at hx;rcases hx with rfl|rfl<;>exact ⟨by decide,by decide⟩) (λk hk hH=>?_) λw16 hcd6=>fin hcd6 (by simp)⟩;have h1:=(ho15.lt k hk).1;have h2:=(hcd4.1.hH k hH).1;have h3:=hcd4.2.1.size;omega
end Go.Proofs.YtjcmcfidblhnnaaGreatDoor
namespace Go.Vc
section
variable {P:Program} {w:O} {K:Y->O->Prop}
theorem yF (w:O) (s:ByteArray) (pos:Nat) (ty:TypeId) (h:pos < s.size) :
  (Instr.next (.pointer (some ⟨w.heap.size,0,none⟩)) true ty).run P (w.iter s pos)=.ok (.tuple #[.bool true,i64 pos,.int .i32 (Utf8.decode s pos).1]) (w.iter s (pos+(Utf8.decode s pos).2)):=by
 simp only [Instr.next,getObj,setObj,Sem.run_bind,Sem.run,World.iter_heap,Result.andThen,h,if_true,World.iter_set];simp [goInt]
theorem IJ {a:Array Y} {n:Nat} {v:Y} (h:a[n]?=some v) (hk:K v w):V P (Instr.extract (.tuple a) n) w K:=V.ok (by simp [Instr.extract,h]) hk
theorem bBj {t:TypeId} (ht:P.underlying t=some .string) {s:ByteArray} {k:Nat} (h:k<=s.size):(Instr.sliceAt t (.string s) (some (i64 k)) none none).run P w=.ok (.string (s.extract k s.size)) w:=by
 simp [Instr.sliceAt,Instr.slice,run_underlying ht,Instr.sliceBounds,Instr.sliceBound,asIntOf,h]
theorem aGw {t e n:TypeId} {z:Y} {by_ sz:Nat} (ht:P.underlying t=some (.array n e)) (hi:cZ P e z sz by_) {b off:Nat} {k:IntKind} {i:Int} (h0:0<=i) (h1:i < n) :
  (Instr.indexAt t (.pointer (some ⟨b,off,none⟩)) (.int k i)).run P w=.ok (.pointer (some ⟨b,off+i.toNat*sz,none⟩)) w:=by
 simp [Instr.indexAt,asIntOf,run_underlying ht,Instr.sureAddr,gW hi,h0,h1,mA]
end
end Go.Vc
namespace Go.Proofs.YtjcmcfidblhnnaaGreatDoor
open Tryz
open Go.Vc Go.Tc
variable {w:O} {K:Y->O->Prop}
variable {vs:List ByteArray} {ps:List Nat}
def nmB:List ByteArray:=[⟨#[97,108,112,104,97]⟩,⟨#[98,195,169,116,97]⟩,⟨#[103,45,49]⟩,⟨#[100,46,195,191]⟩]
structure sW (w:O):Prop where
 f:w.cell? ⟨1,195,none⟩=some (.int .u8 2)
 a0:w.cell? ⟨2,0,none⟩=some (.int .u8 128)
 a1:w.cell? ⟨2,1,none⟩=some (.int .u8 191)
theorem sW.ext {w':O} (h:sW w) (hx:aG w w'):sW w':=⟨hx.cell h.f,hx.cell h.a0,hx.cell h.a1⟩
def bCq (t:ByteArray) (vs:List ByteArray):Prop:=t.size<=8/\(t.size=0\/(∃ c,t[0]?=some c/\c.toNat < 128/\t.extract 1 t.size∈vs)\/(∃ c,t[0]?=some 195/\t[1]?=some c/\128<=c.toNat/\c.toNat<=191/\t.extract 2 t.size∈vs))
theorem VZ {s:ByteArray} (hT:sW w) (h0:s∈vs) (hvs:∀ t∈vs,bCq t vs) (hk:∀ w',aG w w'->K (.bool true) w'):aB prog 142 #[.string s] w K:=by
 apply aZb;unfold RO;refine ⟨λv w'=>∃ t,t∈vs/\v=.string t/\aG w w',λv _=>match v with|.string s=>s.size|_=>0,⟨s,h0,rfl,aG.refl _⟩,?_⟩;rintro _ w1 ⟨t,ht,rfl,x1⟩ _;obtain ⟨h8,hc⟩:=hvs t ht;refine V.ok (uW underlying9) (jF.2 ?_);have hsz:∀ {j:Nat} {c:UInt8},t[j]?=some c->j < t.size:=λh=>(getElem?_eq_some_iff.1 h).1;have hex:∀ k,(t.extract k t.size).size=t.size - k:=λk=>by simp
 rcases hc with hz|⟨c,hc0,hlt,hmem⟩|⟨c,hc0,hc1,hlo,hhi,hmem⟩
 ·have:¬ (t.size:Int) > 0:=by omega
  simp only [this,aR];exact hk _ x1
 ·have hs:=hsz hc0;have e1:(t.size:Int) > 0:=by omega
  simp only [e1,aR];refine V.ok (wY underlying9 hc0) (aZ.2 ?_);have e2:(c.toNat:Int) < 128:=by omega
  simp only [e2,aR];refine V.ok (bBj (k:=1) underlying9 (by omega)) ?_;refine ⟨λv w'=>v=.string (t.extract 1 t.size)/\w'=w1,V.ok (uW underlying9) (jF.2 ?_),?_⟩
  ·have e3:¬ ((t.extract 1 t.size).size:Int) > 8:=by rw [hex];omega
   simp only [e3,aR];exact ⟨trivial,trivial⟩
  ·rintro _ _ ⟨rfl,rfl⟩ _;refine ⟨⟨_,hmem,rfl,x1⟩,?_⟩;show (t.extract 1 t.size).size < t.size;rw [hex];omega
 ·have hs0:=hsz hc0;have hs:=hsz hc1;have e1:(t.size:Int) > 0:=by omega
  simp only [e1,aR];refine V.ok (wY underlying9 hc0) (aZ.2 ?_);have e2:¬ (((195:UInt8).toNat:Nat):Int) < 128:=by decide
  simp only [e2,aR];have hT1:=hT.ext x1;refine V.ok (aGw underlying276 bEn (by decide) (by decide)) ?_;refine V.ok (bDc hT1.f) ?_;refine V.ok (v:=.int .u8 2) (w':=w1) (by kernel_rfl) ?_;refine V.ok (v:=i64 2) (w':=w1) (by kernel_rfl) ?_;refine V.ok (v:=.int .u8 0) (w':=w1) (by kernel_rfl) ?_;refine V.ok (aGw underlying279 UG (by decide) (by decide)) ?_;obtain ⟨d,z,by_,g1,g2,g3⟩:=bDz;refine V.ok (nG (cs:=[.int .u8 128,.int .u8 191]) g1 g2 g3 rfl λj hj=>?_) ?_
  ·match j,hj with
   | 0,_=>exact hT1.a0
   | 1,_=>exact hT1.a1
  refine sG bCx rfl rfl λb2 w2 hb2 x2=>?_;have hb2:bF w2 b2 [.int .u8 128,.int .u8 191]:=hb2;refine aJ.2 ?_;simp only [aR,Int.reduceEq];have D1:aG w2 w2.drew:=(aG.refl _).drew;refine aL.mk' (λw'=>aG w2 w') D1 ?_;refine aF.ok (λw' _=>uW underlying9) (aF.ok (λw' _=>BA) ?_);have e3:¬ (t.size:Int) < 2:=by omega
  simp only [e3,aR];refine aF.ok (λw' _=>wY underlying9 hc1) ?_;refine iB (λw' hw=>hb2.ext hw) kL bLv rfl (aF.ok (λw' _=>BA) ?_);have e4:¬ (c.toNat:Int) < 128:=by omega
  simp only [e4,aR];refine iB (λw' hw=>hb2.ext hw) kK bLv rfl ?_;refine aF.ok (λw' _=>wY underlying9 hc1) (aF.ok (λw' _=>BA) ?_);have e5:¬ (191:Int) < (c.toNat:Int):=by omega
  simp only [e5,aR];refine V.ok (bBj (k:=2) underlying9 (by omega)) ?_;refine ⟨⟨_,hmem,rfl,(x1.trans x2).trans D1⟩,?_⟩;show (t.extract 2 t.size).size < t.size;rw [hex];omega
def rnB (c:Nat):Bool:=(97<=c&&c<=122)||(48<=c&&c<=57)||c == 45||c == 46||(224<=c&&c<=255)
theorem GS {c:Nat} (h:rnB c=true):(97<=c/\c<=122)\/(¬ (97<=c)/\48<=c/\c<=57)\/c=45\/c=46\/(224<=c/\c<=255):=by
 simp only [rnB,Bool.or_eq_true,Bool.and_eq_true,decide_eq_true_eq,beq_iff_eq] at h;omega
theorem aDs {c:Nat} (h:rnB c=true) (hk:K (.bool true) w):aB prog 155 #[.int .i32 c] w K:=by
 apply aYn;unfold RA;rcases GS h with ⟨h1,h2⟩|⟨h0,h1,h2⟩|rfl|rfl|⟨h1,h2⟩
 ·have a1:(c:Int)>=97:=by omega
  have a2:(c:Int)<=122:=by omega
  simp only [a1,a2,aR];exact hk
 ·have a1:¬ (c:Int)>=97:=by omega
  have a2:(c:Int)>=48:=by omega
  have a3:(c:Int)<=57:=by omega
  simp only [a1,a2,a3,aR];exact hk
 ·simp only [show ((45:Nat):Int)=45 from rfl,aR,Int.reduceGE];exact hk
 ·simp only [show ((46:Nat):Int)=46 from rfl,aR,Int.reduceEq,Int.reduceGE];exact hk
 ·have a1:(c:Int)>=97:=by omega
  have a2:¬ (c:Int)<=122:=by omega
  have a3:(c:Int)>=48:=by omega
  have a4:¬ (c:Int)<=57:=by omega
  have a5:¬ (c:Int)=45:=by omega
  have a6:¬ (c:Int)=46:=by omega
  have a7:(c:Int)>=224:=by omega
  have a8:(c:Int)<=255:=by omega
  simp only [a1,a2,a3,a4,a5,a6,a7,a8,aR];exact hk
def bDl (s:ByteArray) (vs:List ByteArray) (ps:List Nat):Prop:=(s∈vs/\∀ t∈vs,bCq t vs)/\(1<=s.size/\s.size<=16)/\0∈ps/\∀ p∈ps,p < s.size->rnB (Utf8.decode s p).1=true/\p+(Utf8.decode s p).2∈ps/\0 < (Utf8.decode s p).2
theorem NC {s:ByteArray} (hT:sW w) (h:bDl s vs ps):aB prog 90 #[.string s] w (cY True w):=by
 obtain ⟨⟨h1,h2⟩,⟨h3,h4⟩,h5,h6⟩:=h;apply bGy;suffices key:∀ R:Y->O->Prop,(∀ w',aG w w'->R (.bool true) w')->KZ (.string s) w R from key _ λ_ hx=>cY.yes trivial hx;intro R hR;unfold KZ;refine V.ok (uW underlying9) (aZ.2 ?_);have e1:¬ (s.size:Int) < 1:=by omega
 simp only [e1,aR];refine V.ok (uW underlying9) (jF.2 ?_);have e2:¬ (s.size:Int) > 16:=by omega
 simp only [e2,aR];refine VZ hT h1 h2 λw1 x1=>dO.2 ?_;simp only [aR];refine V.ok (run_range_string _ _ _ underlying9) ?_;refine ⟨λw'=>∃ p∈ps,w'=w1.iter s p,λw'=>mu λq=>∃ p∈ps,w'=w1.iter s p/\s.size - p=q,⟨0,h5,rfl⟩,?_⟩;rintro _ ⟨p0,hp0,rfl⟩ _;obtain ⟨p,hp,hpe,hmu⟩:=yO (p:=λq=>∃ p∈ps,w1.iter s p0=w1.iter s p/\s.size - p=q) ⟨_,p0,hp0,rfl,rfl⟩;rw [hpe];rw [hpe] at hmu;by_cases hlt:p < s.size
 ·obtain ⟨g1,g2,g3⟩:=h6 p hp hlt;refine V.ok (yF _ _ _ _ hlt) (IJ (v:=.bool true) rfl (bH.2 (IJ (v:=.int .i32 ((Utf8.decode s p).1:Nat)) rfl ?_)))
  have hmu':mu (λq=>∃ p'∈ps,w1.iter s (p+(Utf8.decode s p).2)=w1.iter s p'/\s.size - p'=q) < mu (λq=>∃ p'∈ps,w1.iter s p=w1.iter s p'/\s.size - p'=q):=by
   rw [<- hmu];exact Nat.lt_of_le_of_lt (MP ⟨_,g2,rfl,rfl⟩) (by omega)
  generalize (Utf8.decode s p).2=wd at *;generalize (Utf8.decode s p).1=c at *;rcases GS g1 with ⟨h1,h2⟩|⟨h0,h1,h2⟩|rfl|rfl|⟨h1,h2⟩
  ·have a1:(c:Int)>=97:=by omega
   have a2:(c:Int)<=122:=by omega
   simp only [a1,a2,aR];exact ⟨⟨_,g2,rfl⟩,hmu'⟩
  ·have a1:¬ (c:Int)>=97:=by omega
   have a2:(c:Int)>=48:=by omega
   have a3:(c:Int)<=57:=by omega
   simp only [a1,a2,a3,aR];exact ⟨⟨_,g2,rfl⟩,hmu'⟩
  ·simp only [show ((45:Nat):Int)=45 from rfl,aR,Int.reduceGE];exact ⟨⟨_,g2,rfl⟩,hmu'⟩
  ·simp only [show ((46:Nat):Int)=46 from rfl,aR,Int.reduceEq,Int.reduceGE];exact ⟨⟨_,g2,rfl⟩,hmu'⟩
  ·have a1:(c:Int)>=97:=by omega
   have a2:¬ (c:Int)<=122:=by omega
   have a3:(c:Int)>=48:=by omega
   have a4:¬ (c:Int)<=57:=by omega
   have a5:¬ (c:Int)=45:=by omega
   have a6:¬ (c:Int)=46:=by omega
   have a7:(c:Int)>=224:=by omega
   have a8:(c:Int)<=255:=by omega
   simp only [a1,a2,a3,a4,a5,a6,a7,a8,aR];exact ⟨⟨_,g2,rfl⟩,hmu'⟩
 ·refine V.ok (run_next_end _ _ _ _ hlt) (IJ rfl (aM.2 ?_));exact hR _ (x1.trans ((aG.refl _).alloc _))
theorem HO {s:ByteArray} (hT:sW w) (h:bDl s vs ps) (hne:(s.toList == ({ data:=#[] }:ByteArray).toList)=false):aB prog 106 #[.string s] w (cY True w):=by
 obtain ⟨⟨h1,h2⟩,⟨h3,h4⟩,h5,h6⟩:=h;apply bAo;suffices key:∀ R:Y->O->Prop,(∀ w',aG w w'->R (.bool true) w')->FU (.string s) w R from key _ λ_ hx=>cY.yes trivial hx;intro R hR;unfold FU;refine V.ok WQ ?_;rw [hne];simp only [aR];refine V.ok (uW underlying9) (jF.2 ?_);have e2:¬ (s.size:Int) > 16:=by omega
 simp only [e2,aR];refine VZ hT h1 h2 λw1 x1=>dO.2 ?_;simp only [aR];refine V.ok (run_range_string _ _ _ underlying9) ?_;refine ⟨λw'=>∃ p∈ps,w'=w1.iter s p,λw'=>mu λq=>∃ p∈ps,w'=w1.iter s p/\s.size - p=q,⟨0,h5,rfl⟩,?_⟩;rintro _ ⟨p0,hp0,rfl⟩ _;obtain ⟨p,hp,hpe,hmu⟩:=yO (p:=λq=>∃ p∈ps,w1.iter s p0=w1.iter s p/\s.size - p=q) ⟨_,p0,hp0,rfl,rfl⟩;rw [hpe];rw [hpe] at hmu;by_cases hlt:p < s.size
 ·obtain ⟨g1,g2,g3⟩:=h6 p hp hlt;refine V.ok (yF _ _ _ _ hlt) (IJ (v:=.bool true) rfl (bH.2 (IJ (v:=.int .i32 ((Utf8.decode s p).1:Nat)) rfl ?_)));refine aDs g1 (dO.2 (aM.2 ⟨⟨_,g2,rfl⟩,?_⟩));show mu _ < mu _;rw [<- hmu];exact Nat.lt_of_le_of_lt (MP ⟨_,g2,rfl,rfl⟩) (by omega)
 ·refine V.ok (run_next_end _ _ _ _ hlt) (IJ rfl (aM.2 ?_));exact hR _ (x1.trans ((aG.refl _).alloc _))
def aHw (t:ByteArray) (vs:List ByteArray):Bool:=vs.any λu=>decide (u.data=t.data)
theorem JQ {t:ByteArray} (h:aHw t vs=true):t∈vs:=by
 simp only [aHw,List.any_eq_true,decide_eq_true_eq] at h;obtain ⟨u,hu,he⟩:=h;have:u=t:=ByteArray.ext he;subst this;exact hu
def aFs (t:ByteArray) (vs:List ByteArray):Bool:=
 decide (t.size<=8)&&(decide (t.size=0)||(match t[0]? with
  | some c=>(decide (c.toNat < 128)&&aHw (t.extract 1 t.size) vs)||(decide (c=195)&&(match t[1]? with
   | some d=>decide (128<=d.toNat/\d.toNat<=191)&&aHw (t.extract 2 t.size) vs
   | none=>false))
  | none=>false))
theorem aFr {t:ByteArray} (h:aFs t vs=true):bCq t vs:=by
 simp only [aFs,Bool.and_eq_true,Bool.or_eq_true,decide_eq_true_eq] at h;refine ⟨h.1,?_⟩;rcases h.2 with h2|h2
 ·exact .inl h2
 ·right;cases h0:t[0]? with
  | none=>rw [h0] at h2;cases h2
  | some c=>
   rw [h0] at h2;simp only [Bool.or_eq_true,Bool.and_eq_true,decide_eq_true_eq] at h2;rcases h2 with ⟨a,b⟩|⟨a,b⟩
   ·exact .inl ⟨c,rfl,a,JQ b⟩
   ·subst a;cases h1:t[1]? with
    | none=>rw [h1] at b;cases b
    | some d=>
     rw [h1] at b;simp only [Bool.and_eq_true,decide_eq_true_eq] at b;exact .inr ⟨d,rfl,rfl,b.1.1,b.1.2,JQ b.2⟩
def XF (s:ByteArray) (vs:List ByteArray) (ps:List Nat):Bool:=
 (aHw s vs&&vs.all λt=>aFs t vs)&&decide (1<=s.size/\s.size<=16)&&decide (0∈ps)&&ps.all λp=>!decide (p < s.size)||(rnB (Utf8.decode s p).1&&decide (p+(Utf8.decode s p).2∈ps)&&decide (0 < (Utf8.decode s p).2))
theorem yN {s:ByteArray} (h:XF s vs ps=true):bDl s vs ps:=by
 simp only [XF,Bool.and_eq_true,decide_eq_true_eq,List.all_eq_true] at h;obtain ⟨⟨⟨⟨h1,h2⟩,h3⟩,h4⟩,h5⟩:=h;refine ⟨⟨JQ h1,λt ht=>aFr (h2 t ht)⟩,h3,h4,λp hp hlt=>?_⟩;have:=h5 p hp;simp only [hlt,decide_true,Bool.not_true,Bool.false_or,Bool.and_eq_true,decide_eq_true_eq] at this;exact ⟨this.1.1,this.1.2,this.2⟩
theorem TT {s:ByteArray} (h:s∈nmB) (hT:sW w):vF w s:=by
 have key:∀ {vs:List ByteArray} {ps:List Nat},XF s vs ps=true->(s.toList == ({ data:=#[] }:ByteArray).toList)=false->vF w s:=λh1 h2 w' hx=>⟨NC (hT.ext hx) (yN h1),HO (hT.ext hx) (yN h1) h2⟩;simp only [nmB,List.mem_cons,List.not_mem_nil,or_false] at h;rcases h with rfl|rfl|rfl|rfl
 ·exact key (vs:=[⟨#[97,108,112,104,97]⟩,⟨#[108,112,104,97]⟩,⟨#[112,104,97]⟩,⟨#[104,97]⟩,⟨#[97]⟩,⟨#[]⟩]) (ps:=[0,1,2,3,4,5]) (by kernel_rfl) (by kernel_rfl)
 ·exact key (vs:=[⟨#[98,195,169,116,97]⟩,⟨#[195,169,116,97]⟩,⟨#[116,97]⟩,⟨#[97]⟩,⟨#[]⟩]) (ps:=[0,1,3,4,5]) (by kernel_rfl) (by kernel_rfl)
 ·exact key (vs:=[⟨#[103,45,49]⟩,⟨#[45,49]⟩,⟨#[49]⟩,⟨#[]⟩]) (ps:=[0,1,2,3]) (by kernel_rfl) (by kernel_rfl)
 ·exact key (vs:=[⟨#[100,46,195,191]⟩,⟨#[46,195,191]⟩,⟨#[195,191]⟩,⟨#[]⟩]) (ps:=[0,1,2,4]) (by kernel_rfl) (by kernel_rfl)
theorem TU {n:Int} (hk:∀ s∈nmB,K (.string s) w):aB prog 42 #[i64 n] w K:=by
 apply bIs;unfold aBa;refine aSm (v:=.agg (nmB.map Value.string).toArray) (λw=>by kernel_rfl) ?_;refine iR (by decide) (by decide) λq hq0 hq1=>?_;have hc:q=0\/q=1\/q=2\/q=3:=by omega
 rcases hc with rfl|rfl|rfl|rfl
 ·exact V.ok (v:=.string ⟨#[97,108,112,104,97]⟩) (w':=w) (by kernel_rfl) (hk _ (by simp [nmB]))
 ·exact V.ok (v:=.string ⟨#[98,195,169,116,97]⟩) (w':=w) (by kernel_rfl) (hk _ (by simp [nmB]))
 ·exact V.ok (v:=.string ⟨#[103,45,49]⟩) (w':=w) (by kernel_rfl) (hk _ (by simp [nmB]))
 ·exact V.ok (v:=.string ⟨#[100,46,195,191]⟩) (w':=w) (by kernel_rfl) (hk _ (by simp [nmB]))
end Go.Proofs.YtjcmcfidblhnnaaGreatDoor
namespace Go.Vc
section
variable {P:Program} {w:O} {K:Y->O->Prop}
theorem bLa {t e sz:Nat} {z:Y} {by_:Nat} (ht:P.underlying t=some (.slice e)) (hi:cZ P e z sz by_) {v:Y} {n:Nat} {cs:List Y} (h:aA w v sz n cs) {lo hi':Option Y} {a b:Nat} (ha:(lo=none/\a=0)\/lo=some (.int .i64 a)) (hb:(hi'=none/\b=n)\/hi'=some (.int .i64 b)) (hab:a<=b) (hbn:b<=n) :
  ∃ v',(∀ w',(Instr.sliceAt t v lo hi' none).run P w'=.ok v' w')/\∀ w2,aA w2 v sz n cs->aA w2 v' sz (b - a) ((cs.drop (a*sz)).take ((b - a)*sz)):=by
 have hcl:cs.length=n*sz:=h.1;have hmul:(b - a)*sz+a*sz<=n*sz:=by rw [<- Nat.add_mul];exact Nat.mul_le_mul_right _ (by omega)
 rcases h.2 with ⟨rfl,h0⟩|⟨g,off,cap,rfl,h1,h2,_⟩
 ·have ea:a=0:=by omega
  have eb:b=0:=by omega
  subst ea eb;refine ⟨.slice none 0 0,λw'=>?_,λw2 _=>?_⟩
  ·rcases ha with ⟨rfl,_⟩|rfl<;>rcases hb with ⟨rfl,_⟩|rfl<;>simp [Instr.sliceAt,Instr.slice,run_underlying ht,gW hi,Instr.sliceBounds,Instr.sliceBound,asIntOf]
  ·simp;exact aA.nil w2 _
 ·have hb1:(0:Int)<=b/\(b:Int)<=cap:=⟨by omega,by omega⟩;have ha1:(0:Int)<=a/\(a:Int)<=b:=⟨by omega,by omega⟩;have hbc:b<=cap:=by omega
  refine ⟨.slice (if cap=a then some ⟨g,off,none⟩ else (some (⟨g,off,none⟩:Addr)).map (·.add (a*sz))) (b - a) (cap - a),λw'=>?_,λw2 hw2=>?_⟩
  ·rcases ha with ⟨rfl,rfl⟩|rfl<;>rcases hb with ⟨rfl,rfl⟩|rfl<;>simp [Instr.sliceAt,Instr.slice,run_underlying ht,gW hi,Instr.sliceBounds,Instr.sliceBound,asIntOf,hab,hbc]
  ·refine ⟨by rw [List.length_take,List.length_drop];omega,.inr ?_⟩;by_cases hca:cap=a
   ·rw [if_pos hca];have e0:b - a=0:=by omega
    exact ⟨g,off,cap - a,rfl,by omega,by omega,λj u hj=>by rw [e0] at hj;simp at hj⟩
   ·rw [if_neg hca];rcases hw2.2 with ⟨he,_⟩|⟨g',off',cap',he,_,_,h3⟩
    ·cases he
    ·cases he;refine ⟨g,off+a*sz,cap - a,by simp [mA],by omega,by omega,λj u hj=>?_⟩;rw [List.getElem?_take] at hj;split at hj
     ·rw [List.getElem?_drop] at hj;have:=h3 _ _ hj;rw [Nat.add_assoc];exact this
     ·cases hj
end
end Go.Vc
namespace Go.Proofs.YtjcmcfidblhnnaaGreatDoor
open Tryz
open Go.Vc Go.Tc
variable {w:O} {K:Y->O->Prop}
theorem bR.part {α:Type} {T:O->List Y->α->Prop} {sz t e by_:Nat} {z v:Y} {l:List α} (ht:Program.underlying prog t=some (.slice e)) (hi:cZ prog e z sz by_) (h:bR T sz w v l) {lo hi':Option Y} {a b:Nat} (ha:(lo=none/\a=0)\/lo=some (.int .i64 a)) (hb:(hi'=none/\b=l.length)\/hi'=some (.int .i64 b)) (hab:a<=b) (hbn:b<=l.length) :
  ∃ v',(∀ w',(Instr.sliceAt t v lo hi' none).run prog w'=.ok v' w')/\bR T sz w v' ((l.drop a).take (b - a)):=by
 obtain ⟨cs,h1,h2⟩:=h;obtain ⟨v',hr,hs⟩:=bLa ht hi h1 ha hb hab hbn;refine ⟨v',hr,(cs.drop (a*sz)).take ((b - a)*sz),?_,λk x hk=>?_⟩
 ·have:=hs w h1
  rwa [show ((l.drop a).take (b - a)).length=b - a by simp;omega]
 ·rw [List.getElem?_take] at hk;split at hk
  case isFalse=>cases hk
  rename_i hlt
  rw [List.getElem?_drop] at hk;obtain ⟨row,h3,h4⟩:=h2 (a+k) x hk;refine ⟨row,?_,h4⟩
  have hle:k*sz+sz<=(b - a)*sz:=by
   have:=Nat.mul_le_mul_right sz (show k+1<=b - a by omega);rw [Nat.add_mul,Nat.one_mul] at this;exact this
  have hmin:min sz ((b - a)*sz - k*sz)=sz:=Nat.min_eq_left (by omega);rw [<- h3,List.drop_take,List.drop_drop,List.take_take,Nat.add_mul,hmin]
theorem jQ.part {t e by_:Nat} {z v:Y} {l:List Rw} (ht:Program.underlying prog t=some (.slice e)) (hi:cZ prog e z 4 by_) (h:jQ w v l) {lo hi':Option Y} {a b:Nat} (ha:(lo=none/\a=0)\/lo=some (.int .i64 a)) (hb:(hi'=none/\b=l.length)\/hi'=some (.int .i64 b)) (hab:a<=b) (hbn:b<=l.length) :
  ∃ v',(∀ w',(Instr.sliceAt t v lo hi' none).run prog w'=.ok v' w')/\jQ w v' ((l.drop a).take (b - a)):=by
 by_cases h0:0 < l.length
 ·obtain ⟨v',h1,h2⟩:=bR.part ht hi (h.2 h0) ha hb hab hbn;exact ⟨v',h1,jQ.of h2⟩
 ·obtain ⟨⟨a0,c,rfl⟩,_⟩:=h;have el:l=[]:=List.length_eq_zero_iff.1 (by omega);subst el;obtain rfl:a=0:=by simp at hbn;omega
  obtain rfl:b=0:=by simpa using hbn
  refine ⟨.slice (if c=0 then a0 else a0.map (·.add (0*4))) 0 c,λw'=>?_,⟨_,_,rfl⟩,λh=>by simp at h⟩
  rcases ha with ⟨rfl,_⟩|rfl<;>rcases hb with ⟨rfl,_⟩|rfl<;>simp [Instr.sliceAt,Instr.slice,run_underlying ht,gW hi,Instr.sliceBounds,Instr.sliceBound,asIntOf]
theorem bNe {t s f o ft sz n g cap B e:Nat} {ez fz:Y} {eb fb:Nat} {xs:List Y} {k:Nat} {u:Y} {K':O->Prop} (_:Program.underlying prog t=some (.slice e)) (_:cZ prog e ez sz eb) (_:FA prog s f o) (hft:cZ prog ft fz 1 fb)
  (ho:w.ownsRow B e sz (.slice (some ⟨g,0,none⟩) n cap) n xs) (hk:k < n) (hos:o < sz) (hu:bX u=true) (hK:∀ w',w'=w.setCell ⟨g,k*sz+o,none⟩ u->w'.ownsRow B e sz (.slice (some ⟨g,0,none⟩) n cap) n (xs.set (k*sz+o) u)->Fr (λi=>i=g) w w'->K' w') :
  U prog (Instr.storeAt ft (.pointer (some ⟨g,0+k*sz+o,none⟩)) u) w λ_ w2=>K' w2:=by
 have hle:k*sz+sz<=n*sz:=by
  have:=Nat.mul_le_mul_right sz (show k+1<=n by omega);rw [Nat.add_mul,Nat.one_mul] at this;exact this
 obtain ⟨s1,s2⟩:=ho.stored (k*sz+o) u;have hc:=ho.cellAt (k*sz+o) (by omega);have hlt:k*sz+o < xs.length:=by rw [ho.1];omega
 rw [List.getElem?_eq_getElem hlt] at hc;rw [Nat.zero_add];exact U.ok (nF hft hu hc (ho.frozenAt _)) (hK _ rfl s1 (Fr.of_set rfl))
end Go.Proofs.YtjcmcfidblhnnaaGreatDoor
