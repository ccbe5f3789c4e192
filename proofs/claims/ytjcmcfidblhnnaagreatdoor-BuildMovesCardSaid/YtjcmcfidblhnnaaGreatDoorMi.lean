/- slices. -/
import Derived.Test.YtjcmcfidblhnnaaGreatDoorMh
import Derived.Test.YtjcmcfidblhnnaaGreatDoorMb
import Derived.WalkKit
import Derived.ProofKit
import Derived.OpenShut
import Derived.WideKeyArgs
import Derived.ChangeArms
import Derived.FnData
set_option maxHeartbeats 4000000
namespace Go.Vc
section
variable {P:Program} {w:World} {K:Value->World->Prop}
theorem cpR {t e by_ ty:Nat} (h:XE P t e by_) {g o R c:Nat} {xs cs:List Value} {te:TypeId} {b off n c':Nat} (hb:bO w g xs te) (hfit:o+R<=xs.length) (hs:aA w (.slice (some ⟨b,off,none⟩) n c') 1 n cs) (h1:cs.all cO=true)
  (hk:∀ w',bO w' g (xs.take o++cs.take (min n R)++xs.drop (o+min n R)) te->Fr (λi=>i=g) w w'->K (i64 ((min n R:Nat):Int)) w') :
  V P (Builtin.copy_ #[t,t] ty #[.slice (some ⟨g,o,none⟩) R c,.slice (some ⟨b,off,none⟩) n c']) w K:=by
 obtain ⟨z,ht,hi,hz⟩:=h;obtain ⟨i,hi',hz',hn,hby⟩:=info_parts hi;have hsz:(P.info? e).map (·.size)=some 1:=by rw [hi'];simp [hn]
 have hcl:cs.length=n:=by have:=hs.1;omega
 rcases hs.2 with ⟨h2,_⟩|⟨b',off',cap',h2,_,_,hc⟩
 ·cases h2
 cases h2;have hlen:(cs.take (min n R)).length=min n R:=by rw [List.length_take];omega
 have hr:=run_copy_row (P:=P) w t t ty e g o R c ⟨b,off,none⟩ n c' xs.toArray te (cs.take (min n R)) ht hsz hb hlen (λj u hj=>by
   rw [List.getElem?_take] at hj;split at hj
   ·rw [lJ];exact hc j u hj
   ·cases hj) (by rw [hlen];simp;omega) (λu hu=>by rw [AY];exact List.all_eq_true.1 h1 u (List.mem_of_mem_take hu))
 rw [hlen] at hr;refine V.ok hr (hk _ ?_ ⟨rfl,rfl,rfl,by simp,λi _ hi=>setRow_other _ _ _ _ hi⟩);unfold bO;rw [setRow_heap w g _ _ te (0,0) hb]
theorem nF {n:Int} (h0:0<=n) (h1:n < 18446744073709551616):IntKind.u64.wrap n=n:=by
 have e:n % (2 ^ 64:Int)=n:=by omega
 unfold IntKind.wrap;simp only [show IntKind.u64.bits=64 from rfl,show IntKind.u64.signed=false from rfl,e,Bool.false_and,Bool.false_eq_true,if_false]
theorem aIa {a:Int} (h0:0<=a) (h1:a < 4294967296):IntKind.u64.wrap (((BitVec.ofInt IntKind.u64.bits a &&& BitVec.ofInt IntKind.u64.bits 4294967295).toNat:Nat):Int)=a:=by
 obtain ⟨n,rfl⟩:∃ n:Nat,a=n:=⟨a.toNat,by omega⟩;have e1:(BitVec.ofInt 64 (n:Int)).toNat=n:=by rw [BitVec.toNat_ofInt];omega
 have e2:(BitVec.ofInt 64 4294967295).toNat=2 ^ 32 - 1:=by decide
 rw [show IntKind.u64.bits=64 from rfl,BitVec.toNat_and,e1,e2,Nat.and_two_pow_sub_one_eq_mod,nF (by omega) (by omega)];omega
theorem KB {a:Int} (h0:0<=a) (h1:a < 4294967296):a.fdiv (2 ^ (min (32:Int).toNat IntKind.u64.bits))=0:=by
 rw [show (2:Int) ^ (min (32:Int).toNat IntKind.u64.bits)=4294967296 from rfl,Int.fdiv_eq_ediv_of_nonneg _ (by decide)];omega
end
end Go.Vc
namespace Go.Proofs.YtjcmcfidblhnnaaGreatDoor
open Tryz
open Go.Vc
variable {w:World} {K:Value->World->Prop}
abbrev JU (n:Int):Value:=.int .u64 n
theorem bAl {c:Int} (h0:0<=c) (h1:c < 4294967296) (hk:K (.tuple #[JU 0,JU c]) w):aB prog 222 #[JU 1,JU c] w K:=by
 apply aTb;unfold MU;refine V.ok CN ?_;rw [aIa (by decide) (by decide)];refine V.ok (uX (by decide)) ?_;rw [KB (by decide) (by decide)];refine V.ok CN ?_;rw [aIa h0 h1];refine V.ok (uX (by decide)) ?_;rw [KB h0 h1];refine oO.2 ?_;rw [nF (by omega) (by omega)];refine oO.2 ?_;rw [nF (by omega) (by omega)];refine V.ok (uX (by decide)) ?_;rw [KB (by omega) (by omega)];refine aU.2 ?_;rw [nF (by omega) (by omega)];refine V.ok CN ?_;rw [aIa (by omega) (by omega)];refine V.ok (uX (by decide)) ?_;rw [KB (by omega) (by omega)];refine oO.2 ?_;rw [nF (by omega) (by omega)];refine aU.2 ?_;rw [nF (by omega) (by omega)];refine oO.2 ?_;rw [nF (by omega) (by omega)];refine aU.2 ?_;rw [nF (by omega) (by omega)];refine V.ok (uX (by decide)) ?_;rw [KB (by omega) (by omega)];refine aU.2 ?_;rw [nF (by omega) (by omega)];refine oO.2 ?_;rw [nF (by omega) (by omega)];rw [show (1:Int)*c=c from by omega];simp only [Int.mul_zero,Int.add_zero];exact hk
theorem bAm {c:Int} (h0:0<=c) (h1:c < 4294967296) (hk:K (.tuple #[JU 0,JU c]) w):aB prog 218 #[JU 1,JU c] w K:=by
 apply aTf;unfold MX;exact aP.2 (bAl h0 h1 (gS.2 (gR.2 hk)))
theorem aEl {x:Value} {n k m:Nat} (hk:k<=n) (hm:m<=n - k) (hmk:m<=k):(List.replicate k x++List.replicate (n - k) (i64 0)).take k++(List.replicate k x).take m++(List.replicate k x++List.replicate (n - k) (i64 0)).drop (k+m)=List.replicate (k+m) x++List.replicate (n - (k+m)) (i64 0):=by
 rw [List.take_append_of_le_length (by simp),List.take_of_length_le (by simp),List.take_replicate,Nat.min_eq_left hmk,List.drop_append,List.drop_eq_nil_of_le (by simp),List.nil_append,List.length_replicate,Nat.add_sub_cancel_left,List.drop_replicate,List.replicate_append_replicate,Nat.sub_sub]
theorem aAx {v:Value} {x:Int} {n:Nat} (hv:w.ownsRow w.heap.size 3 1 v 1 [i64 x]\/∃ B,w.ownsRow B 3 1 v 1 [i64 x]) (hn:n<=100000) (hk:∀ g w',bO w' g (List.replicate n (i64 x)) 3->w.heap.size<=g->aF w w'->K (.slice (some ⟨g,0,none⟩) n n) w'):aB prog 182 #[v,i64 (n:Int)] w K:=by
 have hv1:aA w v 1 1 [i64 x]:=by rcases hv with h|⟨B,h⟩<;>exact aA.of_own h
 obtain ⟨b,off,cap,rfl,_⟩:=hv1.there (by decide);apply aUq;unfold OH;refine ⟨λw'=>w=w',aY.2 (aD (λh=>by omega) λ_=>rfl),?_⟩;rintro _ rfl _;refine gD aQ hv1 ?_;refine V.ok (lL underlying3 underlying152) ?_;rw [nF (by decide) (by decide)];refine V.ok (lL underlying3 underlying152) ?_;rw [nF (by omega) (by omega)];refine bAm (by omega) (by omega) (gS.2 (gR.2 ?_));refine ⟨λw'=>w=w',?_,?_⟩
 ·refine iR.2 ?_;rw [show decide ((0:Int) > 0)=false from rfl];refine oV.2 (oV.2 (iR.2 (jW ?_)));rw [if_neg (by decide),decide_eq_false (by omega)];exact aP.2 rfl
 rintro _ rfl _;refine V.ok (lL underlying152 underlying3) ?_;rw [aC (by omega) (by omega)];refine mkB underlying23 bY rfl (by omega) (by omega) λw1 hB x1 _=>?_;have hlt:=hB.lt;generalize hg:w.heap.size=g at hB hlt;have hg0:w.heap.size<=g:=by omega
 refine cpR bB hB (by simp) (hv1.ext x1) rfl λw2 hB2 f2=>?_;have hxx:aF w w2:=f2.ext x1 λi hi=>by omega
 refine ⟨λv w'=>∃ k:Nat,v=i64 (k:Int)/\k<=n/\(0 < n->0 < k)/\bO w' g (List.replicate k (i64 x)++List.replicate (n - k) (i64 0)) 3/\aF w w',λv _=>n - (RowKit.intOf v).toNat,⟨min 1 n,rfl,by omega,by omega,?_,hxx⟩,?_⟩
 ·have e:(List.replicate n (i64 0)).take 0++[i64 x].take (min 1 n)++(List.replicate n (i64 0)).drop (0+min 1 n)=List.replicate (min 1 n) (i64 x)++List.replicate (n - min 1 n) (i64 0):=by
   rw [List.take_zero,List.nil_append,Nat.zero_add,List.drop_replicate]
   congr 1
   by_cases h:n=0
   ·subst h;rfl
   ·rw [show min 1 n=1 by omega];rfl
  rw [e] at hB2;exact hB2
 rintro _ w3 ⟨k,rfl,hkn,hk0,hB3,x3⟩ _;have hlen:(List.replicate k (i64 x)++List.replicate (n - k) (i64 0)).length=n:=by simp;omega
 have hsl:=hB3.slice (n:=n) hlen (by unfold maxLen;omega);refine gD aQ hsl (aY.2 (aD (λhlt2=>?_) λhge=>?_))
 ·have D:aF w3 w3.drew:=(aF.refl _).drew;refine aM.mk' (λ_=>True) trivial ?_
  have lo:∀ w',(Instr.sliceAt 23 (.slice (some ⟨g,0,none⟩) n n) (some (i64 (k:Int))) none none).run prog w'=.ok (.slice (some ⟨g,k,none⟩) (n - k) (n - k)) w':=λw'=>by
   have h1:k<=n:=hkn;have h2:¬ n=k:=by omega
   simp [Instr.sliceAt,Instr.slice,run_underlying underlying23,gG bY,Instr.sliceBounds,Instr.sliceBound,asIntOf,h1,h2,lJ]
  have hi:∀ w',(Instr.sliceAt 23 (.slice (some ⟨g,0,none⟩) n n) none (some (i64 (k:Int))) none).run prog w'=.ok (.slice (some ⟨g,0,none⟩) k n) w':=λw'=>by
   have:=bJn (P:=prog) (w:=w') underlying23 bY (a:=some ⟨g,0,none⟩) (n:=n) (c:=n) (k:=k) hkn;rw [if_neg (by omega)] at this;simpa [lJ] using this
  refine aE.ok (λw' _=>lo w') (aE.ok (λw' _=>hi w') ?_);have hB4:=hB3.ext D
  have hsrc:aA w3.drew (.slice (some ⟨g,0,none⟩) k n) 1 k (List.replicate k (i64 x)):=⟨by simp,.inr ⟨g,0,n,rfl,hkn,by unfold maxLen;omega,λj u hj=>by
   have hjk:j < k:=by have:=(List.getElem?_eq_some_iff.1 hj).1;simpa using this
   rw [Nat.zero_add,hB4.cell,List.getElem?_append_left (by simpa using hjk)];exact hj⟩⟩
  refine cpR bB hB4 (by rw [hlen];omega) hsrc (by simp [cO]) λw5 hB5 f5=>⟨trivial,?_⟩;rw [aEl hkn (by omega) (by omega)] at hB5;refine aE.ok (λ_ _=>KO) ?_;rw [aC (by omega) (by omega)];exact ⟨⟨k+min k (n - k),by simp,by omega,λ_=>by omega,hB5,f5.ext (x3.trans D) λi hi=>by omega⟩,by simp only [RowKit.intOf];omega⟩
 ·obtain rfl:k=n:=by omega
  rw [Nat.sub_self,List.replicate_zero,List.append_nil] at hB3;exact hk g w3 hB3 hg0 x3
end Go.Proofs.YtjcmcfidblhnnaaGreatDoor
namespace Go.Vc
theorem aHc {α:Type} {f:α->List Value} {sz:Nat} (hf:∀ x,(f x).length=sz) {l:List α} {j o:Nat} {x:α} (h:l[j]?=some x) (ho:o < sz):(l.flatMap f)[j*sz+o]?=(f x)[o]?:=by
 rw [<- xQ hf h,List.getElem?_take,if_pos ho,List.getElem?_drop]
theorem MA {α:Type} {f:α->List Value} {sz:Nat} (hf:∀ x,(f x).length=sz) {o:Nat} {z:Value} (ho:o < sz):∀ {l:List α} {j:Nat} {x y:α},l[j]?=some x->f y=(f x).set o z->(l.flatMap f).set (j*sz+o) z=(l.set j y).flatMap f
 | [],_,_,_,h,_=>by simp at h
 | a::l,0,x,y,h,he=>by
  simp at h;subst h;rw [Nat.zero_mul,Nat.zero_add,List.flatMap_cons,List.set_cons_zero,List.flatMap_cons,he,List.set_append_left _ _ (by rw [hf];exact ho)]
 | a::l,j+1,x,y,h,he=>by
  rw [List.flatMap_cons,List.set_cons_succ,List.flatMap_cons,<- MA hf ho (l:=l) (j:=j) (by simpa using h) he,List.set_append_right _ _ (by rw [hf,Nat.add_mul];omega),hf]
  congr 2
  rw [Nat.add_mul];omega
end Go.Vc
namespace Go.Proofs.YtjcmcfidblhnnaaGreatDoor
open Tryz
open Go.Vc
variable {w:World} {K:Value->World->Prop}
structure lR where
 x:cF
 f:Nat
 c:List gZ
 v:Value
def lR.cells (e:lR):List Value:=e.x.cells++[e.v,i64 (e.f:Int)]
theorem lR.len (e:lR):e.cells.length=13:=by simp [lR.cells,e.x.len]
def TD (l:List lR):List Value:=l.flatMap lR.cells
def kR (l:List lR):List cF:=l.map lR.x
def kZ (l:List lR):List Nat:=l.map lR.f
def cF.fix:cF->List gZ
 | .one i=>[i]
 | .place _=>[]
 | .jump _ _=>[]
 | .load r n=>rX r n
def cF.isJ:cF->Bool
 | .jump _ _=>true
 | _=>false
structure wI (w:World) (B:Nat) (u:Value) (l:List lR):Prop where
 row:w.ownsRow B 232 13 u l.length (TD l)
 code:∀ e∈l,gC w B e.v e.c
 fix:∀ e∈l,e.x.isJ=false->e.c=e.x.fix
 few:∀ e∈l,e.c.length<=100
theorem wI.ext {w':World} {B:Nat} {u:Value} {l:List lR} (h:wI w B u l) (hx:aF w w'):wI w' B u l:=⟨hx.own h.row,λe he=>(h.code e he).ext hx,h.fix,h.few⟩
theorem BC {l:List lR} {j:Nat} {e:lR} (h:l[j]?=some e):((TD l).drop (((j:Int)).toNat*13)).take 13=e.cells:=by
 rw [Int.toNat_natCast];exact xQ lR.len h
theorem wI.one {B:Nat} {u:Value} {l:List lR} (h:wI w B u l) {e:lR} (he:e∈l):e.cells.all cO=true:=by
 unfold lR.cells;rw [List.all_append,sU,Bool.true_and];show (cO e.v&&(cO (i64 (e.f:Int))&&true))=true;rw [nX (h.code e he)];rfl
theorem aHe {x:cF} {f:Nat} (hj:x.isJ=false):jN x.fix=x.size f:=by
 cases x with
 | one i=>simp [cF.fix,jN,cF.size]
 | place l=>rfl
 | jump c q=>cases hj
 | load r n=>rfl
theorem RH (l:List gZ) (i:gZ):jN (l++[i])=jN l+i.size:=by simp [jN]
theorem KA:∀ l:List gZ,jN l<=4*l.length
 | []=>by simp [jN]
 | i::l=>by
  have h1:=KA l;have h2:i.size<=4:=by unfold gZ.size;split<;>omega
  have e:jN (i::l)=i.size+jN l:=by simp [jN]
  rw [e,List.length_cons];omega
theorem aOa {e:lR} {B:Nat} (hc:gC w B e.v e.c) (hf:e.x.isJ=false->e.c=e.x.fix) (hl:e.c.length<=100) (hm:∀ c q,e.x=.jump c q->e.f<=tH c) (hk:∀ w',aF w w'->K (i64 ((e.x.size e.f:Nat):Int)) w'):aB prog 180 #[.agg e.cells.toArray] w K:=by
 apply aUs;unfold OJ;refine bx λb w1 hb x1=>?_;have hb:bG w1 b e.cells:=hb
 have go:∀ {k:Int},e.cells[0]?=some (i64 k)->k≠3->e.x.isJ=false->V prog (Instr.fieldAt 232 (.pointer (some ⟨b,0,none⟩)) 1) w1 λt18 w8=>V prog (Instr.loadAt 230 t18) w8 λt19 w9=>V prog (Builtin.len_ #[230] 3 #[t19]) w9 λt20 w10=>
   ∃ (I1:NP 2) (μ1:NF 2),I1 (i64 0) (i64 0) w10/\∀ (t3:Value) (t21:Value),∀ w11:World,I1 t3 t21 w11->∀ _f:bN,V prog (binOp .lss 3 t21 t20) w11 λt22 w12=>aI t22 (
    V prog (Instr.indexAt 230 t19 t21) w12 λt23 w13=>V prog (Instr.loadAt 83 t23) w13 λt24 w14=>V prog (Instr.alloc 83 true (.tuple #[])) w14 λt5 w15=>U prog (Instr.storeAt 83 t5 t24) w15 λ_ w16=>V prog (Instr.loadAt 83 t5) w16 λt26 w17=>
    aB prog 213 #[t26] w17 λt27 w18=>V prog (binOp .add 3 t3 t27) w18 λt28 w19=>V prog (binOp .add 3 t21 (i64 1)) w19 λt29 w20=>I1 t28 t29 w20/\μ1 t28 t29 w20 < μ1 t3 t21 w11) (K t3 w12):=λ{k} hk0 hk3 hj=>by
  have hv:e.cells[11]?=some e.v:=by unfold lR.cells;rw [List.getElem?_append_right (by rw [e.x.len];decide),e.x.len];rfl
  refine bF hb fO jB hv (gD vH (aA.of_own (hc.ext x1)) ?_);refine ⟨λs v w'=>∃ j:Nat,v=i64 j/\j<=e.c.length/\s=i64 ((jN (e.c.take j):Nat):Int)/\aF w w',λ_ v _=>e.c.length - (RowKit.intOf v).toNat,⟨0,rfl,Nat.zero_le _,rfl,x1⟩,?_⟩;rintro _ _ w2 ⟨j,rfl,hj2,rfl,x2⟩ _;refine aY.2 (aD (λhlt=>?_) λhge=>?_)
  ·obtain ⟨i,hi⟩:=bC (l:=e.c) (j:=j) (by omega);refine uU vH qB (aA.of_own (hc.ext x2)) (by omega) (by omega) (AU hi) rfl ?_;refine sI aYe rfl rfl λw3 h5 x3=>?_;have h5:bG w3 w2.heap.size i.cells:=bO.boxed h5;refine iO h5 qB rfl (UQ λw4 x4=>aU.2 ?_);have hs:=KA (e.c.take j);have hs2:i.size<=4:=by unfold gZ.size;split<;>omega
   have hle:(e.c.take j).length<=100:=by rw [List.length_take];omega
   rw [aC (by omega) (by omega)];refine aU.2 ?_;rw [aC (by omega) (by omega),aR];refine ⟨⟨j+1,rfl,by omega,?_,(x2.trans x3).trans x4⟩,by simp only [aL];omega⟩;rw [List.take_add_one,hi,show (some i).toList=[i] from rfl,RH];simp
  ·have ee:e.c.take j=e.c:=List.take_of_length_le (by omega);rw [ee,hf hj,aHe (f:=e.f) hj];exact hk w2 x2
 cases hx:e.x with
 | jump c q=>
  have hcs:e.cells=[i64 3,i64 0,i64 0,i64 0,i64 0,i64 0,i64 0,i64 q,i64 c,i64 0,i32 0,e.v,i64 (e.f:Int)]:=by unfold lR.cells;rw [hx];rfl
  rw [hcs] at hb;refine rO hb bQ bA aH rfl (aK.2 (aD (λ_=>?_) λh=>absurd rfl h));have D:aF w1 w1.drew:=(aF.refl _).drew;refine aM.mk' (λw'=>aF w1.drew w') (aF.refl _) ?_;refine yB2 (λw' hx=>(hb.ext D).ext hx) bQ dZ aH rfl ?_;refine jM (λw' hx=>(hb.ext D).ext hx) fT aH rfl ?_;refine aHb λv w2 hv x2=>⟨x2,?_⟩;have hfm:=hm c q hx
  have hget:∃ z,(IY c)[e.f]?=some z/\z=2+2*(e.f:Int):=by
   unfold tH at hfm;unfold IY;by_cases h14:c=14
   ·rw [if_pos h14] at hfm ⊢;have:e.f=0\/e.f=1:=by omega
    rcases this with h|h<;>rw [h]<;>exact ⟨_,rfl,by decide⟩
   ·rw [if_neg h14] at hfm ⊢;have:e.f=0\/e.f=1\/e.f=2:=by omega
    rcases this with h|h|h<;>rw [h]<;>exact ⟨_,rfl,by decide⟩
  obtain ⟨z,hz,hze⟩:=hget;have hlt:=(List.getElem?_eq_some_iff.1 hz).1;refine ⟨λw'=>aF w2 w',λ_ h=>x2.trans h,aF.refl _,?_⟩;refine nR aQ aH hv (λw' h=>h) (by omega) (by omega) (cG hz) ?_;have:=hk w2 ((x1.trans D).trans x2);rw [hx] at this;rw [hze];have e2:((cF.size (.jump c q) e.f:Nat):Int)=2+2*(e.f:Int):=by show ((2+2*e.f:Nat):Int)=_;omega
  rw [e2] at this;exact this
 | one i=>
  have h0:e.cells[0]?=some (i64 1):=by unfold lR.cells;rw [hx];rfl
  refine rO hb bQ bA aH h0 (aK.2 (aD (λh=>absurd h (by decide)) λ_=>?_));exact go h0 (by decide) (by rw [hx];rfl)
 | place q=>
  have h0:e.cells[0]?=some (i64 2):=by unfold lR.cells;rw [hx];rfl
  refine rO hb bQ bA aH h0 (aK.2 (aD (λh=>absurd h (by decide)) λ_=>?_));exact go h0 (by decide) (by rw [hx];rfl)
 | load r n=>
  have h0:e.cells[0]?=some (i64 4):=by unfold lR.cells;rw [hx];rfl
  refine rO hb bQ bA aH h0 (aK.2 (aD (λh=>absurd h (by decide)) λ_=>?_));exact go h0 (by decide) (by rw [hx];rfl)
def kT (l:List lR) (n:Nat):List Int:=(List.range n).map λ(k:Nat)=>((sH (kR l) (kZ l) k:Nat):Int)
theorem vJ {l:List lR} {n k:Nat} (h:k < n):(kT l n)[k]?=some ((sH (kR l) (kZ l) k:Nat):Int):=by
 unfold kT;rw [List.getElem?_map,List.getElem?_range h];rfl
theorem pM (l:List lR) (n:Nat):(kT l n).length=n:=by simp [kT]
theorem zP {l:List lR} {j:Nat} {e:lR} (h:l[j]?=some e):(kR l)[j]?=some e.x/\(kZ l).getD j 0=e.f:=by
 unfold kR kZ;rw [List.getElem?_map,h,List.getD_eq_getElem?_getD,List.getElem?_map,h];exact ⟨rfl,rfl⟩
theorem zO.most {l:List lR} (h:zO (kR l) (kZ l)) {j:Nat} {e:lR} (he:l[j]?=some e):∀ c q,e.x=.jump c q->e.f<=tH c:=λc q hx=>by
 obtain ⟨h1,h2⟩:=zP he;rw [<- h2];exact h.jump j c q (by rw [h1,hx])
theorem FJ {B:Nat} {u:Value} {l:List lR} (h:wI w B u l) (hf:zO (kR l) (kZ l)) (hl:l.length<=6000) (hk:∀ v w',w'.ownsRow w.heap.size 3 1 v (l.length+1) ((kT l (l.length+1)).map i64)->aF w w'->K v w'):aB prog 123 #[u] w K:=by
 apply aWy;unfold QK;have hxl:(kR l).length=l.length:=by simp [kR]
 have hfl:(kZ l).length=(kR l).length:=by simp [kR,kZ]
 refine jS bB [i64 0] rfl rfl (by simp) rfl λv0 w1 ho x1=>?_;refine gD rK (aA.of_own (h.ext x1).row) ?_;refine ⟨λv a k w'=>∃ j:Nat,k=i64 j/\j<=l.length/\a=i64 ((sH (kR l) (kZ l) j:Nat):Int)/\w'.ownsRow w.heap.size 3 1 v (j+1) ((kT l (j+1)).map i64)/\aF w w',λ_ _ k _=>l.length - (RowKit.intOf k).toNat,⟨0,rfl,Nat.zero_le _,rfl,ho,x1⟩,?_⟩;rintro v _ _ w2 ⟨j,rfl,hj,rfl,hv,x2⟩ _;refine aY.2 (aD (λhlt=>?_) λhge=>?_)
 ·obtain ⟨e,he⟩:=bC (l:=l) (j:=j) (by omega);have hem:=List.mem_of_getElem? he;have h2:=h.ext x2;refine uU rK zE (aA.of_own h2.row) (by omega) (by omega) (BC he) e.len ?_;refine sI BZ (by simpa [Value.cells] using e.len) (by simpa [Value.cells] using h.one hem) λw3 h6 x3=>?_;have h6:bG w3 w2.heap.size e.cells:=bO.boxed h6;refine iO h6 zE e.len ?_;refine aOa ((h2.code e hem).ext x3) (h.fix e hem) (h.few e hem) (hf.most he) λw4 x4=>aU.2 ?_;obtain ⟨q1,q2⟩:=zP he;have ha:=yB hfl q1;rw [q2] at ha;have hb:=hf.at_le (j+1);rw [aC (by omega) (by omega)];have ea:((sH (kR l) (kZ l) j:Nat):Int)+((e.x.size e.f:Nat):Int)=((sH (kR l) (kZ l) (j+1):Nat):Int):=by rw [ha];omega
  rw [ea];refine jS bB [i64 ((sH (kR l) (kZ l) (j+1):Nat):Int)] rfl rfl (by simp) rfl λv5 w5 ho5 x5=>?_;have x25:=(x3.trans x4).trans x5;have s2:=x2.size;have s25:=x25.size;refine apG underlying23 bY rfl (by decide) (x25.own hv) (aA.of_own ho5) rfl (by omega) (by unfold maxLen;omega) (by omega) λv6 w6 ho6 hg6 _=>aU.2 ?_;rw [aC (by omega) (by omega),aR];refine ⟨⟨j+1,rfl,by omega,rfl,?_,(x2.trans x25).grown hg6 λk hk=>(hv.lt k hk).1⟩,by simp only [aL];omega⟩
  have es:(kT l (j+1)).map i64++[i64 ((sH (kR l) (kZ l) (j+1):Nat):Int)]=(kT l (j+1+1)).map i64:=by
   unfold kT;rw [List.range_succ (n:=j+1),List.map_append,List.map_append];rfl
  rw [es] at ho6;exact ho6
 ·obtain rfl:j=l.length:=by omega
  exact hk v w2 hv x2
def oA (l:List cF) (f:List Nat) (n j:Nat):List Value:=(List.range n).map λ(q:Nat)=>i64 (xJ l f (q:Int) j)
theorem oS (l:List cF) (f:List Nat) (n j:Nat):(oA l f n j).length=n:=by simp [oA]
theorem uQ {l:List cF} {f:List Nat} {n j q:Nat} (h:q < n):(oA l f n j)[q]?=some (i64 (xJ l f (q:Int) j)):=by
 unfold oA;rw [List.getElem?_map,List.getElem?_range h];rfl
theorem IK {l:List cF} {f:List Nat} {n j q:Nat} (hx:l[j]?=some (.place q)) (hq:q < n):(oA l f n j).set q (i64 (sH l f j:Int))=oA l f n (j+1):=by
 apply List.ext_getElem?;intro k;by_cases hk:k < n
 ·rw [List.getElem?_set,uQ hk,uQ hk];have e:xJ l f (k:Int) (j+1)=if (q:Int)=(k:Int) then (sH l f j:Int) else xJ l f (k:Int) j:=by rw [xJ,hx]
  rw [e];by_cases hqk:q=k
  ·subst hqk;rw [if_pos rfl,if_pos (by rw [oS];exact hq),if_pos rfl]
  ·rw [if_neg hqk,if_neg (by omega)]
 ·rw [List.getElem?_eq_none (by rw [List.length_set,oS];omega),List.getElem?_eq_none (by rw [oS];omega)]
theorem sR {l:List cF} {f:List Nat} {n j:Nat} {x:cF} (hx:l[j]?=some x) (hp:x.pl=[]):oA l f n (j+1)=oA l f n j:=by
 unfold oA;refine List.map_congr_left λq _=>?_;rw [xJ,hx];cases x with
 | place q'=>simp [cF.pl] at hp
 | _=>rfl
theorem LG (l:List cF) (f:List Nat) (n:Nat):oA l f n 0=List.replicate n (i64 (-1)):=by
 apply List.ext_getElem?;intro k;by_cases hk:k < n
 ·rw [uQ hk,List.getElem?_replicate_of_lt hk];rfl
 ·rw [List.getElem?_eq_none (by rw [oS];omega),List.getElem?_eq_none (by rw [List.length_replicate];omega)]
theorem GH {B:Nat} {u atv:Value} {l:List lR} (h:wI w B u l) (hl:l.length<=6000) (hok:∀ x∈kR l,x.okI) (ha:aN w atv (kT l (l.length+1)))
  (hk:∀ g (n:Nat) w',w.heap.size<=g->(∀ q:Nat,(q:Int)∈jU (kR l)->q < n)->n<=2001->bO w' g (oA (kR l) (kZ l) n l.length) 3->aF w w'->K (.slice (some ⟨g,0,none⟩) n n) w'):aB prog 125 #[u,atv] w K:=by
 apply aWw;unfold QI;have xtake:∀ {j:Nat} {e:lR},l[j]?=some e->(kR l).take (j+1)=(kR l).take j++[e.x]:=λ{j e} he=>by rw [List.take_add_one,(zP he).1];rfl
 refine gD rK (aA.of_own h.row) ?_;refine ⟨λm k w'=>∃ (j:Nat) (mx:Int),k=i64 j/\m=i64 mx/\j<=l.length/\-1<=mx/\mx<=2000/\(∀ q∈jU ((kR l).take j),q<=mx)/\aF w w',λ_ k _=>l.length - (RowKit.intOf k).toNat,⟨0,-1,rfl,rfl,Nat.zero_le _,by decide,by decide,λq hq=>by simp [jU] at hq,aF.refl _⟩,?_⟩;rintro _ _ w1 ⟨j,mx,rfl,rfl,hj,hm1,hm2,hmx,x1⟩ _;refine aY.2 (aD (λhlt=>?_) λhge=>?_)
 ·obtain ⟨e,he⟩:=bC (l:=l) (j:=j) (by omega);have hem:=List.mem_of_getElem? he;have h1:=h.ext x1;refine uU rK zE (aA.of_own h1.row) (by omega) (by omega) (BC he) e.len ?_;refine sI BZ (by simpa [Value.cells] using e.len) (by simpa [Value.cells] using h.one hem) λw2 h7 x2=>?_;have h7:bG w2 w1.heap.size e.cells:=bO.boxed h7;have hoi:=hok e.x (List.mem_map.2 ⟨e,hem,rfl⟩)
  have nx:∀ {m':Int},-1<=m'->m'<=2000->(∀ q∈jU ((kR l).take (j+1)),q<=m')->V prog (binOp .add 3 (i64 j) (i64 1)) w2 λt w3=>(∃ (j:Nat) (mx:Int),t=i64 j/\i64 m'=i64 mx/\j<=l.length/\-1<=mx/\mx<=2000/\(∀ q∈jU ((kR l).take j),q<=mx)/\aF w w3)/\l.length - (RowKit.intOf t).toNat < l.length - (RowKit.intOf (i64 (j:Int))).toNat:=λh1 h2 h3=>by
   refine aU.2 ?_;rw [aC (by omega) (by omega),aR];exact ⟨⟨j+1,_,rfl,rfl,by omega,h1,h2,h3,x1.trans x2⟩,by simp only [aL];omega⟩
  have oth:e.x.pl=[]->∀ q∈jU ((kR l).take (j+1)),q<=mx:=λhp q hq=>by
   rw [xtake he,qS,show jU [e.x]=[] from by simp [jU,hp],List.append_nil] at hq;exact hmx q hq
  cases hx:e.x with
  | place q=>
   have hcs:e.cells=[i64 2,i64 0,i64 0,i64 0,i64 0,i64 0,i64 0,i64 q,i64 0,i64 0,i32 0,e.v,i64 (e.f:Int)]:=by unfold lR.cells;rw [hx];rfl
   rw [hcs] at h7;rw [hx] at hoi;have hq:0<=q/\q<=2000:=hoi;refine rO h7 bQ bA aH rfl (aK.2 (aD (λ_=>?_) λh=>absurd rfl h));refine rO h7 bQ bZ aH rfl (mx2 λc hc h1 h2=>?_);refine nx (by omega) (by omega) λq' hq'=>?_;rw [xtake he,qS,hx,show jU [cF.place q]=[q] from rfl] at hq';rcases List.mem_append.1 hq' with h|h
   ·have:=hmx q' h;omega
   ·rw [List.mem_singleton] at h;omega
  | one i=>
   have h0:e.cells[0]?=some (i64 1):=by unfold lR.cells;rw [hx];rfl
   refine rO h7 bQ bA aH h0 (aK.2 (aD (λh=>absurd h (by decide)) λ_=>nx hm1 hm2 (oth (by rw [hx];rfl))))
  | jump c q=>
   have h0:e.cells[0]?=some (i64 3):=by unfold lR.cells;rw [hx];rfl
   refine rO h7 bQ bA aH h0 (aK.2 (aD (λh=>absurd h (by decide)) λ_=>nx hm1 hm2 (oth (by rw [hx];rfl))))
  | load r n=>
   have h0:e.cells[0]?=some (i64 4):=by unfold lR.cells;rw [hx];rfl
   refine rO h7 bQ bA aH h0 (aK.2 (aD (λh=>absurd h (by decide)) λ_=>nx hm1 hm2 (oth (by rw [hx];rfl))))
 have ee:(kR l).take j=kR l:=List.take_of_length_le (by simp [kR];omega);rw [ee] at hmx;clear hge ee;refine jS bB [i64 (-1)] rfl rfl (by simp) rfl λv2 w2 ho2 x2=>aU.2 ?_;rw [aC (by omega) (by omega)];obtain ⟨n,hn⟩:∃ n:Nat,mx+1=n:=⟨(mx+1).toNat,by omega⟩;rw [hn];refine aAx (.inr ⟨_,ho2⟩) (by omega) λg w3 hB hg x3=>?_;rw [<- LG (kR l) (kZ l)] at hB;have x13:=x2.trans x3;have x03:=x1.trans x13;have hgw:w.heap.size<=g:=by have:=x1.size;have:=x2.size;omega
 refine gD rK (aA.of_own (h.ext x03).row) ?_;refine ⟨λk w'=>∃ j:Nat,k=i64 j/\j<=l.length/\bO w' g (oA (kR l) (kZ l) n j) 3/\aF w w',λk _=>l.length - (RowKit.intOf k).toNat,⟨0,rfl,Nat.zero_le _,hB,x03⟩,?_⟩;rintro _ w4 ⟨j,rfl,hj,hB4,x4⟩ _;refine aY.2 (aD (λhlt=>?_) λhge=>?_)
 ·obtain ⟨e,he⟩:=bC (l:=l) (j:=j) (by omega);have hem:=List.mem_of_getElem? he;have hxe:=(zP he).1;have h4:=h.ext x4;refine uU rK zE (aA.of_own h4.row) (by omega) (by omega) (BC he) e.len ?_;refine sI BZ (by simpa [Value.cells] using e.len) (by simpa [Value.cells] using h.one hem) λw5 h10 x5=>?_;have h10:bG w5 w4.heap.size e.cells:=bO.boxed h10;have x05:=x4.trans x5;have hB5:=hB4.ext x5
  have nx:∀ {w'},aF w w'->bO w' g (oA (kR l) (kZ l) n (j+1)) 3->V prog (binOp .add 3 (i64 j) (i64 1)) w' λt w3=>(∃ j:Nat,t=i64 j/\j<=l.length/\bO w3 g (oA (kR l) (kZ l) n j) 3/\aF w w3)/\l.length - (RowKit.intOf t).toNat < l.length - (RowKit.intOf (i64 (j:Int))).toNat:=λh1 h2=>by
   refine aU.2 ?_;rw [aC (by omega) (by omega),aR];exact ⟨⟨j+1,rfl,by omega,h2,h1⟩,by simp only [aL];omega⟩
  cases hx:e.x with
  | place q=>
   rw [hx] at hxe;have hcs:e.cells=[i64 2,i64 0,i64 0,i64 0,i64 0,i64 0,i64 0,i64 q,i64 0,i64 0,i32 0,e.v,i64 (e.f:Int)]:=by unfold lR.cells;rw [hx];rfl
   rw [hcs] at h10;have hqm:q∈jU (kR l):=List.mem_flatMap.2 ⟨_,List.mem_of_getElem? hxe,List.mem_singleton.2 rfl⟩;have hq0:0<=q/\q<=2000:=by have:=hok e.x (List.mem_map.2 ⟨e,hem,rfl⟩);rw [hx] at this;exact this
   obtain ⟨q,rfl⟩:=kG hq0.1;have hqn:q < n:=by have:=hmx _ hqm;omega
   refine rO h10 bQ bA aH rfl (aK.2 (aD (λ_=>?_) λh=>absurd rfl h));have D:aF w5 w5.drew:=(aF.refl _).drew;refine aM.mk' (λw'=>aF w5.drew w') (aF.refl _) ?_;refine yB2 (λw' hx=>(h10.ext D).ext hx) bQ bZ aH rfl ?_;refine nR aQ aH (ha.ext (x05.trans D)) (λ_ h=>h) (by omega) (by rw [pM];omega) (cG (vJ (by omega))) ?_;refine aE.ok (λw' _=>jO underlying23 bY (by omega) (by omega)) ?_;rw [Int.toNat_natCast];refine JY bY (hB5.ext D) (by rw [oS];exact hqn) rfl ?_;have hs:=(hB5.ext D).set q (i64 ((sH (kR l) (kZ l) j:Nat):Int));rw [IK hxe hqn] at hs;exact nx ((x05.trans D).setCell hgw _) hs
  | one i=>
   have h0:e.cells[0]?=some (i64 1):=by unfold lR.cells;rw [hx];rfl
   refine rO h10 bQ bA aH h0 (aK.2 (aD (λh=>absurd h (by decide)) λ_=>nx x05 (by rw [sR hxe (by rw [hx];rfl)];exact hB5)))
  | jump c q=>
   have h0:e.cells[0]?=some (i64 3):=by unfold lR.cells;rw [hx];rfl
   refine rO h10 bQ bA aH h0 (aK.2 (aD (λh=>absurd h (by decide)) λ_=>nx x05 (by rw [sR hxe (by rw [hx];rfl)];exact hB5)))
  | load r n'=>
   have h0:e.cells[0]?=some (i64 4):=by unfold lR.cells;rw [hx];rfl
   refine rO h10 bQ bA aH h0 (aK.2 (aD (λh=>absurd h (by decide)) λ_=>nx x05 (by rw [sR hxe (by rw [hx];rfl)];exact hB5)))
 ·obtain rfl:j=l.length:=by omega
  exact hk g n w4 hgw (λq hq=>by have:=hmx _ hq;omega) (by omega) hB4 x4
theorem wI.at_ {B g cap:Nat} {l:List lR} (h:wI w B (.slice (some ⟨g,0,none⟩) l.length cap) l) {j o:Nat} {e:lR} {z:Value} (he:l[j]?=some e) (hz:e.cells[o]?=some z):w.cell? ⟨g,j*13+o,none⟩=some z:=by
 have ho:o < 13:=by have:=(List.getElem?_eq_some_iff.1 hz).1;rw [e.len] at this;exact this
 have hj:=(List.getElem?_eq_some_iff.1 he).1;rw [h.row.cellAt (j*13+o) (by have:(j+1)*13<=l.length*13:=Nat.mul_le_mul_right _ hj;omega)];unfold TD;rw [aHc lR.len he ho];exact hz
theorem wI.put {B g cap:Nat} {l:List lR} (h:wI w B (.slice (some ⟨g,0,none⟩) l.length cap) l) {t j o by_:Nat} {e e':lR} {zz z:Value} {K':World->Prop} (hi:dA prog t zz 1 by_) (he:l[j]?=some e) (hc:e'.cells=e.cells.set o z) (ho:o < 13) (hz:cO z=true) (h2:gC w B e'.v e'.c) (h3:e'.x.isJ=false->e'.c=e'.x.fix) (h4:e'.c.length<=100)
  (hk:∀ w',wI w' B (.slice (some ⟨g,0,none⟩) l.length cap) (l.set j e')->Fr (λk=>k=g) w w'->K' w'):U prog (Instr.storeAt t (.pointer (some ⟨g,j*13+o,none⟩)) z) w λ_ w'=>K' w':=by
 have hu:∃ u,e.cells[o]?=some u:=bC (by rw [e.len];exact ho);obtain ⟨u,hu⟩:=hu;have hold:=h.at_ he hu;obtain ⟨s1,s2⟩:=h.row.stored (j*13+o) z;have f:Fr (λk=>k=g) w (w.setCell ⟨g,j*13+o,none⟩ z):=Fr.of_grown s2 λk hk=>by cases hk;rfl
 have kp:∀ {v:Value} {c:List gZ},gC w B v c->gC (w.setCell ⟨g,j*13+o,none⟩ z) B v c:=λ{v c} ht=>f.own ht λk hk hS=>by
  rcases yZ ht h.row (by decide) with h1|h1
  ·rw [h1] at hk;cases hk
  ·exact h1 (by rw [hk,hS];rfl)
 refine U.ok (mO hi hz hold (h.row.frozenAt _)) (hk _ ⟨?_,λx hx=>?_,λx hx=>?_,λx hx=>?_⟩ f)
 ·rw [List.length_set];unfold TD at s1 ⊢;rw [MA lR.len ho he hc] at s1;exact s1
 ·rcases List.mem_or_eq_of_mem_set hx with hx|rfl
  ·exact kp (h.code x hx)
  ·exact kp h2
 ·rcases List.mem_or_eq_of_mem_set hx with hx|rfl
  ·exact h.fix x hx
  ·exact h3
 ·rcases List.mem_or_eq_of_mem_set hx with hx|rfl
  ·exact h.few x hx
  ·exact h4
theorem SJ {c a b:Int} {f:Nat}:∀ i∈mH c f a b,ET i:=by
 intro i hi
 have aw:∀ {f:Nat} {a b:Int},∀ i∈oJ f a b,ET i:=λ{f a b} i hi=>by
  unfold oJ at hi;rw [List.mem_singleton] at hi;subst hi;refine ⟨λe=>?_,λ_=>⟨rfl,rfl,rfl,rfl⟩⟩;dsimp only at e;split at e<;>omega
 unfold mH at hi;split at hi
 ·exact aw i hi
 ·split at hi
  ·rw [List.mem_singleton] at hi;subst hi;exact ⟨λe=>by dsimp only at e;omega,λe=>by dsimp only at e;omega⟩
  ·rcases List.mem_cons.1 hi with rfl|hi
   ·exact ⟨λe=>by dsimp only at e;omega,λe=>by dsimp only at e;omega⟩
   ·exact aw i hi
theorem uR {c a b:Int} {f:Nat}:(mH c f a b).length<=2:=by
 unfold mH;split
 ·simp [oJ]
 ·split<;>simp [oJ]
structure tP (l l':List lR) (j:Nat):Prop where
 len:l'.length=l.length
 at_:∀ (k:Nat) e,l[k]?=some e->∃ e',l'[k]?=some e'/\e'.x=e.x/\(k < j->e'.f=(rF (kR l) (kZ l)).getD k 0/\e'.c=e.x.codeK e.f (sH (kR l) (kZ l) k) (CY (kR l) (kZ l)))/\(j<=k->e'=e)
theorem tP.zero (l:List lR):tP l l 0:=⟨rfl,λk e he=>⟨e,he,rfl,λh=>by omega,λ_=>rfl⟩⟩
theorem tP.xs {l l':List lR} {j:Nat} (h:tP l l' j):kR l'=kR l:=by
 apply List.ext_getElem?;intro k;unfold kR;rw [List.getElem?_map,List.getElem?_map];cases he:l[k]? with
 | none=>
  have:=h.len;rw [List.getElem?_eq_none (by have:=List.getElem?_eq_none_iff.1 he;omega)]
 | some e=>
  obtain ⟨e',h1,h2,_⟩:=h.at_ k e he;rw [h1];simp [h2]
theorem tP.fs {l l':List lR} (h:tP l l' l.length):kZ l'=rF (kR l) (kZ l):=by
 apply List.ext_getElem
 ·rw [mT];simp [kZ,h.len]
 ·intro k h1 h2;have hk:k < l.length:=by have:=h.len;simp [kZ] at h1;omega
  obtain ⟨e,he⟩:=bC hk;obtain ⟨e',q1,_,q3,_⟩:=h.at_ k e he;have q4:=(q3 hk).1;rw [List.getD_eq_getElem?_getD,List.getElem?_eq_getElem h2] at q4;have q5:=(zP q1).2;rw [List.getD_eq_getElem?_getD,List.getElem?_eq_getElem h1] at q5;simp only [Option.getD_some] at q4 q5;rw [q5,q4]
theorem tP.next {l l':List lR} {j:Nat} (h:tP l l' j) {e e':lR} (he:l[j]?=some e) (h1:e'.x=e.x) (h2:e'.f=(rF (kR l) (kZ l)).getD j 0) (h3:e'.c=e.x.codeK e.f (sH (kR l) (kZ l) j) (CY (kR l) (kZ l))):tP l (l'.set j e') (j+1):=by
 refine ⟨by rw [List.length_set];exact h.len,λk y hy=>?_⟩;have hj:j < l'.length:=by rw [h.len];exact (List.getElem?_eq_some_iff.1 he).1
 rw [List.getElem?_set];by_cases hk:j=k
 ·subst hk;rw [if_pos rfl,if_pos hj];rw [he] at hy;cases hy;exact ⟨e',rfl,h1,λ_=>⟨h2,h3⟩,λhh=>by omega⟩
 ·rw [if_neg hk];obtain ⟨y',q1,q2,q3,q4⟩:=h.at_ k y hy;exact ⟨y',q1,q2,λhh=>q3 (by omega),λhh=>q4 (by omega)⟩
theorem tP.skip {l l':List lR} {j:Nat} (h:tP l l' j) {e:lR} (he:l[j]?=some e) (h2:e.f=(rF (kR l) (kZ l)).getD j 0) (h3:e.c=e.x.codeK e.f (sH (kR l) (kZ l) j) (CY (kR l) (kZ l))):tP l l' (j+1):=by
 refine ⟨h.len,λk y hy=>?_⟩;obtain ⟨y',q1,q2,q3,q4⟩:=h.at_ k y hy;refine ⟨y',q1,q2,λhh=>?_,λhh=>q4 (by omega)⟩;by_cases hk:k=j
 ·subst hk;rw [he] at hy;cases hy;obtain rfl:=q4 (Nat.le_refl _);exact ⟨h2,h3⟩
 ·exact q3 (by omega)
theorem bBx {B:Nat} {u:Value} {l:List lR} (h:wI w B u l) (ho:tL (kR l)) (hf:zO (kR l) (kZ l)) (hB:B<=w.heap.size)
  (hk:∀ (b:Bool) l' w',wI w' B u l'->tP l l' l.length->(b=true↔∃ k,k < l.length/\iT (kR l) (kZ l) k=false)->(∀ w0,aF w0 w->w0.heap.size<=B->aF w0 w')->K (.bool b) w'):aB prog 122 #[u] w K:=by
 apply aWz;unfold QM;have hlx:(kR l).length=l.length:=by simp [kR]
 have hl:l.length<=6000:=by have:=ho.len;omega
 refine FJ h hf hl λatv w1 hat x1=>?_;have hatI:aN w1 atv (kT l (l.length+1)):=by unfold aN;rw [pM];exact aA.of_own hat
 refine GH (h.ext x1) hl ho.ok hatI λgL n w2 hgL hqn hn hL x2=>?_;have x02:=x1.trans x2;have h2:=h.ext x02;have hat2:=x2.own hat;refine gD rK (aA.of_own h2.row) ?_;have hs1:=x1.size;have hs2:=x2.size;refine ⟨λb k w'=>∃ (j:Nat) (bb:Bool) (l':List lR),k=i64 j/\b=.bool bb/\j<=l.length/\wI w' B u l'/\tP l l' j/\(bb=true↔∃ k,k < j/\iT (kR l) (kZ l) k=false)/\Fr (λk=>u.ownBlock=some k) w2 w',λ_ k _=>l.length - (RowKit.intOf k).toNat,⟨0,false,l,rfl,rfl,Nat.zero_le _,h2,tP.zero l,⟨λh=>(by cases h),λ⟨k,hk,_⟩=>(by omega)⟩,Fr.refl _ _⟩,?_⟩;rintro _ _ w3 ⟨j,bb,l',rfl,rfl,hj,h3,hfit,hbb,f3⟩ _;have x3:∀ w0,aF w0 w->w0.heap.size<=B->aF w0 w3:=λw0 hx hs=>f3.ext (hx.trans x02) λi hi=>by have:=(h.row.lt i hi).1;omega
 refine aY.2 (aD (λhlt=>?_) λhge=>?_)
 ·obtain ⟨e,he⟩:=bC (l:=l) (j:=j) (by omega);obtain ⟨e1,he1,_,_,hsame⟩:=hfit.at_ j e he;obtain rfl:=hsame (Nat.le_refl _);obtain ⟨hxe,hfe⟩:=zP he;have hem:=List.mem_of_getElem? he;have hll:=hfit.len
  obtain ⟨g,cap,rfl⟩:∃ g cap,u=.slice (some ⟨g,0,none⟩) l'.length cap:=by
   rcases h3.row.2 with ⟨_,e0⟩|⟨g',c',_,rfl,_⟩
   ·omega
   ·exact ⟨g',c',rfl⟩
  have hgB:=h3.row.lt g rfl
  have hgw:g < w.heap.size:=by
   have:=h.row.2;rcases this with ⟨e0,_⟩|⟨g',c',_,e0,_⟩
   ·cases e0
   ·exact (h.row.lt g rfl).2
  have hgk:rF (kR l) (kZ l)=rF (kR l) (kZ l):=rfl;have hgr:(rF (kR l) (kZ l)).getD j 0=if iT (kR l) (kZ l) j then e1.f else e1.f+1:=by rw [oT _ _ (by simp [kZ];omega),hfe]
  refine V.ok (jO underlying229 vU (by omega) (by rw [hll];omega)) ?_;rw [show (0+((j:Int)).toNat*13:Nat)=j*13 from by simp];obtain ⟨d,hd,had⟩:=aH.ex;obtain ⟨d2,hd2,had2⟩:=jB.ex
  have step:∀ {w':World} {b':Bool} {l2:List lR},wI w' B (.slice (some ⟨g,0,none⟩) l'.length cap) l2->tP l l2 (j+1)->b'=(bb||!iT (kR l) (kZ l) j)->Fr (λk=>k=g) w2 w'->V prog (binOp .add 3 (i64 j) (i64 1)) w' λt w4=>(∃ (j:Nat) (bb:Bool) (l2:List lR),t=i64 j/\Value.bool b'=.bool bb/\j<=l.length/\wI w4 B (.slice (some ⟨g,0,none⟩) l'.length cap) l2/\tP l l2 j/\(bb=true↔∃ k,k < j/\iT (kR l) (kZ l) k=false)/\Fr (λk=>(Value.slice (some ⟨g,0,none⟩) l'.length cap).ownBlock=some k) w2 w4)/\l.length - (RowKit.intOf t).toNat < l.length - (RowKit.intOf (i64 (j:Int))).toNat:=λq1 q2 q3 q4=>by
   refine aU.2 ?_;rw [aC (by omega) (by omega),aR];refine ⟨⟨j+1,_,_,rfl,rfl,by omega,q1,q2,?_,q4.mono λk hk=>by subst hk;rfl⟩,by simp only [aL];omega⟩;rw [q3,Bool.or_eq_true,hbb];constructor
   ·rintro (⟨k,hk,hr⟩|hr)
    ·exact ⟨k,by omega,hr⟩
    ·exact ⟨j,by omega,by simpa using hr⟩
   ·rintro ⟨k,hk,hr⟩;by_cases hkj:k=j
    ·subst hkj;right;simp [hr]
    ·exact .inl ⟨k,by omega,hr⟩
  have f3':Fr (λk=>k=g) w2 w3:=f3.mono λk hk=>by cases hk;rfl
  have skip:e1.x.isJ=false->tP l l' (j+1)/\iT (kR l) (kZ l) j=true:=λhj0=>by
   have hr:iT (kR l) (kZ l) j=true:=by
    unfold iT;rw [hxe];cases hx:e1.x with
    | jump c q=>rw [hx] at hj0;cases hj0
    | _=>rfl
   refine ⟨hfit.skip he (by rw [hgr,hr];rfl) ?_,hr⟩;rw [h.fix e1 hem hj0];cases hx:e1.x with
   | jump c q=>rw [hx] at hj0;cases hj0
   | _=>rfl
  cases hx:e1.x with
  | one i=>
   obtain ⟨q1,q2⟩:=skip (by rw [hx];rfl);have h0:e1.cells[0]?=some (i64 1):=by unfold lR.cells;rw [hx];rfl
   refine ⟨.inl ⟨_,rfl⟩,DT bQ (DT bA (V.ok (iZ hd had (h3.at_ (o:=0) he1 h0)) (dB.2 (aD (λ_=>?_) λhh=>absurd (by decide) hh))))⟩;exact step h3 q1 (by rw [q2];simp) f3'
  | place q=>
   obtain ⟨q1,q2⟩:=skip (by rw [hx];rfl);have h0:e1.cells[0]?=some (i64 2):=by unfold lR.cells;rw [hx];rfl
   refine ⟨.inl ⟨_,rfl⟩,DT bQ (DT bA (V.ok (iZ hd had (h3.at_ (o:=0) he1 h0)) (dB.2 (aD (λ_=>?_) λhh=>absurd (by decide) hh))))⟩;exact step h3 q1 (by rw [q2];simp) f3'
  | load r n=>
   obtain ⟨q1,q2⟩:=skip (by rw [hx];rfl);have h0:e1.cells[0]?=some (i64 4):=by unfold lR.cells;rw [hx];rfl
   refine ⟨.inl ⟨_,rfl⟩,DT bQ (DT bA (V.ok (iZ hd had (h3.at_ (o:=0) he1 h0)) (dB.2 (aD (λ_=>?_) λhh=>absurd (by decide) hh))))⟩;exact step h3 q1 (by rw [q2];simp) f3'
  | jump c q=>
   rw [hx] at hxe;have hcs:e1.cells=[i64 3,i64 0,i64 0,i64 0,i64 0,i64 0,i64 0,i64 q,i64 c,i64 0,i32 0,e1.v,i64 (e1.f:Int)]:=by unfold lR.cells;rw [hx];rfl
   have hoi:cF.okI (.jump c q):=ho.ok _ (List.mem_of_getElem? hxe);obtain ⟨hq0,hc0⟩:(0<=q/\q<=2000)/\(0<=c/\c<=14):=hoi;have hqm:q∈jU (kR l):=ho.jl q (List.mem_flatMap.2 ⟨_,List.mem_of_getElem? hxe,List.mem_singleton.2 rfl⟩);obtain ⟨lb0,lb1,lb2⟩:=aGf hf hqm;have hat0:=hf.at_le j;obtain ⟨q,rfl⟩:=kG hq0.1;have hqL:=hqn q hqm;have hfm:=hf.le2 j;rw [hfe] at hfm;have hrb:iT (kR l) (kZ l) j=(mH c e1.f (sH (kR l) (kZ l) j) (CY (kR l) (kZ l) q)).all cN:=by unfold iT;rw [hxe];dsimp only;rw [hfe]
   have ld:∀ {w':World} {l2:List lR} {e2:lR} {o:Nat} {n:Int},wI w' B (.slice (some ⟨g,0,none⟩) l2.length cap) l2->l2[j]?=some e2->e2.cells[o]?=some (i64 n)->(Instr.loadAt 3 (.pointer (some ⟨g,j*13+o,none⟩))).run prog w'=.ok (i64 n) w':=λq1 q2 q3=>iZ hd had (q1.at_ q2 q3);refine ⟨.inl ⟨_,rfl⟩,DT bQ (DT bA (V.ok (ld (o:=0) h3 he1 (by rw [hcs];rfl)) (dB.2 (aD (λhh=>absurd rfl hh) λ_=>?_))))⟩;have D:aF w3 w3.drew:=(aF.refl _).drew;have hgL':g < gL:=by omega
   have hL3:=(f3'.blk hL (by omega)).ext D
   have hat3:aN w3.drew atv (kT l (l.length+1)):=by
    unfold aN;rw [pM];exact aA.of_own (D.own (f3'.own hat2 λk hk hS=>by have:=(hat2.lt k hk).1;omega))
   have hx3:∀ {w'},aF w3.drew w'->wI w' B (.slice (some ⟨g,0,none⟩) l'.length cap) l':=λhx=>h3.ext (D.trans hx);refine aM.mk' (λw'=>aF w3.drew w') (aF.refl _) ?_;refine ⟨.inl ⟨_,rfl⟩,yfA bQ (yfA dZ (aE.ok (λw' hw=>ld (o:=8) (hx3 hw) he1 (by rw [hcs];rfl)) ?_))⟩;refine ⟨.inl ⟨_,rfl⟩,yfA fT (aE.ok (λw' hw=>ld (o:=12) (hx3 hw) he1 (by rw [hcs];rfl)) ?_)⟩;refine nR aQ aH hat3 (λ_ h=>h) (by omega) (by rw [pM];omega) (cG (vJ (by omega))) ?_;refine ⟨.inl ⟨_,rfl⟩,yfA bQ (yfA bZ (aE.ok (λw' hw=>ld (o:=7) (hx3 hw) he1 (by rw [hcs];rfl)) ?_))⟩;refine nR aQ aH (hL3.slice (oS _ _ _ _) (by unfold maxLen;omega)) (λ_ h=>h) (by omega) (by omega) (by rw [Int.toNat_natCast];exact uQ hqL) ?_;have hlab:xJ (kR l) (kZ l) (q:Int) l.length=CY (kR l) (kZ l) q:=by unfold CY;rw [hlx]
   rw [hlab];refine aPi hc0 hfm (by unfold Adr;omega) (by unfold Adr;omega) λv4 w4 hv4 x4=>⟨x4,.inl ⟨_,rfl⟩,?_⟩;refine yfA fO ?_;have x34:=D.trans x4;have s3:=f3.size;have s34:=x34.size;have sD:=D.size;have h4:wI w4 B (.slice (some ⟨g,0,none⟩) l'.length cap) l':=h3.ext x34;have hown:gC w4 B v4 (mH c e1.f (sH (kR l) (kZ l) j) (CY (kR l) (kZ l) q)):=aX hv4 (by omega);refine h4.put (o:=11) (e':=⟨e1.x,e1.f,mH c e1.f (sH (kR l) (kZ l) j) (CY (kR l) (kZ l) q),v4⟩) SM he1 (by rw [hcs];unfold lR.cells;dsimp only;rw [hx];rfl) (by decide) (nX hv4) hown (λhj0=>by dsimp only at hj0;rw [hx] at hj0;cases hj0) (Nat.le_trans uR (by decide)) λw5 h5 f5=>?_;have he5:(l'.set j ⟨e1.x,e1.f,mH c e1.f (sH (kR l) (kZ l) j) (CY (kR l) (kZ l) q),v4⟩)[j]?=some ⟨e1.x,e1.f,mH c e1.f (sH (kR l) (kZ l) j) (CY (kR l) (kZ l) q),v4⟩:=by rw [List.getElem?_set_self (by omega)]
   have hl5:(l'.set j ⟨e1.x,e1.f,mH c e1.f (sH (kR l) (kZ l) j) (CY (kR l) (kZ l) q),v4⟩).length=l'.length:=List.length_set;rw [<- hl5] at h5
   have c5:∀ {o:Nat} {z:Value},(e1.cells.set 11 v4)[o]?=some z->(lR.cells ⟨e1.x,e1.f,mH c e1.f (sH (kR l) (kZ l) j) (CY (kR l) (kZ l) q),v4⟩)[o]?=some z:=λ{o z} hz=>by
    rw [hcs] at hz;unfold lR.cells;dsimp only;rw [hx];exact hz
   refine ⟨.inl ⟨_,rfl⟩,DT fO (V.ok (iZ hd2 had2 (h5.at_ (o:=11) he5 (c5 (by rw [hcs];rfl)))) ?_)⟩;have hl2:=uR (c:=c) (a:=(sH (kR l) (kZ l) j:Int)) (b:=CY (kR l) (kZ l) q) (f:=e1.f);refine bDf (h5.code _ (List.mem_of_getElem? he5)) (by dsimp only;omega) SJ λw6 x6=>dK.2 ?_;dsimp only;rw [<- hrb];have h6:=h5.ext x6;have f26:Fr (λk=>k=g) w2 w6:=((f3'.trans (Fr.of_ext x34) λ_ _ h=>h).trans f5 λ_ _ h=>h).trans (Fr.of_ext x6) λ_ _ h=>h;cases hr:iT (kR l) (kZ l) j with
   | true=>
    refine aP.2 ?_;rw [hl5] at h6;refine step h6 (hfit.next he rfl (by rw [hgr,hr];rfl) (by rw [hx];rfl)) (by rw [hr];simp) f26
   | false=>
    refine bK.2 ⟨.inl ⟨_,rfl⟩,DT fT (V.ok (ld (o:=12) h6 he5 (c5 (by rw [hcs];rfl))) (aU.2 ?_))⟩;rw [aC (by omega) (by omega),aR];refine ⟨.inl ⟨_,rfl⟩,DT fT ?_⟩;refine h6.put (o:=12) (e':=⟨e1.x,e1.f+1,mH c e1.f (sH (kR l) (kZ l) j) (CY (kR l) (kZ l) q),v4⟩) bY he5 (by unfold lR.cells;dsimp only;rw [hx];rfl) (by decide) rfl ((h5.code _ (List.mem_of_getElem? he5)).ext x6) (λhj0=>by dsimp only at hj0;rw [hx] at hj0;cases hj0) (Nat.le_trans uR (by decide)) λw7 h7 f7=>?_;rw [hl5,List.set_set] at h7;refine step h7 (hfit.next he rfl (by rw [hgr,hr];rfl) (by rw [hx];rfl)) (by rw [hr];simp) (f26.trans f7 λ_ _ h=>h)
 ·obtain rfl:j=l.length:=by omega
  exact hk bb l' w3 h3 hfit hbb x3
theorem AR {a:Nat} (h:a < 18446744073709551616):(BitVec.ofInt 64 (a:Int)).toNat=a:=by rw [BitVec.toNat_ofInt];omega
theorem bJo {a b:Nat} (ha:a < 4294967296) (hb:b < 4294967296):IntKind.i64.wrap (((BitVec.ofInt IntKind.i64.bits (a:Int) ||| BitVec.ofInt IntKind.i64.bits (b:Int)).toNat:Nat):Int)=((a ||| b:Nat):Int):=by
 have h:a ||| b < 4294967296:=Nat.or_lt_two_pow (n:=32) ha hb;rw [show IntKind.i64.bits=64 from rfl,BitVec.toNat_or,AR (by omega),AR (by omega)];exact aC (by omega) (by omega)
theorem bIq {a b:Nat} (ha:a < 4294967296) (hb:b < 4294967296):IntKind.i64.wrap (((BitVec.ofInt IntKind.i64.bits (a:Int) &&& BitVec.ofInt IntKind.i64.bits (b:Int)).toNat:Nat):Int)=((a &&& b:Nat):Int):=by
 have h:a &&& b<=a:=Nat.and_le_left;rw [show IntKind.i64.bits=64 from rfl,BitVec.toNat_and,AR (by omega),AR (by omega)];exact aC (by omega) (by omega)
theorem bGu {a b:Nat} (ha:a < 2) (hb:b < 2):IntKind.i64.wrap (((BitVec.ofInt IntKind.i64.bits (a:Int) ^^^ BitVec.ofInt IntKind.i64.bits (b:Int)).toNat:Nat):Int)=((a ^^^ b:Nat):Int):=by
 have:(a=0\/a=1)/\(b=0\/b=1):=by omega
 rcases this with ⟨rfl|rfl,rfl|rfl⟩<;>decide
theorem aYc {a s:Nat} (h:a*2 ^ s < 4294967296) (hs:s<=64):IntKind.i64.wrap ((a:Int)*2 ^ (min (s:Int).toNat IntKind.i64.bits))=((a <<< s:Nat):Int):=by
 rw [Int.toNat_natCast,show IntKind.i64.bits=64 from rfl,Nat.min_eq_left hs,Nat.shiftLeft_eq];have e:(a:Int)*2 ^ s=((a*2 ^ s:Nat):Int):=by push_cast;rfl
 rw [e];exact aC (by omega) (by omega)
theorem bHb {a:Int} {s:Nat} (hs:s<=64):a.fdiv (2 ^ (min (s:Int).toNat IntKind.i64.bits))=a / ((2 ^ s:Nat):Int):=by
 rw [Int.toNat_natCast,show IntKind.i64.bits=64 from rfl,Nat.min_eq_left hs,Int.fdiv_eq_ediv_of_nonneg _ (Int.le_of_lt (Int.pow_pos (by decide)))]
 push_cast;rfl
theorem bHc {a s:Nat} (hs:s<=64):(a:Int).fdiv (2 ^ (min (s:Int).toNat IntKind.i64.bits))=((a >>> s:Nat):Int):=by
 rw [bHb hs,Nat.shiftRight_eq_div_pow];push_cast;rfl
section
variable {P:Program} {t:TypeId} {k':IntKind} {x y:Int} {a b s:Nat}
theorem vOr (hx:x=a) (hy:y=b) (ha:a < 4294967296) (hb:b < 4294967296) (hk:K (i64 ((a ||| b:Nat):Int)) w):V P (binOp .or t (i64 x) (i64 y)) w K:=by
 subst hx hy;refine V.ok bHk ?_;rw [bJo ha hb];exact hk
theorem bJk (hx:x=a) (hy:y=b) (ha:a < 4294967296) (hb:b < 4294967296) (hk:K (i64 ((a &&& b:Nat):Int)) w):V P (binOp .and t (i64 x) (i64 y)) w K:=by
 subst hx hy;refine V.ok CN ?_;rw [bIq ha hb];exact hk
theorem bGx (hx:x=a) (hy:y=b) (ha:a < 2) (hb:b < 2) (hk:K (i64 ((a ^^^ b:Nat):Int)) w):V P (binOp .xor t (i64 x) (i64 y)) w K:=by
 subst hx hy;refine V.ok aYi ?_;rw [bGu ha hb];exact hk
theorem aDl (hx:x=a) (hy:y=s) (h:a*2 ^ s < 4294967296) (hs:s<=64) (hk:K (i64 ((a <<< s:Nat):Int)) w):V P (binOp .shl t (i64 x) (.int k' y)) w K:=by
 subst hx hy;refine V.ok (KJ (by omega)) ?_;rw [aYc h hs];exact hk
theorem bJj (hx:x=a) (hy:y=s) (hs:s<=64) (hk:K (i64 ((a >>> s:Nat):Int)) w):V P (binOp .shr t (i64 x) (.int k' y)) w K:=by
 subst hx hy;refine V.ok (uX (by omega)) ?_;rw [bHc hs];exact hk
theorem UI (hy:y=s) (hs:s<=64) (hk:K (i64 (x / ((2 ^ s:Nat):Int))) w):V P (binOp .shr t (i64 x) (.int k' y)) w K:=by
 subst hy;refine V.ok (uX (by omega)) ?_;rw [bHb hs];exact hk
theorem UJ (hy:y=((2 ^ b - 1:Nat):Int)) (hb:b<=32) (hx:x % ((2 ^ b:Nat):Int)=a) (hk:K (i64 (a:Int)) w):V P (binOp .and t (i64 x) (i64 y)) w K:=by
 subst hy;refine V.ok CN ?_;rw [show IntKind.i64.wrap (((BitVec.ofInt IntKind.i64.bits x &&& BitVec.ofInt IntKind.i64.bits ((2 ^ b - 1:Nat):Int)).toNat:Nat):Int)=(a:Int) from (aFy (n:=x) hb).trans hx];exact hk
end
def hwC (l:List Nat):List Value:=l.map λ(h:Nat)=>u16 (h:Int)
def rJ (w:World) (B:Nat) (v:Value) (l:List Nat):Prop:=w.ownsRow B 151 1 v l.length (hwC l)
theorem aPs {b:Bool} (hk:K (i64 ((if b then 1 else 0:Nat):Int)) w):aB prog 217 #[.bool b] w K:=by
 apply aTg;unfold MY;cases b with
 | true=>exact bK.2 hk
 | false=>exact aP.2 hk
theorem uO {a:Int} {m:Nat} (hm:0 < m):∃ x:Nat,x < m/\a % (m:Int)=x/\(a % (m:Int)).toNat=x:=by
 have h0:0<=a % (m:Int):=Int.emod_nonneg _ (by omega);have h1:a % (m:Int) < m:=Int.emod_lt_of_pos _ (by omega);exact ⟨(a % (m:Int)).toNat,by omega,by omega,rfl⟩
theorem aPa {imm:Int} (hk:∀ v w',rJ w' w.heap.size v (blN imm)->aF w w'->K v w'):aB prog 181 #[i64 imm] w K:=by
 apply aUr;unfold OI;refine aY.2 (aPs ?_);have hs:(if decide (imm < 0) then 1 else 0:Nat)=if imm < 0 then 1 else 0:=by by_cases h:imm < 0<;>simp [h]
 rw [hs];have hN:blN imm=[aCq (if imm < 0 then 1 else 0) ((imm / 4096) % 1024).toNat,aCp (1 - (JF imm 23 ^^^ if imm < 0 then 1 else 0)) (1 - (JF imm 22 ^^^ if imm < 0 then 1 else 0)) ((imm / 2) % 2048).toNat]:=rfl;rw [hN] at hk;unfold JF at hk;have hs2:(if imm < 0 then 1 else 0:Nat) < 2:=by split<;>decide
 generalize (if imm < 0 then 1 else 0:Nat)=s at hk hs2;obtain ⟨b23,l23,m23,n23⟩:=uO (a:=imm / ((2 ^ 23:Nat):Int)) (m:=2) (by decide);obtain ⟨b22,l22,m22,n22⟩:=uO (a:=imm / ((2 ^ 22:Nat):Int)) (m:=2) (by decide);obtain ⟨x,lx,mx,nx⟩:=uO (a:=imm / 4096) (m:=1024) (by decide);obtain ⟨y,ly,my,ny⟩:=uO (a:=imm / 2) (m:=2048) (by decide);have nx':(imm / 4096 % 1024).toNat=x:=nx;have ny':(imm / 2 % 2048).toNat=y:=ny;have n23':(imm / ((2 ^ 23:Nat):Int) % 2).toNat=b23:=n23;have n22':(imm / ((2 ^ 22:Nat):Int) % 2).toNat=b22:=n22;rw [nx',ny',n23',n22'] at hk;have x23:=Nat.xor_lt_two_pow (n:=1) l23 hs2;have x22:=Nat.xor_lt_two_pow (n:=1) l22 hs2;refine UI (s:=23) rfl (by decide) (UJ (b:=1) rfl (by decide) m23 ?_);refine bGx rfl rfl l23 hs2 (fQ.2 ?_);rw [aC (by omega) (by omega),show (1:Int) - ((b23 ^^^ s:Nat):Int)=((1 - (b23 ^^^ s):Nat):Int) from by omega];refine UI (s:=22) rfl (by decide) (UJ (b:=1) rfl (by decide) m22 ?_);refine bGx rfl rfl l22 hs2 (fQ.2 ?_);rw [aC (by omega) (by omega),show (1:Int) - ((b22 ^^^ s:Nat):Int)=((1 - (b22 ^^^ s):Nat):Int) from by omega];generalize hj:1 - (b23 ^^^ s)=j at hk;generalize hkk:1 - (b22 ^^^ s)=k at hk;have j2:j < 2:=by omega
 have k2:k < 2:=by omega
 have c1:=jQ cHi hs2 lx;have c2:=nY (jQ cLo j2 k2) ly;simp only [Bool.and_eq_true,decide_eq_true_eq] at c1 c2;have hs10:s <<< 10 < 4294967296:=by rw [Nat.shiftLeft_eq];omega
 have hj13:j <<< 13 < 4294967296:=by rw [Nat.shiftLeft_eq];omega
 have hk11:k <<< 11 < 4294967296:=by rw [Nat.shiftLeft_eq];omega
 have o1:61440 ||| s <<< 10 < 4294967296:=Nat.or_lt_two_pow (n:=32) (by decide) hs10;have o2:53248 ||| j <<< 13 < 4294967296:=Nat.or_lt_two_pow (n:=32) (by decide) hj13;have o3:53248 ||| j <<< 13 ||| k <<< 11 < 4294967296:=Nat.or_lt_two_pow (n:=32) o2 hk11;refine aDl (s:=10) rfl rfl (by omega) (by decide) (vOr (a:=61440) rfl rfl (by decide) hs10 ?_);refine UI (s:=12) rfl (by decide) (UJ (b:=10) rfl (by decide) mx (vOr rfl rfl o1 (by omega) ?_));refine V.ok (lL underlying3 underlying151) ?_;have e1:61440 ||| s <<< 10 ||| x=aCq s x:=rfl;rw [e1,uW (by omega) (by omega)];refine aDl (s:=13) rfl rfl (by omega) (by decide) (vOr (a:=53248) rfl rfl (by decide) hj13 ?_);refine aDl (s:=11) rfl rfl (by omega) (by decide) (vOr rfl rfl o2 hk11 ?_);refine UI (s:=1) rfl (by decide) (UJ (b:=11) rfl (by decide) my (vOr rfl rfl o3 (by omega) ?_));refine V.ok (lL underlying3 underlying151) ?_;have e2:53248 ||| j <<< 13 ||| k <<< 11 ||| y=aCp j k y:=rfl;rw [e2,uW (by omega) (by omega)];exact jS aDe [u16 (aCq s x:Int),u16 (aCp j k y:Int)] rfl rfl (by simp) rfl λv w1 ho x1=>hk v w1 ho x1
structure zM (s:jL):Prop where
 b0:0<=s.bits
 s0:0<=s.shift
 bs:s.bits+s.shift<=16
 st:1<=s.step
 p0:0<=s.part
 p4:s.part<=4
 l0:-4096<=s.least
 m0:s.most<=4096
 b1:s.bits<=11
 s4:s.step<=4
def HS (s:jL):Bool:=decide (0<=s.bits)&&decide (0<=s.shift)&&decide (s.bits+s.shift<=16)&&decide (1<=s.step)&&decide (0<=s.part)&&decide (s.part<=4)&&decide (-4096<=s.least)&&decide (s.most<=4096)&&decide (s.bits<=11)&&decide (s.step<=4)
theorem zM.of {s:jL} (h:HS s=true):zM s:=by
 simp only [HS,Bool.and_eq_true,decide_eq_true_eq] at h;obtain ⟨⟨⟨⟨⟨⟨⟨⟨⟨h1,h2⟩,h3⟩,h4⟩,h5⟩,h6⟩,h7⟩,h8⟩,h9⟩,h10⟩:=h;exact ⟨h1,h2,h3,h4,h5,h6,h7,h8,h9,h10⟩
theorem MB {op b:Int} {sl:List jL} (h:cZ op=some (b,sl)):0<=b/\b < 65536/\sl.all HS=true:=by
 unfold cZ at h;by_cases c:12<=op/\op<=27
 ·rw [if_pos c] at h;cases h;exact ⟨by omega,by omega,by decide⟩
 rw [if_neg c] at h;clear c;by_cases c:8<=op/\op<=11
 ·rw [if_pos c] at h;cases h;exact ⟨by omega,by omega,by decide⟩
 rw [if_neg c] at h;clear c;by_cases c:op=1
 ·rw [if_pos c] at h;cases h;exact ⟨by omega,by omega,by decide⟩
 rw [if_neg c] at h;clear c;by_cases c:op=2
 ·rw [if_pos c] at h;cases h;exact ⟨by omega,by omega,by decide⟩
 rw [if_neg c] at h;clear c;by_cases c:op=3
 ·rw [if_pos c] at h;cases h;exact ⟨by omega,by omega,by decide⟩
 rw [if_neg c] at h;clear c;by_cases c:op=4
 ·rw [if_pos c] at h;cases h;exact ⟨by omega,by omega,by decide⟩
 rw [if_neg c] at h;clear c;by_cases c:op=5
 ·rw [if_pos c] at h;cases h;exact ⟨by omega,by omega,by decide⟩
 rw [if_neg c] at h;clear c;by_cases c:op=6
 ·rw [if_pos c] at h;cases h;exact ⟨by omega,by omega,by decide⟩
 rw [if_neg c] at h;clear c;by_cases c:op=7
 ·rw [if_pos c] at h;cases h;exact ⟨by omega,by omega,by decide⟩
 rw [if_neg c] at h;clear c;by_cases c:op=30
 ·rw [if_pos c] at h;cases h;exact ⟨by omega,by omega,by decide⟩
 rw [if_neg c] at h;clear c;by_cases c:op=29
 ·rw [if_pos c] at h;cases h;exact ⟨by omega,by omega,by decide⟩
 rw [if_neg c] at h;clear c;by_cases c:op=32
 ·rw [if_pos c] at h;cases h;exact ⟨by omega,by omega,by decide⟩
 rw [if_neg c] at h;clear c;by_cases c:op=31
 ·rw [if_pos c] at h;cases h;exact ⟨by omega,by omega,by decide⟩
 rw [if_neg c] at h;clear c;by_cases c:op=34
 ·rw [if_pos c] at h;cases h;exact ⟨by omega,by omega,by decide⟩
 rw [if_neg c] at h;clear c;by_cases c:op=33
 ·rw [if_pos c] at h;cases h;exact ⟨by omega,by omega,by decide⟩
 rw [if_neg c] at h;clear c;unfold lY at h;by_cases c:op=36
 ·rw [if_pos c] at h;cases h;exact ⟨by omega,by omega,by decide⟩
 rw [if_neg c] at h;clear c;by_cases c:op=35
 ·rw [if_pos c] at h;cases h;exact ⟨by omega,by omega,by decide⟩
 rw [if_neg c] at h;clear c;by_cases c:op=37
 ·rw [if_pos c] at h;cases h;exact ⟨by omega,by omega,by decide⟩
 rw [if_neg c] at h;clear c;by_cases c:op=38
 ·rw [if_pos c] at h;cases h;exact ⟨by omega,by omega,by decide⟩
 rw [if_neg c] at h;clear c;by_cases c:op=39
 ·rw [if_pos c] at h;cases h;exact ⟨by omega,by omega,by decide⟩
 rw [if_neg c] at h;clear c;by_cases c:op=40
 ·rw [if_pos c] at h;cases h;exact ⟨by omega,by omega,by decide⟩
 rw [if_neg c] at h;clear c;by_cases c:op=41
 ·rw [if_pos c] at h;cases h;exact ⟨by omega,by omega,by decide⟩
 rw [if_neg c] at h;clear c;by_cases c:op=42
 ·rw [if_pos c] at h;cases h;exact ⟨by omega,by omega,by decide⟩
 rw [if_neg c] at h;clear c;by_cases c:op=44
 ·rw [if_pos c] at h;cases h;exact ⟨by omega,by omega,by decide⟩
 rw [if_neg c] at h;clear c;by_cases c:op=45
 ·rw [if_pos c] at h;cases h;exact ⟨by omega,by omega,by decide⟩
 rw [if_neg c] at h;clear c;cases h
theorem aOh {h:Nat} {s:jL} {n:Int} (hs:zM s) (hh:h < 65536):RS h s n < 65536:=by
 have h1:=hs.b0;have h2:=hs.s0;have h3:=hs.bs;unfold RS;refine Nat.or_lt_two_pow (n:=16) hh ?_;obtain ⟨x,lx,_,nx⟩:=uO (a:=n.tdiv s.step) (m:=2 ^ s.bits.toNat) (Nat.pow_pos (by decide));rw [nx,Nat.shiftLeft_eq]
 calc x*2 ^ s.shift.toNat < 2 ^ s.bits.toNat*2 ^ s.shift.toNat:=Nat.mul_lt_mul_of_pos_right lx (Nat.pow_pos (by decide))
  _=2 ^ (s.bits.toNat+s.shift.toNat):=(Nat.pow_add 2 _ _).symm
  _<=2 ^ 16:=Nat.pow_le_pow_right (by decide) (by omega)
theorem qT {sl:List jL} {i:gZ} {k:Int} (hp:jK sl i k=true) (hs:∀ s∈sl,zM s):-4096<=i.part k/\i.part k<=4096:=by
 cases hf:sl.find? (λs=>decide (s.part=k)) with
 | none=>rw [fR hp hf];exact ⟨by decide,by decide⟩
 | some s=>
  obtain ⟨h1,h2,_⟩:=jP hp hf;have ho:=hs s (List.mem_of_find?_eq_some hf);have:=ho.l0;have:=ho.m0;exact ⟨by omega,by omega⟩
theorem TB {α β:Type} (f:β->α->β) (b:β) (l:List α) {j:Nat} {x:α} (h:l[j]?=some x):(l.take (j+1)).foldl f b=f ((l.take j).foldl f b) x:=by
 rw [List.take_add_one,h,List.foldl_append];rfl
theorem RG {a b:Int} (hb:1<=b) (h0:-4096<=a) (h1:a<=4096):-4096<=a.tdiv b/\a.tdiv b<=4096:=by
 have h2:(a.tdiv b).natAbs<=a.natAbs:=by
  rw [Int.natAbs_tdiv];exact Nat.div_le_self _ _
 omega
theorem aCc {i:gZ} (hr:cN i=true) (ho:yN i.op) (hb:ET i) (hk:∀ v w',rJ w' w.heap.size v (EX i)->aF w w'->K (.tuple #[v,i64 0]) w'):aB prog 124 #[.agg i.cells.toArray] w K:=by
 apply aWx;unfold QJ;refine bx λb w1 hbx x1=>?_;have hbx:bG w1 b i.cells:=hbx;refine iO hbx qB rfl ?_;refine CH hb.1 hb.2 λw2 x2=>dK.2 ?_;rw [hr];refine aP.2 ?_;have x02:=x1.trans x2;have hb2:=hbx.ext x2;have fi:∀ {R:Value->World->Prop} {f:Nat} {v:Value},FA prog 83 f f->i.cells[f]?=some v->R v w2->V prog (Instr.fieldAt 83 (.pointer (some ⟨b,0,none⟩)) f) w2 λq w2=>V prog (Instr.loadAt 3 q) w2 R:=λhf hv hr=>bF hb2 hf aH hv hr;refine fi mA rfl (aK.2 (aD (λe=>?_) λe28=>?_))
 ·obtain ⟨p,q,hp,hq,rfl⟩:=yV hr e;have hN:EX ⟨28,p,0,q,0,0⟩=[RY p q]:=rfl;rw [hN] at hk;have c:=jQ c28 hp hq;simp only [bAp,Bool.and_eq_true,decide_eq_true_eq] at c;have e0:RY (p:Int) (q:Int)=17920 ||| p >>> 3 <<< 7 ||| q <<< 3 ||| (p &&& 7):=rfl;have a1:p >>> 3<=p:=by rw [Nat.shiftRight_eq_div_pow];exact Nat.div_le_self _ _
  have a2:p >>> 3 <<< 7 < 4294967296:=by rw [Nat.shiftLeft_eq];omega
  have a3:q <<< 3 < 4294967296:=by rw [Nat.shiftLeft_eq];omega
  have a4:p &&& 7<=p:=Nat.and_le_left;have o1:17920 ||| p >>> 3 <<< 7 < 4294967296:=Nat.or_lt_two_pow (n:=32) (by decide) a2;have o2:17920 ||| p >>> 3 <<< 7 ||| q <<< 3 < 4294967296:=Nat.or_lt_two_pow (n:=32) o1 a3;refine fi lN rfl (bJj (a:=p) (s:=3) rfl rfl (by decide) (aDl (s:=7) rfl rfl (by omega) (by decide) (vOr (a:=17920) rfl rfl (by decide) a2 ?_)));refine fi mU rfl (aDl (a:=q) (s:=3) rfl rfl (by omega) (by decide) (vOr rfl rfl o1 a3 ?_));refine fi lN rfl (bJk (a:=p) (b:=7) rfl rfl (by omega) (by decide) (vOr rfl rfl o2 (by omega) ?_));refine V.ok (lL underlying3 underlying151) ?_;rw [<- e0,uW (by omega) (by omega)];refine jS aDe [u16 (RY p q:Int)] rfl rfl (by simp) rfl λv w3 ho3 x3=>?_;exact hk v w3 (aX ho3 x02.size) (x02.trans x3)
 refine aK.2 (aD (λe=>?_) λe43=>?_)
 ·have hN:EX i=blN i.imm:=by unfold EX;rw [if_neg e28,if_pos e]
  rw [hN] at hk;refine fi lZ rfl (aPa λv w3 ho3 x3=>?_);exact hk v w3 (aX ho3 x02.size) (x02.trans x3)
 have hao:uI i.op:=by
  rcases ho with h|h|h
  ·exact h
  ·exact absurd h e28
  ·exact absurd h e43
 obtain ⟨⟨base,sl⟩,hf,hback⟩:=WZ hr hao;have hN:EX i=[AO (base,sl) i]:=by unfold EX;rw [if_neg e28,if_neg e43,hf]
 rw [hN] at hk;obtain ⟨fb0,fb1,hsl⟩:=MB hf;have hso:∀ s∈sl,zM s:=λs hs=>zM.of (List.all_eq_true.1 hsl s hs);obtain ⟨p0,p1,p2,p3,p4⟩:=kC hr hf e28 e43
 have hpart:∀ s∈sl,-4096<=i.part s.part/\i.part s.part<=4096:=λs hs=>by
  have h0:=(hso s hs).p0;have h4:=(hso s hs).p4;have:s.part=0\/s.part=1\/s.part=2\/s.part=3\/s.part=4:=by omega
  rcases this with h|h|h|h|h<;>rw [h]
  ·exact qT p0 hso
  ·exact qT p1 hso
  ·exact qT p2 hso
  ·exact qT p3 hso
  ·exact qT p4 hso
 have hll:=(MC hf).1;refine fi mA rfl (aHg λv w3 hv x3=>?_);rw [hf] at hv;obtain ⟨sv,rfl,hsv⟩:=hv;refine gS.2 (gR.2 ?_);refine sI aDz rfl (aFh (nX hsv)) λw4 h4 x4=>?_;have h4:bG w4 w3.heap.size [i64 i.op,u16 base,sv]:=bO.boxed h4;refine bF h4 eN iH rfl (bF h4 eA hY rfl (gD HI (aA.of_own (x4.own hsv)) ?_));have x04:=(x02.trans x3).trans x4;have x24:=x3.trans x4;obtain ⟨bn,rfl⟩:=kG fb0;refine ⟨λh k w'=>∃ (j hn:Nat),k=i64 j/\h=u16 (hn:Int)/\j<=sl.length/\hn < 65536/\hn=(sl.take j).foldl (λh s=>RS h s (i.part s.part)) bn/\aF w4 w',λ_ k _=>sl.length - (RowKit.intOf k).toNat,⟨0,bn,rfl,rfl,Nat.zero_le _,by omega,rfl,aF.refl _⟩,?_⟩;rintro _ _ w5 ⟨j,hn,rfl,rfl,hj,hlt,hfold,x5⟩ _;refine aY.2 (aD (λhjl=>?_) λhge=>?_)
 ·obtain ⟨s,hs⟩:=bC (l:=sl) (j:=j) (by omega);have hsm:=List.mem_of_getElem? hs;have so:=hso s hsm;have b0:=so.b0;have s0:=so.s0;have bs:=so.bs;have st:=so.st;obtain ⟨q1,q2⟩:=hpart s hsm;refine uU HI fA (aA.of_own ((x4.trans x5).own hsv)) (by omega) (by omega) (aDv hs) rfl ?_;refine sI HV rfl rfl λw6 h8 x6=>?_;have h8:bG w6 w5.heap.size s.cells:=bO.boxed h8;have D:aF w6 w6.drew:=(aF.refl _).drew;have hb6:bG w6.drew b i.cells:=(((hb2.ext x24).ext x5).ext x6).ext D;refine aM.mk' (λw'=>aF w6.drew w') (aF.refl _) ?_;refine jM (λw' hx=>(h8.ext D).ext hx) gX aH rfl ?_;refine jM (λw' hx=>(h8.ext D).ext hx) gW aH rfl ?_;refine aFe ⟨aF.refl _,.inl ⟨_,rfl⟩,?_⟩;obtain ⟨d,hd,had⟩:=aH.ex;refine aE.ok (λw' hx=>iZ hd had (v:=i64 (i.part s.part)) (by have:=(hb6.ext hx) _ _ (VF i s.part);rwa [Nat.zero_add] at this)) ?_;refine aE.ok (λw' _=>UT (by omega)) ?_;obtain ⟨t1,t2⟩:=RG st q1 q2;rw [aC (by omega) (by omega)];have D2:aF w6.drew w6.drew.drew:=(aF.refl _).drew;have h82:=(h8.ext D).ext D2;obtain ⟨nb,hnb⟩:=kG b0;obtain ⟨ns,hns⟩:=kG s0;have hpw:(2:Nat) ^ nb<=65536:=Nat.pow_le_pow_right (n:=2) (by decide) (show nb<=16 by omega);have hpp:0 < (2:Nat) ^ nb:=Nat.pow_pos (by decide);obtain ⟨x,lx,mx,nx⟩:=uO (a:=(i.part s.part).tdiv s.step) (m:=2 ^ nb) hpp
  have hput:RS hn s (i.part s.part)=hn ||| x <<< ns:=by
   unfold RS;rw [hnb,hns,Int.toNat_natCast,Int.toNat_natCast,nx]
  have hmul:x*2 ^ ns < 65536:=by
   calc x*2 ^ ns < 2 ^ nb*2 ^ ns:=Nat.mul_lt_mul_of_pos_right lx (Nat.pow_pos (by decide))
    _=2 ^ (nb+ns):=(Nat.pow_add 2 _ _).symm
    _<=2 ^ 16:=Nat.pow_le_pow_right (by decide) (by omega)
  have hxs:x <<< ns < 65536:=by rw [Nat.shiftLeft_eq];exact hmul
  refine aM.mk' (λw'=>aF w6.drew.drew w') (aF.refl _) ?_;refine jM (λw' hx=>h82.ext hx) iK aH rfl ?_
  refine aE.ok (v:=i64 ((1 <<< nb:Nat):Int)) (λw' _=>by
   rw [hnb];exact (KJ (by omega)).trans (congrArg (λz=>Result.ok (Value.int .i64 z) w') (aYc (a:=1) (s:=nb) (by omega) (by omega)))) ?_
  refine aE.ok (v:=i64 ((2 ^ nb - 1:Nat):Int)) (λw' _=>eU.trans (by rw [show (((1 <<< nb:Nat):Int) - 1)=((2 ^ nb - 1:Nat):Int) from by rw [Nat.one_shiftLeft];omega,aC (by omega) (by omega)])) ?_;refine aE.ok (v:=i64 (x:Int)) (λw' _=>CN.trans (congrArg (λz=>Result.ok (Value.int .i64 z) w') ((aFy (n:=(i.part s.part).tdiv s.step) (b:=nb) (by omega)).trans mx))) ?_;refine aE.ok (v:=u16 (x:Int)) (λw' _=>(lL underlying3 underlying151).trans (congrArg (λz=>Result.ok (Value.int .u16 z) w') (uW (by omega) (by omega)))) ?_;refine jM (λw' hx=>h82.ext hx) iL aH rfl ?_
  refine aE.ok (v:=u16 ((x <<< ns:Nat):Int)) (λw' _=>by
   rw [hns];refine (KJ (by omega)).trans (congrArg (λz=>Result.ok (Value.int .u16 z) w') ?_);rw [Int.toNat_natCast];exact bHd hmul (by omega)) ?_
  refine aE.ok (v:=u16 ((RS hn s (i.part s.part):Nat):Int)) (λw' _=>bHk.trans (congrArg (λz=>Result.ok (Value.int .u16 z) w') ((bJp hlt hxs).trans (by rw [hput])))) ?_;refine aU.2 ?_;rw [aC (by omega) (by omega),aR];refine ⟨⟨j+1,_,rfl,rfl,by omega,aOh so hlt,?_,(x5.trans x6).trans (D.trans D2)⟩,by simp only [aL];omega⟩;rw [TB _ _ _ hs,<- hfold]
 ·have ee:sl.take j=sl:=List.take_of_length_le (by omega);rw [ee] at hfold;have hen:AO ((bn:Int),sl) i=hn:=by unfold AO;rw [Int.toNat_natCast];exact hfold.symm
  rw [hen] at hk;refine jS aDe [u16 (hn:Int)] rfl rfl (by simp) rfl λv w6 ho6 x6=>?_;have x06:=(x04.trans x5);exact hk v w6 (aX ho6 x06.size) (x06.trans x6)
def aXw:List Value:=aZj++[aZ,i64 0]
theorem bCm:BG prog 232 aXw [(0,11),(11,1),(12,1)]:=⟨_,_,_,underlying232,vU,λw=>by kernel_rfl⟩
theorem aHh (x:cF):Instr.fill (([(0,11),(11,1),(12,1)]:List (Nat × Nat)).toArray[·]?) aXw.toArray [(0,.agg x.cells.toArray)]=some (x.cells++[aZ,i64 0]).toArray:=by cases x<;>kernel_rfl
theorem wI.fr {B B' t s n:Nat} {u v:Value} {xs:List Value} {l:List lR} {w':World} (h:wI w B u l) (hv:w.ownsRow B' t s v n xs) (h1:t≠232) (h2:t≠83) (f:Fr (λk=>v.ownBlock=some k) w w'):wI w' B u l:=by
 have off:∀ {e':Nat} {B2 s2 n2:Nat} {v2:Value} {xs2:List Value},w.ownsRow B2 e' s2 v2 n2 xs2->e'≠t->∀ k,v2.ownBlock=some k->¬ v.ownBlock=some k:=λh3 hne k hk hk'=>by
  rcases yZ h3 hv hne with h4|h4
  ·rw [h4] at hk;cases hk
  ·exact h4 (by rw [hk,hk'])
 exact ⟨f.own h.row (off h.row (Ne.symm h1)),λe he=>f.own (h.code e he) (off (h.code e he) (Ne.symm h2)),h.fix,h.few⟩
theorem wI.push {B:Nat} {u cv:Value} {l:List lR} {x:cF} {es:Array Value} (h:wI w B u l) (hB:B<=w.heap.size) (he:es=(x.cells++[cv,i64 0]).toArray) (hc:gC w B cv x.fix) (hl:l.length<=6000) (hf:x.fix.length<=100)
  (hk:∀ u' w',wI w' B u' (l++[⟨x,0,x.fix,cv⟩])->(∀ w0,aF w0 w->w0.heap.size<=B->aF w0 w')->K u' w') :
  V prog (Instr.buildSlice 229 1 #[(0,.agg es)]) w λt w1=>V prog (Builtin.append_ #[229,229] 229 #[u,t]) w1 K:=by
 subst he;have hcl:(x.cells++[cv,i64 0]).length=13:=by simp [x.len]
 have h1:(x.cells++[cv,i64 0]).all cO=true:=by
  rw [List.all_append,sU,Bool.true_and];show (cO cv&&(cO (i64 0)&&true))=true;rw [nX hc];rfl
 refine zI underlying229 vU rfl (by decide) [.agg (x.cells++[cv,i64 0]).toArray] rfl rfl (by intro v hv;rw [List.mem_singleton] at hv;subst hv;simpa [Value.cells] using hcl) (by decide) (by decide) λt w1 ho1 x1=>?_;have ho1:w1.ownsRow w.heap.size 232 13 t 1 (x.cells++[cv,i64 0]):=by simpa [Value.cells] using ho1
 have s1:=x1.size;refine apG underlying229 vU rfl (by decide) (h.ext x1).row (aA.of_own ho1) h1 (by omega) (by unfold maxLen;omega) (by omega) λu' w2 ho2 hg2 _=>?_;have f2:Fr (λk=>u.ownBlock=some k) w1 w2:=Fr.of_grown hg2 λk hk=>hk
 have kp:∀ {v:Value} {c:List gZ},gC w B v c->gC w2 B v c:=λ{v c} ht=>f2.own (x1.own ht) λk hk hk'=>by
  rcases yZ ht h.row (by decide) with h4|h4
  ·rw [h4] at hk;cases hk
  ·exact h4 (by rw [hk,hk'])
 refine hk u' w2 ⟨?_,λe he=>?_,λe he hj=>?_,λe he=>?_⟩ λw0 hx hs=>f2.ext (hx.trans x1) λi hi=>by have:=(h.row.lt i hi).1;omega
 ·rw [List.length_append];have e1:TD l++(x.cells++[cv,i64 0])=TD (l++[⟨x,0,x.fix,cv⟩]):=by simp [TD,lR.cells]
  rw [e1] at ho2;exact ho2
 ·rcases List.mem_append.1 he with he|he
  ·exact kp (h.code e he)
  ·rw [List.mem_singleton] at he;subst he;exact kp hc
 ·rcases List.mem_append.1 he with he|he
  ·exact h.fix e he hj
  ·rw [List.mem_singleton] at he;subst he;rfl
 ·rcases List.mem_append.1 he with he|he
  ·exact h.few e he
  ·rw [List.mem_singleton] at he;subst he;exact hf
theorem JA (x:cF):x.fix.length<=100:=by
 cases x with
 | load r n=>
  have hb:∀ u k,(qA r u k).length<=2*k:=λu k=>by
   induction k with
   | zero=>exact Nat.le_refl _
   | succ k ih=>unfold qA;split<;>simp<;>omega
  have:=hb (n % 4294967296) (sC (n % 4294967296));have h2:=LV (n % 4294967296);show (rX r n).length<=100;simp [rX];omega
 | _=>simp [cF.fix]
theorem EZ {i:gZ} (h:cN i=true):ET i:=by
 refine ⟨λe=>?_,λe=>?_⟩
 ·obtain ⟨a,b,_,_,rfl⟩:=yV h e;exact ⟨rfl,rfl,rfl⟩
 ·unfold cN at h;rw [if_neg (by omega),if_pos e] at h;simp only [Bool.and_eq_true,decide_eq_true_eq] at h;exact h.1.1.1
theorem WA (i:gZ):(EX i).length<=2:=by
 unfold EX;split
 ·simp
 ·split
  ·simp [blN]
  ·split<;>simp
theorem VZ (a b:List gZ):yP (a++b)=yP a++yP b:=by simp [yP]
theorem SV:∀ l:List gZ,(yP l).length<=2*l.length
 | []=>by simp [yP]
 | i::l=>by
  have:=SV l;have:=WA i;have e:yP (i::l)=EX i++yP l:=rfl;rw [e,List.length_append,List.length_cons];omega
def muF (u:Value) (n:Nat) (w:World):Nat:=match u with
 | .slice (some a) _ _=>((List.range n).map λk=>3 - (RowKit.intOf ((w.cell? ⟨a.block,k*13+12,none⟩).getD undef)).toNat).sum
 | _=>0
theorem aFq {B:Nat} {u:Value} {l:List lR} (h:wI w B u l):muF u l.length w=LD (kZ l):=by
 by_cases h0:l.length=0
 ·obtain rfl:=List.length_eq_zero_iff.1 h0;unfold muF LD kZ;split<;>rfl
 ·obtain ⟨g,cap,rfl⟩:∃ g cap,u=.slice (some ⟨g,0,none⟩) l.length cap:=by
   rcases h.row.2 with ⟨_,e0⟩|⟨g',c',_,rfl,_⟩
   ·omega
   ·exact ⟨g',c',rfl⟩
  unfold muF LD kZ;dsimp only
  congr 1
  rw [List.map_map];apply List.ext_getElem?;intro k;rw [List.getElem?_map,List.getElem?_map];by_cases hk:k < l.length
  ·obtain ⟨e,he⟩:=bC hk;have hc:e.cells[12]?=some (i64 (e.f:Int)):=by unfold lR.cells;rw [List.getElem?_append_right (by rw [e.x.len];decide),e.x.len];rfl
   rw [List.getElem?_range hk,he];simp only [Option.map_some,Function.comp_apply,h.at_ he hc,Option.getD_some];rfl
  ·rw [List.getElem?_eq_none (by simp;omega),List.getElem?_eq_none (by omega)];rfl
theorem aGw {l:List cF} {f:List Nat} (h:∀ k,k < f.length->iT l f k=true):rF l f=f:=by
 apply List.ext_getElem
 ·rw [mT]
 ·intro k h1 h2;have:=oT l f h2;rw [h k h2,if_pos rfl,List.getD_eq_getElem?_getD,List.getElem?_eq_getElem h1,List.getD_eq_getElem?_getD,List.getElem?_eq_getElem h2] at this;simpa using this
theorem GZ {l:List cF} {f:List Nat} {k:Nat} {x:cF} (hx:l[k]?=some x):oK l f (k+1)=oK l f k++x.codeK (f.getD k 0) (sH l f k) (CY l f):=by rw [oK,hx]
theorem aHy {l:List cF} {f:List Nat} {k n:Nat} (hkn:k<=n) {i:gZ} (h:i∈oK l f k):i∈oK l f n:=by
 induction n with
 | zero => obtain rfl : k = 0 := by omega
           exact h
 | succ n ih=>
  by_cases hk:k=n+1
  ·subst hk;exact h
  ·rw [oK];exact List.mem_append_left _ (ih (by omega))
theorem aCl {l:List cF} {f:List Nat} {k:Nat} {x:cF} (hx:l[k]?=some x) {i:gZ} (h:i∈x.codeK (f.getD k 0) (sH l f k) (CY l f)):i∈oK l f l.length:=by
 have hk:=(List.getElem?_eq_some_iff.1 hx).1;exact aHy (k:=k+1) hk (by rw [GZ hx];exact List.mem_append_right _ h)
theorem aNs {l:List cF} {es:List lR} {j:Nat} {x:cF} {cv:Value} (h:kR es=l.take j) (hx:l[j]?=some x):kR (es++[⟨x,0,x.fix,cv⟩])=l.take (j+1):=by
 rw [List.take_add_one,hx,<- h];simp [kR]
theorem bJt {l:List cF} {f:List Nat} (hl:f.length=l.length) (h:∀ g∈f,g=0):zO l f:=by
 have hz:∀ k,f.getD k 0=0:=λk=>by
  rw [List.getD_eq_getElem?_getD];cases hk:f[k]? with
  | none=>rfl
  | some g=>exact h g (List.mem_of_getElem? hk)
 exact ⟨hl,λk c q _=>by rw [hz];exact Nat.zero_le _,λk _=>hz k⟩
theorem bJy {l m:List Nat} {v u:Value} {B B':Nat} (h:rJ w B v l) (hu:rJ w B' u m) (hl:l.length+m.length<=100000000) (hB:B<=w.heap.size) (hk:∀ v' w',rJ w' B v' (l++m)->Fr (λk=>v.ownBlock=some k) w w'->K v' w'):V prog (Builtin.append_ #[59,59] 59 #[v,u]) w K:=by
 refine apG underlying59 IP rfl (by decide) h (aA.of_own hu) (by simp [hwC,cO]) (by omega) (by unfold maxLen;omega) hB λv' w' ho hg _=>hk v' w' ?_ (Fr.of_grown hg λk hk=>hk);unfold rJ;rw [List.length_append];simpa [hwC] using ho
theorem rJ.ext' {w':World} {B:Nat} {v:Value} {l:List Nat} (h:rJ w B v l) (hx:aF w w'):rJ w' B v l:=hx.own h
theorem MN (l:List cF) (f:List Nat):∀ k,(oK l f k).length<=100*k
 | 0=>Nat.le_refl _
 | k+1=>by
  have ih:=MN l f k;rw [oK];cases hx:l[k]? with
  | none=>simp;omega
  | some x=>
   have:(x.codeK (f.getD k 0) (sH l f k) (CY l f)).length<=100:=by
    cases x with
    | jump c q=>exact Nat.le_trans uR (by decide)
    | one i=>exact JA (.one i)
    | place q=>exact Nat.zero_le _
    | load r n=>exact JA (.load r n)
   rw [List.length_append];dsimp only;omega
theorem TP {v:Value} {l:List cF} (hv:tE w v l) (ho:tL l) (htop:nS l<=16384)
  (hk:∀ hv lv f w',zO l f->(∀ k,k < l.length->iT l f k=true)->rJ w' w.heap.size hv (yP (oK l f l.length))->aF w w'->K (.tuple #[hv,lv,i64 0]) w'):aB prog 59 #[v] w K:=by
 apply bEv;unfold YW;have hl:=ho.len;refine aZy hv ho λw1 x1=>dK.2 (aP.2 ?_);refine gD wK (hv.ext x1) ?_;refine ⟨λu k w'=>∃ (j:Nat) (es:List lR),k=i64 j/\j<=l.length/\es.length=j/\wI w' w.heap.size u es/\kR es=l.take j/\(∀ e∈es,e.f=0)/\aF w w',λ_ k _=>l.length - (RowKit.intOf k).toNat,⟨0,[],rfl,Nat.zero_le _,rfl,⟨World.ownsRow_nil _ _ _ _,λe he=>(by cases he),λe he=>(by cases he),λe he=>(by cases he)⟩,rfl,λe he=>(by cases he),x1⟩,?_⟩;rintro u _ w4 ⟨j,es,rfl,hj,hel,hL,hxs,hf0,x4⟩ _;refine aY.2 (aD (λhlt=>?_) λhge=>?_)
 ·obtain ⟨x,hx⟩:=bC (l:=l) (j:=j) (by omega);refine uU wK rP (hv.ext x4) (by omega) (by omega) (IM hx) x.len ?_;refine sI RK (by simpa [Value.cells] using x.len) (by simpa [Value.cells] using sU x) λw9 h7 x9=>?_;have h7:bO w9 w4.heap.size x.cells 180:=h7;refine iO h7.boxed rP x.len ?_;refine JE bCm (aHh x) ?_;have hc13:(x.cells++[aZ,i64 0]).length=13:=by simp [x.len]
  refine sI BZ (by simpa [Value.cells] using hc13) (by simp only [Value.cells];rw [List.all_append,sU];rfl) λw13 h8 x13=>?_;have h8:bO w13 w9.heap.size (x.cells++[aZ,i64 0]) 232:=h8;have x413:=x9.trans x13;have s9:=x9.size;have s13:=x13.size;have s4:=x4.size;have h7':=h7.ext x13;have hset:∀ cv,(x.cells++[aZ,i64 0]).set 11 cv=x.cells++[cv,i64 0]:=λcv=>by cases x<;>rfl
  refine ⟨λw'=>∃ cv,bO w' w9.heap.size (x.cells++[cv,i64 0]) 232/\gC w' w.heap.size cv x.fix/\aF w4 w',?_,?_⟩
  ·have sto:∀ {cv:Value} {w':World},gC w' w13.heap.size cv x.fix->aF w13 w'->V prog (Instr.fieldAt 232 (.pointer (some ⟨w9.heap.size,0,none⟩)) 1) w' λq w2=>U prog (Instr.storeAt 230 q cv) w2 λ_ w3=>∃ cv,bO w3 w9.heap.size (x.cells++[cv,i64 0]) 232/\gC w3 w.heap.size cv x.fix/\aF w4 w3:=λ{cv w'} ht hx'=>by
    have hb:=h8.ext hx';refine FK fO SM hb (n:=13) hc13 (by decide) (nX ht) ?_;have hbs:=hb.set 11 cv;rw [hset cv] at hbs;have f:Fr (λk=>k=w9.heap.size) w' (w'.setCell ⟨w9.heap.size,11,none⟩ cv):=Fr.of_set rfl;have hb13:=h8.lt;exact ⟨cv,hbs,aX (f.own ht λk hk hS=>by have:=(ht.lt k hk).1;omega) (by omega),f.ext (x413.trans hx') λi hi=>by omega⟩
   cases x with
   | one i=>
    have h7':bO w13 w4.heap.size [i64 1,i64 i.op,i64 i.d,i64 i.n,i64 i.m,i64 i.imm,i64 i.cond,i64 0,i64 0,i64 0,i32 0] 180:=h7';refine bF h7'.boxed bA aH rfl (aK.2 (aD (λ_=>?_) λh=>absurd rfl h));refine DT eJ (aGe h7'.boxed qB rfl (l:=i.cells) rfl ?_);exact SC (i:=i) rfl λcv w' hcv hx'=>sto hcv hx'
   | load r n=>
    have h7':bO w13 w4.heap.size [i64 4,i64 0,i64 0,i64 0,i64 0,i64 0,i64 0,i64 0,i64 0,i64 r,i32 n] 180:=h7';refine bF h7'.boxed bA aH rfl (aK.2 (aD (λh=>absurd h (by decide)) λ_=>aK.2 (aD (λ_=>?_) λh=>absurd rfl h)));refine bF h7'.boxed eI aH rfl (bF h7'.boxed fI kI rfl ?_);exact aPc λcv w' hcv hx'=>sto hcv hx'
   | place q=>
    have h7':bO w13 w4.heap.size [i64 2,i64 0,i64 0,i64 0,i64 0,i64 0,i64 0,i64 q,i64 0,i64 0,i32 0] 180:=h7';refine bF h7'.boxed bA aH rfl (aK.2 (aD (λh=>absurd h (by decide)) λ_=>aK.2 (aD (λh=>absurd h (by decide)) λ_=>?_)));exact ⟨aZ,h8,World.ownsRow_nil _ _ _ _,x413⟩
   | jump c q=>
    have h7':bO w13 w4.heap.size [i64 3,i64 0,i64 0,i64 0,i64 0,i64 0,i64 0,i64 q,i64 c,i64 0,i32 0] 180:=h7';refine bF h7'.boxed bA aH rfl (aK.2 (aD (λh=>absurd h (by decide)) λ_=>aK.2 (aD (λh=>absurd h (by decide)) λ_=>?_)));exact ⟨aZ,h8,World.ownsRow_nil _ _ _ _,x413⟩
  ·rintro w30 ⟨cv,hb30,hc30,x30⟩ _;refine iO hb30.boxed zE (by simp [x.len]) ?_;have s30:=x30.size;refine (hL.ext x30).push (by omega) rfl hc30 (by omega) (JA x) λu' w33 hL' e33=>aU.2 ?_;rw [aC (by omega) (by omega),aR];refine ⟨⟨j+1,_,rfl,by omega,by simp [hel],hL',aNs hxs hx,λe he=>?_,e33 w (x4.trans x30) (Nat.le_refl _)⟩,by simp only [aL];omega⟩;rcases List.mem_append.1 he with he|he
   ·exact hf0 e he
   ·rw [List.mem_singleton] at he;subst he;rfl
 obtain rfl:j=l.length:=by omega
 have hxl:kR es=l:=by rw [hxs];exact List.take_of_length_le (Nat.le_refl _)
 have hfl:(kZ es).length=l.length:=by simp [kZ,hel]
 have hF0:zO l (kZ es):=bJt hfl λg hg=>by obtain ⟨e,he,rfl⟩:=List.mem_map.1 hg;exact hf0 e he
 clear hge hxs;refine ⟨λw'=>∃ es,es.length=l.length/\wI w' w.heap.size u es/\kR es=l/\zO l (kZ es)/\aF w w',λw'=>muF u l.length w',⟨es,hel,hL,hxl,hF0,x4⟩,?_⟩;clear hF0 hxl hfl hf0 hL hel es;rintro w35 ⟨es,hel,hL,hxl,hF,x35⟩ _;have s35:=x35.size;refine bBx hL (by rw [hxl];exact ho) (by rw [hxl];exact hF) s35 λb es' w36 hL' hfit hb e36=>?_;have x36:=e36 w x35 (Nat.le_refl _);have hel':es'.length=l.length:=by rw [hfit.len,hel]
 have hxl':kR es'=l:=by rw [hfit.xs,hxl]
 have hfs':=hfit.fs;rw [hxl] at hfs' hb;have hfl:(kZ es).length=l.length:=by simp [kZ,hel]
 cases b with
 | true=>
  refine bK.2 ⟨⟨es',hel',hL',hxl',by rw [hfs'];exact hF.grow ho,x36⟩,?_⟩;have e1:=aFq hL';have e2:=aFq hL;rw [hel'] at e1;rw [hel] at e2;show muF u l.length w36 < muF u l.length w35;rw [e1,e2,hfs'];obtain ⟨k,hk1,hk2⟩:=hb.1 rfl;exact aGb ho hF ⟨k,by omega,hk2⟩
 | false=>
  refine aP.2 ?_
  have hreach:∀ k,k < l.length->iT l (kZ es) k=true:=λk hk=>by
   cases hr:iT l (kZ es) k with
   | true=>rfl
   | false=>exact absurd (hb.2 ⟨k,by omega,hr⟩) (by decide)
  rw [aGw λk hk=>hreach k (by omega)] at hfs';have hF':zO l (kZ es'):=by rw [hfs'];exact hF
  have hreach':∀ k,k < l.length->iT l (kZ es') k=true:=by rw [hfs'];exact hreach
  have hcode:∀ (k:Nat) e',es'[k]?=some e'->e'.c=e'.x.codeK ((kZ es').getD k 0) (sH l (kZ es') k) (CY l (kZ es')):=λk e' he'=>by
   have hk:k < es.length:=by have:=(List.getElem?_eq_some_iff.1 he').1;omega
   obtain ⟨e,he⟩:=bC hk;obtain ⟨e2,q1,q2,q3,_⟩:=hfit.at_ k e he;rw [he'] at q1;cases q1;rw [(q3 hk).2,hxl,hfs',q2,(zP he).2]
  clear hb hfs' hreach hF hfit hL hxl hfl hel e36 s35 x35;have s36:=x36.size;refine FJ hL' (by rw [hxl'];exact hF') (by omega) λatv w37 hat x37=>?_;refine gD rK (aA.of_own (hL'.ext x37).row) ?_;refine lV aQ aH (aA.of_own hat) (by omega) (by omega) (cG (vJ (by omega))) (iR.2 ?_);have htk:=zO.at_top ho hF' l.length;rw [decide_eq_false (by rw [hxl',hel'];omega)];refine aP.2 ?_;refine gD rK (aA.of_own (hL'.ext x37).row) ?_;have goodA:=GY ho hreach'
  have kint:∀ {t:Value} {n:Nat} {xs:List Value} {wa wb:World},wa.ownsRow w36.heap.size 3 1 atv (es'.length+1) ((kT es' (es'.length+1)).map i64)->wa.ownsRow w.heap.size 151 1 t n xs->Fr (λk=>t.ownBlock=some k) wa wb->wb.ownsRow w36.heap.size 3 1 atv (es'.length+1) ((kT es' (es'.length+1)).map i64):=λh1 h2 f=>f.own h1 λk hk hk'=>by
   rcases yZ h1 h2 (by decide) with h4|h4
   ·rw [h4] at hk;cases hk
   ·exact h4 (by rw [hk,hk'])
  refine ⟨λt k w'=>∃ j:Nat,k=i64 j/\j<=es'.length/\rJ w' w.heap.size t (yP (oK l (kZ es') j))/\wI w' w.heap.size u es'/\w'.ownsRow w36.heap.size 3 1 atv (es'.length+1) ((kT es' (es'.length+1)).map i64)/\aF w w',λ_ k _=>es'.length - (RowKit.intOf k).toNat,⟨0,rfl,Nat.zero_le _,World.ownsRow_nil _ _ _ _,hL'.ext x37,hat,x36.trans x37⟩,?_⟩;clear hat hL' htk x37 w37 x36 s36;rintro t _ w43 ⟨j,rfl,hj,ht,hL,hat,x43⟩ _;refine aY.2 (aD (λhlt=>?_) λhge=>?_)
  ·obtain ⟨e,he⟩:=bC (l:=es') (j:=j) (by omega);have hem:=List.mem_of_getElem? he;have hxe:=(zP he).1;rw [hxl'] at hxe;have hce:=hcode j e he;have hfew:=hL.few e hem;refine uU rK zE (aA.of_own hL.row) (by omega) (by omega) (BC he) e.len ?_;refine sI BZ (by simpa [Value.cells] using e.len) (by simpa [Value.cells] using hL.one hem) λw48 h12 x48=>?_;have h12:bG w48 w43.heap.size e.cells:=bO.boxed h12;have hv11:e.cells[11]?=some e.v:=by unfold lR.cells;rw [List.getElem?_append_right (by rw [e.x.len];decide),e.x.len];rfl
   refine bF h12 fO jB hv11 (gD vH (aA.of_own ((hL.code e hem).ext x48)) ?_);have s43:=x43.size;refine ⟨λt k w'=>∃ q:Nat,k=i64 q/\q<=e.c.length/\rJ w' w.heap.size t (yP (oK l (kZ es') j)++yP (e.c.take q))/\wI w' w.heap.size u es'/\w'.ownsRow w36.heap.size 3 1 atv (es'.length+1) ((kT es' (es'.length+1)).map i64)/\aF w w',λ_ k _=>e.c.length - (RowKit.intOf k).toNat,⟨0,rfl,Nat.zero_le _,by rw [List.take_zero,show yP []=[] from rfl,List.append_nil];exact ht.ext' x48,hL.ext x48,x48.own hat,x43.trans x48⟩,?_⟩;rintro t2 _ w52 ⟨q,rfl,hq,ht2,hL2,hat2,x52⟩ _;refine aY.2 (aD (λhql=>?_) λhqg=>?_)
   ·obtain ⟨i,hi⟩:=bC (l:=e.c) (j:=q) (by omega);have him:i∈oK l (kZ es') l.length:=aCl hxe (by rw [<- hce];exact List.mem_of_getElem? hi);obtain ⟨g1,g2⟩:=goodA i him;refine uU vH qB (aA.of_own (hL2.code e hem)) (by omega) (by omega) (AU hi) rfl ?_;refine sI aYe rfl rfl λw57 h14 x57=>?_;have h14:bG w57 w52.heap.size i.cells:=bO.boxed h14;refine iO h14 qB rfl ?_;refine aCc g1 g2 (EZ g1) λv5 w59 hv5 x59=>gS.2 (gR.2 ?_);have x79:=x57.trans x59;have s52:=x52.size;have s79:=x79.size;have b1:=SV (oK l (kZ es') j);have b2:=SV (e.c.take q);have b3:=MN l (kZ es') j;have b4:=WA i;have b5:(e.c.take q).length<=100:=by rw [List.length_take];omega
    refine bJy (ht2.ext' x79) hv5 (by rw [List.length_append];omega) (by omega) λv6 w6 hv6 f6=>aU.2 ?_;rw [aC (by omega) (by omega),aR];refine ⟨⟨q+1,rfl,by omega,?_,(hL2.ext x79).fr (x79.own ht2) (by decide) (by decide) f6,kint (x79.own hat2) (x79.own ht2) f6,f6.ext (x52.trans x79) λk hk=>(ht2.lt k hk).1⟩,by simp only [aL];omega⟩;rw [List.take_add_one,hi,show (some i).toList=[i] from rfl,VZ,<- List.append_assoc,show yP [i]=EX i from by simp [yP]];exact hv6
   ·obtain rfl:q=e.c.length:=by omega
    refine aU.2 ?_;rw [aC (by omega) (by omega),aR];refine ⟨⟨j+1,rfl,by omega,?_,hL2,hat2,x52⟩,by simp only [aL];omega⟩;rw [GZ hxe,VZ,<- hce];rw [List.take_of_length_le (Nat.le_refl _)] at ht2;exact ht2
  ·obtain rfl:j=es'.length:=by omega
   have hatI:aN w43 atv (kT es' (es'.length+1)):=by unfold aN;rw [pM];exact aA.of_own hat
   refine GH hL (by omega) (by rw [hxl'];exact ho.ok) hatI λgL n w5 _ _ _ _ x5=>?_;rw [hel'] at ht;exact hk t _ (kZ es') w5 hF' hreach' (x5.own ht) (x43.trans x5)
end Go.Proofs.YtjcmcfidblhnnaaGreatDoor
namespace Go.Proofs.YtjcmcfidblhnnaaGreatDoor
open Tryz
open Go.Vc Go.Tc
variable {w:World} {K:Value->World->Prop}
def tB (l:List jH):Nat:=(l.map λm=>512+96*m.code.length).sum
theorem zJ {l:List jH} {j:Nat} {m:jH} (h:l[j]?=some m):tB (l.take (j+1))=tB (l.take j)+(512+96*m.code.length):=by
 unfold tB;rw [List.take_add_one,h];simp
theorem xZ {l:List jH} {c:Nat} (h:∀ m∈l,m.code.length<=c):∀ j,tB (l.take j)<=(512+96*c)*j
 | 0=>by simp [tB]
 | j+1=>by
  have ih:=xZ h j;rw [Nat.mul_succ];cases hm:l[j]? with
  | none=>
   rw [List.take_add_one,hm];simp only [Option.toList_none,List.append_nil];omega
  | some m=>
   have:=h m (List.mem_of_getElem? hm);rw [zJ hm];omega
theorem rV {i:gN} (ht:kY i):∀ m∈i.methods,m.code.length<=120:=λm hm=>(ht.1.2.2.1.2.1 m hm).2.2.2.1.2
theorem WQ {p:iP} {i:gN} (h:kK w p i) (ht:kY i) (hk:∀ w',aF w w'->K (i64 (tB i.methods:Nat)) w'):aB prog 22 #[p.val i] w K:=by
 apply bFy;unfold ZW iP.val;have hm8:=ht.1.2.2.1.1.2;refine bx λb1 w1 hb1 x1=>?_;refine bF hb1 bP dM rfl (yO iQ (h.mt.ext x1) ?_);refine ⟨λn k w'=>∃ j:Nat,k=i64 j/\j<=i.methods.length/\n=i64 (tB (i.methods.take j):Nat)/\aF w1 w',λ_ k _=>i.methods.length - (RowKit.intOf k).toNat,⟨0,rfl,Nat.zero_le _,rfl,aF.refl _⟩,?_⟩;rintro _ _ w2 ⟨j,rfl,hj,rfl,x2⟩ _;refine aY.2 (aD (λhlt=>?_) λhge=>?_)
 ·obtain ⟨m,hm⟩:=bC (l:=i.methods) (j:=j) (by omega);have hc:=(rV ht) m (List.mem_of_getElem? hm);have hb:=xZ (rV ht) j;refine ldS iQ oB ((h.mt.ext x1).ext x2) hm (λ_ row e hT=>by obtain ⟨_,_,_,rfl,_⟩:=hT;rfl) λrow hrow=>?_;obtain ⟨pv,lv,cv,rfl,hp,hl,hcv⟩:=hrow;refine wJ FN rfl (by obtain ⟨a,c,rfl⟩:=aA.shape hp;obtain ⟨a,c,rfl⟩:=aA.shape hl;obtain ⟨a,c,rfl⟩:=aA.shape hcv;rfl) λb3 w3 hb3 x3=>?_;have hb3:bG w3 b3 [pv,i64 m.result,lv,cv]:=hb3;refine bF hb3 dG iY rfl (gD kS (aA.ext hcv x3) ?_);refine oO.2 (aU.2 (aU.2 (aU.2 ?_)));rw [show IntKind.i64.wrap (96*(m.code.length:Int))=96*m.code.length from aC (by omega) (by omega),show IntKind.i64.wrap (512+96*(m.code.length:Int))=512+96*m.code.length from aC (by omega) (by omega),aC (by omega) (by omega),aC (by omega) (by omega),aR];exact ⟨⟨j+1,rfl,by omega,by rw [zJ hm];congr 1,x2.trans x3⟩,by simp only [aL];omega⟩
 ·have hjl:j=i.methods.length:=by omega
  rw [hjl,List.take_length];exact hk _ (x1.trans x2)
inductive AlR (p:eY) (R:Nat):Nat->List Int->Int->Prop
 | z:AlR p R 0 (List.replicate R 0) 0
 | s (i:Nat) (of:List Int) (slots:Int) (r:Nat) (at':Int):AlR p R i of slots->(eX [] (pV p R))[i]?=some (r:Int)->rT p of r at'->(at'=5\/(at'=6/\¬ rT p of r 5)\/(16<=at'/\¬ rT p of r 5/\¬ rT p of r 6))->(∀ x,16<=x->x < at'->¬ rT p of r x)->AlR p R (i+1) (of.set r at') (max slots (at' - 15))
theorem AlR.det {p:eY} {R i:Nat} {of:List Int} {s:Int} (h:AlR p R i of s):∀ {of' s'},AlR p R i of' s'->of'=of/\s'=s:=by
 induction h with
 | z=>intro of' s' h';cases h';exact ⟨rfl,rfl⟩
 | s i of s r a h hi hm ha hn ih=>
  intro of' s' h';cases h' with
  | s _ of2 s2 r2 a2 h2 hi2 hm2 ha2 hn2=>
   obtain ⟨rfl,rfl⟩:=ih h2;rw [hi] at hi2;have hr:=Option.some.inj hi2;obtain rfl:r=r2:=by omega
   have e:a2=a:=by
    rcases ha with rfl|⟨rfl,h5⟩|⟨h16,h5,h6⟩<;>rcases ha2 with rfl|⟨rfl,g5⟩|⟨g16,g5,g6⟩<;>first|rfl|contradiction|skip
    refine Classical.byContradiction λhne=>?_;rcases Int.lt_or_gt_of_ne hne with hlt|hgt
    ·exact hn a2 g16 hlt hm2
    ·exact hn2 a h16 hgt hm
   subst e;exact ⟨rfl,rfl⟩
theorem pC.al {n:aJ} {k r c:Int} (h:pC n k r c):n.args.length<=5:=by
 have hf:=h.f;cases n with
 | serve op a b d l=>
  have hf:qP op=l.length:=hf;unfold qP at hf;show l.length<=5;split at hf
  ·omega
  ·split at hf
   ·omega
   ·split at hf
    ·omega
    ·split at hf<;>omega
 | call m d l=>have:=hf.2;show l.length<=5;omega
 | callX m d l=>have:=hf.2;show l.length<=5;omega
 | _=>exact Nat.zero_le _
theorem TY.fr {B:Nat} {w':World} {v:Value} {l:List aJ} {S:Nat->Prop} (h:TY B w v l) (f:Fr S w w') (hS:∀ k,B<=k->k < w.heap.size->¬ S k):TY B w' v l:=by
 obtain ⟨xs,h1,h2⟩:=h;refine ⟨xs,f.own h1 λk hk=>hS k (h1.lt k hk).1 (h1.lt k hk).2,λk n hn=>?_⟩;obtain ⟨u,h3,h4⟩:=h2 k n hn;exact ⟨u,h3,h4.fr f hS⟩
def gV (i:gN) (k:Nat) (st:Tc.St) (r:List Bool):eY:=⟨(i.meth k).params.length,18,nE i (i.meth k) st r⟩
structure aAh (i:gN) (k:Nat) (ap:Int) (st:Tc.St) (r:List Bool) (of:List Int) (s:Int) (f:List Nat):Prop where
 wk:oZ i (i.meth k) (some st)
 rc:AJ i (i.meth k) st [] r
 gd:oP (gV i k st r) 18 of s
 al:AlR (gV i k st r) 18 (eX [] (pV (gV i k st r) 18)).length of s
 fo:zO (mK (gV i k st r) of ap) f
 re:∀ q,q < (mK (gV i k st r) of ap).length->iT (mK (gV i k st r) of ap) f q=true
def hwK (i:gN) (k:Nat) (ap:Int) (st:Tc.St) (r:List Bool) (of:List Int) (f:List Nat):List Nat:=yP (oK (mK (gV i k st r) of ap) f (mK (gV i k st r) of ap).length)
theorem aYh {T:Value->aJ->Prop} {P:eY} {g n:Nat} {ap:Int} {xs:List Value} {na:Option Addr} {nc:Nat} {J:NP 2} (hok:kJ P) (hR:P.regs=18) (ha:0<=ap/\ap < 4) (hn:P.nodes.length=n)
  (hb:bG w g [i64 P.params,i64 P.regs,.slice na n nc]) (hps:aA w (.slice na n nc) 1 n xs) (hvn:∀ (q:Nat) m,P.nodes[q]?=some m->∃ u,xs[q]?=some u/\iX w u m/\T u m)
  (hJ:∀ of s gB iv ta tc ys w',oP P 18 of s->AlR P 18 (eX [] (pV P 18)).length of s->bO w' gB [iv,.slice ta (hO P).length tc,i64 (4*s)] 68->aA w' iv 11 (mK P of ap).length (itC (mK P of ap))->w'.ownsRow w.heap.size 43 1 (.slice ta (hO P).length tc) (hO P).length ys->(∀ (q:Nat) m,(hO P)[q]?=some m->∃ u,ys[q]?=some u/\T u m)->aF w w'->J (.pointer (some ⟨gB,0,none⟩)) (i64 0) w') :
  aM w λS2 w10=>
 aE prog S2 (Instr.loadAt 33 (.pointer (some ⟨g,0,none⟩))) λt25=>
 aE prog S2 (Instr.loadAt 33 (.pointer (some ⟨g,0,none⟩))) λt26=>
 (aB prog 18 #[t26] w10 λt27 w11=>
 S2 w11 /\
 (aB prog 17 #[t25,t27,i64 ap] w11 λt29 w12=>
 S2 w12 /\
 aE prog S2 (Instr.extract t29 0) λt30=>
 aE prog S2 (Instr.extract t29 1) λt31=>
 V prog (Instr.alloc 68 true (.tuple #[])) w12 λt13 w13=>
 S2 w13 /\
 U prog (Instr.storeAt 68 t13 t30) w13 λ_ w14=>
 S2 w14 /\
 J t13 t31 w14) /\
 (V prog (Instr.alloc 68 true (.tuple #[])) w11 λt13 w15=>
 S2 w15 /\
 aB prog 17 #[t25,t27,i64 ap] w15 λt29 w16=>
 S2 w16 /\
 aE prog S2 (Instr.extract t29 0) λt30=>
 aE prog S2 (Instr.extract t29 1) λt31=>
 U prog (Instr.storeAt 68 t13 t30) w16 λ_ w17=>
 S2 w17 /\
 J t13 t31 w17)) /\
 (V prog (Instr.alloc 68 true (.tuple #[])) w10 λt13 w18=>
 S2 w18 /\
 aB prog 18 #[t26] w18 λt27 w19=>
 S2 w19 /\
 aB prog 17 #[t25,t27,i64 ap] w19 λt29 w20=>
 S2 w20 /\
 aE prog S2 (Instr.extract t29 0) λt30=>
 aE prog S2 (Instr.extract t29 1) λt31=>
 U prog (Instr.storeAt 68 t13 t30) w20 λ_ w21=>
 S2 w21 /\
 J t13 t31 w21):=by
 have D:aF w w.drew:=(aF.refl _).drew
 have hP:pD w (.agg #[i64 P.params,i64 P.regs,.slice na n nc]) P:=by
  refine ⟨_,rfl,⟨xs,by rw [hn];exact hps,λq m hq=>?_⟩,λm hm=>?_⟩
  ·obtain ⟨u,h1,h2,_⟩:=hvn q m hq;exact ⟨u,h1,h2⟩
  ·obtain ⟨a,ha⟩:=List.getElem?_of_mem hm;have:=(hok.nodes a m ha).al;omega
 have sz:=D.size
 have A:∀ {w':World} {K':Value->World->Prop},aF w.drew w'->(∀ ov of s w'',aN w'' ov of->oP P 18 of s->AlR P 18 (eX [] (pV P 18)).length of s->aF w' w''->K' (.agg #[ov,i64 s]) w'')->aB prog 18 #[.agg #[i64 P.params,i64 P.regs,.slice na n nc]] w' K':=by
  intro w' K' hx hk';refine (aIb (p:=P) (R:=18) ((hP.ext D).ext hx) hok hR (Q:=λa of s=>AlR P 18 a of s) AlR.z (λa of s q at' _ hq hi _ hm ha hn=>.s a of s q at' hq hi hm ha hn)).mono λv w'' ⟨⟨ov,of,s,hr,ho,hg,hq⟩,x⟩=>?_;subst hr;exact hk' ov of s w'' ho hg hq x
 have E:∀ {w':World} {K':Value->World->Prop} {ov:Value} {of:List Int} {s:Int},aF w.drew w'->aN w' ov of->oP P 18 of s->(∀ iv ta tc ys w'',w''.ownsRow w'.heap.size 180 11 iv (mK P of ap).length (itC (mK P of ap))->w''.ownsRow w'.heap.size 43 1 (.slice ta (hO P).length tc) (hO P).length ys->(∀ (q:Nat) m,(hO P)[q]?=some m->∃ u,ys[q]?=some u/\T u m)->cO iv=true->aF w' w''->K' (.tuple #[.agg #[iv,.slice ta (hO P).length tc,i64 (4*s)],i64 0]) w'')->aB prog 17 #[.agg #[i64 P.params,i64 P.regs,.slice na n nc],.agg #[ov,i64 s],i64 ap] w' K':=by
  intro w' K' ov of s hx ho hgd hk';refine bCa (T:=T) (vs0:=xs) ((hP.ext D).ext hx) (by rw [hn];exact (hps.ext D).ext hx) (λq m hq=>?_) hok (R:=18) hR ho hgd ha λiv tv ys w'' i1 i2 i3 x=>?_
  ·obtain ⟨u,h1,h2,h3⟩:=hvn q m hq;exact ⟨u,h1,(h2.ext D).ext hx,h3⟩
  ·obtain ⟨ta,tc,rfl⟩:=(aA.of_own i2).shape;refine hk' iv ta tc ys w'' i1 i2 (λq m hq=>?_) (nX i1) x;obtain ⟨u,h1,_,h3⟩:=i3 q m hq;exact ⟨u,h1,h3⟩
 have Lp:∀ w',aF w.drew w'->bG w' g _:=λw' hx=>(hb.ext D).ext hx;have one:∀ {iv:Value} {ta tc:_} {s:Int},cO iv=true->([iv,.slice ta (hO P).length tc,i64 (4*s)]:List Value).all cO=true:=λh=>by show (cO _&&_)=true;rw [h];rfl
 refine aM.mk' (λw'=>aF w.drew w') (aF.refl _) ?_;refine yA Lp qC rfl (yA Lp qC rfl ⟨A (aF.refl _) λov of s w5 ho hgd hal x5=>⟨x5,?_,?_⟩,?_⟩)
 ·refine E x5 ho hgd λiv ta tc ys w6 i1 i2 i3 i4 x6=>?_;have x56:=x5.trans x6;refine ⟨x56,aE.ok (λ_ _=>nB) (aE.ok (λ_ _=>nA) (AP uA λw7 h7 x7=>?_))⟩;have h7:bO w7 w6.heap.size [aZ,aZ,i64 0] 68:=h7;have x57:=x56.trans x7;refine ⟨x57,zS uA h7 (l:=[iv,.slice ta (hO P).length tc,i64 (4*s)]) rfl rfl rfl (one i4) λw8 h8 hc=>?_⟩;have x68:=hc.ext _ x7 (Nat.le_refl _);have x58:=x56.trans x68;exact ⟨x58,hJ of s _ iv ta tc ys w8 hgd hal h8 (aA.of_own (x68.own i1)) (aX (x68.own i2) (Nat.le_trans sz x5.size)) i3 (D.trans x58)⟩
 ·refine AP uA λw6 h6 x6=>⟨x5.trans x6,E (x5.trans x6) (ho.ext x6) hgd λiv ta tc ys w7 i1 i2 i3 i4 x7=>?_⟩;have h6:bO w6 w5.heap.size [aZ,aZ,i64 0] 68:=h6;have x57:=x6.trans x7;refine ⟨x5.trans x57,aE.ok (λ_ _=>nB) (aE.ok (λ_ _=>nA) ?_)⟩;refine zS uA (h6.ext x7) (l:=[iv,.slice ta (hO P).length tc,i64 (4*s)]) rfl rfl rfl (one i4) λw8 h8 hc=>?_;have x58:=x5.trans (hc.ext _ x57 (Nat.le_refl _));have hlt:=h6.lt;have f8:=rR hc;have ne:∀ q,w6.heap.size<=q->¬ q=w5.heap.size:=λq _ _=>by omega
  exact ⟨x58,hJ of s _ iv ta tc ys w8 hgd hal h8 (aA.of_own (f8.own i1 λq hq=>ne q (i1.lt q hq).1)) (aX (f8.own i2 λq hq=>ne q (i2.lt q hq).1) (Nat.le_trans sz (x5.trans x6).size)) i3 (D.trans x58)⟩
 ·refine AP uA λw5 h5 x5=>⟨x5,A x5 λov of s w6 ho hgd hal x6=>⟨x5.trans x6,E (x5.trans x6) ho hgd λiv ta tc ys w7 i1 i2 i3 i4 x7=>?_⟩⟩;have h5:bO w5 w.drew.heap.size [aZ,aZ,i64 0] 68:=h5;have x57:=x5.trans (x6.trans x7);refine ⟨x57,aE.ok (λ_ _=>nB) (aE.ok (λ_ _=>nA) ?_)⟩;refine zS uA (h5.ext (x6.trans x7)) (l:=[iv,.slice ta (hO P).length tc,i64 (4*s)]) rfl rfl rfl (one i4) λw8 h8 hc=>?_;have x58:=hc.ext _ x57 (Nat.le_refl _);have hlt:=h5.lt;have s6:=x6.size;have f8:=rR hc;have ne:∀ q,w6.heap.size<=q->¬ q=w.drew.heap.size:=λq _ _=>by omega
  exact ⟨x58,hJ of s _ iv ta tc ys w8 hgd hal h8 (aA.of_own (f8.own i1 λq hq=>ne q (i1.lt q hq).1)) (aX (f8.own i2 λq hq=>ne q (i2.lt q hq).1) (Nat.le_trans sz (x5.trans x6).size)) i3 (D.trans x58)⟩
theorem aFv {p:iP} {i:gN} {k:Nat} {ap at':Int} (h:kK w p i) (hn:kM w i) (hrg:i.rg) (ht:kY i) (hkl:k < i.methods.length) (ha:0<=ap/\ap < 4)
  (hK:∀ st r of s f hv tv w',aAh i k ap st r of s f->rJ w' w.heap.size hv (hwK i k ap st r of f)->TY w.heap.size w' tv (hO (gV i k st r))->aF w w'->K (.tuple #[.agg #[i64 at',i64 (4*s),hv,tv],i64 0]) w') :
  aB prog 29 #[p.val i,i64 k,i64 ap,i64 at'] w K:=by
 apply bFs;unfold ZR iP.val;have m8:=ht.1.2.2.1.1.2;refine bx λb1 w1 hb1 x1=>?_;have hb1:bG w1 b1 [.string i.name,p.fv,p.iv,p.mv,p.xv]:=hb1;refine AP xM λw2 hB x2=>?_;have hB:bO w2 w1.heap.size [i64 0,i64 0,aZ,aZ] 61:=hB;have x02:=x1.trans x2;have hg:=x1.size;have hg2:=hB.lt;refine iO (hb1.ext x2) lF rfl ?_;generalize w1.heap.size=g at hB hg hg2;refine VR (p:=p) (i:=i) (k:=k) (h.ext x02) (hn.ext x02) hrg (λst r nv sv w3 _ _ _ hw Rc hN hS x3=>?_) λw3 hne x3=>absurd ⟨ht,by omega,by omega⟩ hne;have hok:kJ (gV i k st r):=rD ht hkl hw Rc;obtain ⟨xs,ho3,hx3⟩:=hN;obtain ⟨na,nc,rfl⟩:=(aA.of_own ho3).shape
 have hvn:∀ (q:Nat) n,(gV i k st r).nodes[q]?=some n->∃ u,xs[q]?=some u/\iX w3 u n/\jT w2.heap.size w3 u n:=λq n hq=>by
  obtain ⟨u,h1,h2⟩:=hx3 q n hq;exact ⟨u,h1,h2.is,h2⟩
 refine yG.2 (yF.2 (yE.2 ?_));refine sI aDy rfl rfl λw4 hp4 x4=>?_;have hp4:bO w4 w3.heap.size [i64 (gV i k st r).params,i64 (gV i k st r).regs,.slice na (nE i (i.meth k) st r).length nc] 33:=hp4
 refine ⟨λbp ev w'=>∃ of s gB iv ta tc ys,bp=.pointer (some ⟨gB,0,none⟩)/\ev=i64 0/\oP (gV i k st r) 18 of s/\AlR (gV i k st r) 18 (eX [] (pV (gV i k st r) 18)).length of s/\bO w' gB [iv,.slice ta (hO (gV i k st r)).length tc,i64 (4*s)] 68 /\
  aA w' iv 11 (mK (gV i k st r) of ap).length (itC (mK (gV i k st r) of ap))/\w'.ownsRow w4.heap.size 43 1 (.slice ta (hO (gV i k st r)).length tc) (hO (gV i k st r)).length ys/\(∀ (q:Nat) n,(hO (gV i k st r))[q]?=some n->∃ u,ys[q]?=some u/\jT w2.heap.size w3 u n)/\aF w4 w',
  aYh (T:=λu n=>jT w2.heap.size w3 u n) hok rfl ha rfl hp4.boxed (aA.ext (aA.of_own ho3) x4) (λq n hq=>?_) λof s gB iv ta tc ys w' a b c d e f x=>⟨of,s,gB,iv,ta,tc,ys,rfl,rfl,a,b,c,d,e,f,x⟩,?_⟩
 ·obtain ⟨u,h1,h2,h3⟩:=hvn q n hq;exact ⟨u,h1,h2.ext x4,h3⟩
 rintro _ _ w5 ⟨of,s,gB,iv,ta,tc,ys,rfl,rfl,hgd,hal,hb5,hi5,ht5,hy5,x5⟩ _;refine dB.2 (aD (λh=>absurd rfl h) λ_=>?_);have hasm:=xS (applet:=ap) hok (R:=18) rfl hgd.ofOk;have htop:=aCd (of:=of) (applet:=ap) hok (R:=18) rfl;refine bF hb5.boxed lP LH rfl ?_;refine TP hi5 hasm.1 htop λhv lv f w6 hf hre hhv x6=>?_;refine yG.2 (yF.2 (yE.2 ?_));obtain ⟨va,vc,rfl⟩:=(aA.of_own hhv).shape;refine bF (hb5.ext x6).boxed pH aH rfl (bF (hb5.ext x6).boxed mV kD rfl ?_);refine pP bIn [(0,i64 at'),(1,i64 (4*s)),(2,_),(3,.slice ta (hO (gV i k st r)).length tc)] rfl rfl ?_;have x26:=x3.trans (x4.trans (x5.trans x6));have s2:=x3.size;have sD:=x4.size;have s5:=x5.size;have x56:=x5.trans x6;refine zS xM (hB.ext x26) (l:=[i64 at',i64 (4*s),_,.slice ta (hO (gV i k st r)).length tc]) rfl rfl rfl rfl λw7 hB7 hc=>?_;have f7:=rR hc;have k7:∀ {B:Nat} {e:TypeId} {v:Value} {n:Nat} {zs:List Value},w2.heap.size<=B->w6.ownsRow B e 1 v n zs->w7.ownsRow w.heap.size e 1 v n zs:=λhB' ho=>aX (f7.own ho λq hq hS=>by have:=(ho.lt q hq).1;have hS:q=g:=hS;omega) (by omega);refine ⟨_,pZ underlying61 rfl xM hB7 rfl,⟨_,rfl⟩,hK st r of s f _ _ w7 ⟨hw,Rc,hgd,hal,hf,hre⟩ (k7 (by omega) hhv) ⟨ys,k7 (by omega) (x6.own ht5),λq n hq=>?_⟩ (hc.ext _ (x02.trans x26) hg)⟩;obtain ⟨u,h1,sv,h2,h3⟩:=hy5 q n hq
 exact ⟨u,h1,sv,h2,k7 (Nat.le_refl _) ((x4.trans x56).own h3)⟩
structure ES where
 at_:Int
 fr:Int
 hw:List Nat
 tab:List aJ
 hv:Value
 tv:Value
def ES.cells (x:ES):List Value:=[i64 x.at_,i64 x.fr,x.hv,x.tv]
def ES.lies (w:World) (x:ES):Prop:=aA w x.hv 1 x.hw.length (hwC x.hw)/\pR w x.tv x.tab
def aAi (w:World) (row:List Value) (x:ES):Prop:=row=x.cells/\x.lies w
def BM (w:World) (v:Value) (l:List ES):Prop:=bU aAi 4 w v l
theorem aAi.ext {w':World} {row:List Value} {x:ES} (h:aAi w row x) (hx:aF w w'):aAi w' row x:=⟨h.1,aA.ext h.2.1 hx,h.2.2.ext hx⟩
theorem BM.ext {w':World} {v:Value} {l:List ES} (h:BM w v l) (hx:aF w w'):BM w' v l:=bU.ext (λh k=>h.ext k) h hx
def cdC (l:List ES):List Value:=l.flatMap ES.cells
theorem WP:∀ {l:List ES} {k:Nat} {x:ES},l[k]?=some x->((cdC l).drop (k*4)).take 4=x.cells
 | [],_,_,h=>by simp at h
 | y::l,0,x,h=>by simp at h;subst h;simp [cdC,ES.cells]
 | y::l,k+1,x,h=>by
  have:=WP (l:=l) (k:=k) (by simpa using h);simp only [cdC,List.flatMap_cons] at this ⊢;rw [show (k+1)*4=4+k*4 by omega,<- List.drop_drop,List.drop_left' (by rfl)];exact this
def ER (i:gN) (k:Nat) (ap:Int) (x:ES):Prop:=∃ st r of s f,aAh i k ap st r of s f/\x.fr=4*s/\x.hw=hwK i k ap st r of f/\x.tab=hO (gV i k st r)
def HN (a:Int) (n:Nat):Int:=(a+2*n+3) / 4*4
def nU (a:Int) (l:List ES):Int:=l.foldl (λa x=>HN a x.hw.length) a
theorem GT {a:Int} {l:List ES} {x:ES}:nU a (l++[x])=HN (nU a l) x.hw.length:=by simp [nU]
def UB (i:gN) (ap a:Int) (l:List ES):Prop:=∀ (j:Nat) x,l[j]?=some x->x.at_=nU a (l.take j)/\ER i j ap x
theorem ER.fits {i:gN} {k:Nat} {ap:Int} {x:ES} (ht:kY i) (hk:k < i.methods.length) (h:ER i k ap x):HG x.hw/\(∀ q∈x.hw,q < 65536)/\2*x.hw.length+4<=512+96*(i.meth k).code.length:=by
 obtain ⟨st,r,of,s,f,h,_,e,_⟩:=h;have hok:kJ (gV i k st r):=rD ht hk h.wk h.rc;have ha:=MM (xS (applet:=ap) hok (R:=18) rfl h.gd.ofOk).1 h.fo h.re;have hl:=aBp i (i.meth k) st r;have hmi:=gM (i:=i) (a:=(k:Int)) (by omega) (by omega);rw [Int.toNat_natCast] at hmi;have hlo:=(ht.1.2.2.1.2.1 _ (List.mem_of_getElem? hmi)).2.2.1.2;have htop:=aBo (of:=of) (applet:=ap) hok (R:=18) rfl hl (by omega);rw [e];exact ⟨ha.1,ha.2.1,by have:=ha.2.2.2;unfold hwK;omega⟩
theorem RF (a:Int) (n:Nat):a+2*n<=HN a n/\HN a n<=a+2*n+3/\HN a n % 4=0:=by unfold HN;omega
theorem aCo (l:List jH) (j:Nat):tB (l.take j)<=tB l:=by
 have h:tB l=tB (l.take j)+tB (l.drop j):=by
  unfold tB;rw [<- List.sum_append,<- List.map_append,List.take_append_drop]
 omega
theorem JB {i:gN} {ap a:Int} {l:List ES} (ht:kY i) (h:UB i ap a l) (hl:l.length<=i.methods.length):∀ j,j<=l.length->a<=nU a (l.take j)/\nU a (l.take j)<=a+tB (i.methods.take j)/\(a % 4=0->nU a (l.take j) % 4=0)
 | 0,_=>⟨by simp [nU],by simp [nU,tB],λh=>by simpa [nU] using h⟩
 | j+1,hj=>by
  obtain ⟨h1,h2,h3⟩:=JB ht h hl j (by omega);obtain ⟨x,hx⟩:=bC (l:=l) (j:=j) (by omega);have hmi:=gM (i:=i) (a:=(j:Int)) (by omega) (by omega);rw [Int.toNat_natCast] at hmi;have hf:=((h j x hx).2.fits ht (by omega)).2.2;have e:l.take (j+1)=l.take j++[x]:=by rw [List.take_add_one,hx];rfl
  rw [e,GT,zJ hmi];have:=RF (nU a (l.take j)) x.hw.length;exact ⟨by omega,by omega,λ_=>this.2.2⟩
theorem zH {p:iP} {i:gN} {ap a0:Int} (h:kK w p i) (hn:kM w i) (hrg:i.rg) (ha:0<=ap/\ap < 4) (h0:0<=a0/\a0 % 4=0) (h1:a0<=10000000)
  (no1:∀ w',¬ kY i->aF w w'->K (.tuple #[aZ,i64 0,i64 1]) w') (no2:∀ w',kY i->¬ (a0+tB i.methods<=131072)->aF w w'->K (.tuple #[aZ,i64 0,i64 16]) w')
  (yes:∀ v l w',kY i->a0+tB i.methods<=131072->BM w' v l->l.length=i.methods.length->UB i ap a0 l->aF w w'->K (.tuple #[v,i64 (nU a0 l),i64 0]) w') :
  aB prog 11 #[p.val i,i64 ap,i64 a0] w K:=by
 apply bGf;unfold aAf;refine bx λb1 w1 hb1 x1=>?_;have hb1:bG w1 b1 [.string i.name,p.fv,p.iv,p.mv,p.xv]:=hb1;refine iO hb1 lF rfl ?_;refine FE (p:=p) (i:=i) (h.ext x1) (hn.ext x1) hrg λa b e w2 he x2=>?_;refine gS.2 (gR.2 ?_);refine wJ KE rfl rfl λb3 w3 _ x3=>?_;have x13:=x2.trans x3;have x03:=x1.trans x13;refine dB.2 ?_;by_cases ht:kY i
 case neg=>
  have hne:e≠0:=λhz=>ht (he.1 hz);simp only [hne,aS,not_false_eq_true,ne_eq,reduceIte,decide_true];exact no1 w3 ht x03
 have hez:e=0:=he.2 ht;subst hez;have c1:¬ ap < 0:=by omega
 have c2:¬ ap>=4:=by omega
 have c3:¬ a0 < 0:=by omega
 simp only [c1,c2,c3,aS,not_true_eq_false,ne_eq,reduceIte,Bool.false_eq_true,decide_false];refine (aZf (by decide)).2 ?_;rw [show a0.tmod 4=0 by rw [Int.tmod_eq_emod_of_nonneg (by omega)];omega];refine dB.2 ?_;simp only [aS,not_true_eq_false,ne_eq,decide_false];have m8:=ht.1.2.2.1.1.2;by_cases c4:a0 > 131072
 ·simp only [c4,aS,reduceIte,decide_true];exact no2 w3 ht (by omega) x03
 simp only [c4,aS,reduceIte,Bool.false_eq_true,decide_false];have hb3:=hb1.ext x13;refine iO hb3 lF rfl ?_;refine WQ (p:=p) (i:=i) (h.ext x03) ht λw4 x4=>?_;have hbl:=xZ (rV ht) i.methods.length;rw [List.take_length] at hbl;refine fQ.2 (iR.2 ?_);rw [aC (by omega) (by omega)];by_cases c5:(tB i.methods:Int) > 131072 - a0
 ·simp only [c5,aS,decide_true];exact no2 w4 ht (by omega) (x03.trans x4)
 simp only [c5,aS,decide_false];have x04:=x03.trans x4;have hb4:=hb3.ext x4;refine bF hb4 bP dM rfl (yO iQ (h.ext x04).mt ?_);refine ⟨λt u k w'=>∃ (j:Nat) (l:List ES),k=i64 j/\j<=i.methods.length/\l.length=j/\t=i64 (nU a0 l)/\UB i ap a0 l/\aF w4 w'/\w'.ownsRow w4.heap.size 61 4 u l.length (cdC l)/\∀ x∈l,∀ w'',Fr (λk=>u.ownBlock=some k) w' w''->x.lies w'',λ_ _ k _=>i.methods.length - (RowKit.intOf k).toNat,⟨0,[],rfl,Nat.zero_le _,rfl,rfl,λj x hx=>by simp at hx,aF.refl _,World.ownsRow_nil _ _ _ _,λ_ hx=>by simp at hx⟩,?_⟩;rintro _ u _ w5 ⟨j,l,rfl,hj,hl,rfl,hok,x5,ho,hst⟩ _;have x05:=x04.trans x5;have heb:=JB ht hok (by omega) j (by omega);rw [<- hl,List.take_length] at heb;have hbm:=aCo i.methods l.length;refine aY.2 (aD (λhlt=>?_) λhge=>?_)
 case refine_2=>
  exact yes u l w5 ht (by omega) ⟨cdC l,aA.of_own ho,λk x hx=>⟨_,WP hx,rfl,hst x (List.mem_of_getElem? hx) w5 (Fr.refl _ _)⟩⟩ (by omega) hok x05
 refine iO (hb4.ext x5) lF rfl ?_;refine aFv (p:=p) (i:=i) (k:=j) (h.ext x05) (hn.ext x05) hrg ht (by omega) ha λst r of s f hv tv w6 hc hhv htv x6=>?_;obtain ⟨x,hx⟩:∃ x:ES,x=⟨nU a0 l,4*s,hwK i j ap st r of f,hO (gV i j st r),hv,tv⟩:=⟨_,rfl⟩;have hxo:ER i j ap x:=⟨st,r,of,s,f,hc,by rw [hx],by rw [hx],by rw [hx]⟩;have hxf:=(hxo.fits ht (by omega)).2.2;have hmi:=gM (i:=i) (a:=(j:Int)) (by omega) (by omega);rw [Int.toNat_natCast] at hmi;have hcl:=(rV ht) _ (List.mem_of_getElem? hmi);refine gS.2 (gR.2 ?_)
 have one:x.cells.all cO=true:=by
  obtain ⟨xs,ht1,_⟩:=htv;rw [hx];show (cO _&&(cO _&&(cO hv&&(cO tv&&true))))=true;rw [nX hhv,nX ht1];rfl
 rw [show (Value.agg #[i64 (nU a0 l),i64 (4*s),hv,tv])=.agg x.cells.toArray by rw [hx];rfl];refine sI bHg (by rw [hx];rfl) one λw7 hB7 x7=>?_;have hB7:bO w7 w6.heap.size x.cells 61:=hB7;refine dB.2 (aD (λh=>absurd rfl h) λ_=>?_);have x57:=x6.trans x7;refine iO (cs:=x.cells) hB7.boxed bIc (by rw [hx];rfl) ?_;refine zI underlying48 xM rfl (by decide) [.agg x.cells.toArray] rfl rfl (by intro v hv';rw [List.mem_singleton] at hv';subst hv';rw [hx];rfl) (by decide) (by decide) λv8 w8 ho8 x8=>?_;have e8:([Value.agg x.cells.toArray].flatMap λv=>v.cells.toList)=x.cells:=by rw [hx];rfl
 rw [e8] at ho8;have x48:=x5.trans (x57.trans x8);refine apG underlying48 xM rfl (by decide) ((x57.trans x8).own ho) (aA.of_own ho8) one (by omega) (by unfold maxLen;omega) x48.size λv9 w9 ho9 hg9 hl9=>?_;have x49:aF w4 w9:=x48.grown hg9 λk hk=>(ho.lt k hk).1;have f9:Fr (λk=>u.ownBlock=some k) w8 w9:=Fr.of_grown hg9 λk hk=>hk;have s78:=x8.size;have s57:=x57.size;have s5:=x6.size;have hB9:=f9.blk (hB7.ext x8) λhk=>by have:=(ho.lt _ hk).2;omega
 have hhv9:rJ w9 w5.heap.size hv (hwK i j ap st r of f):=f9.own ((x7.trans x8).own hhv) λq hq hS=>by have:=(hhv.lt q hq).1;have:=(ho.lt q hS).2;omega
 refine bF (cs:=[i64 (nU a0 l),i64 (4*s),hv,tv]) (by rw [hx] at hB9;exact hB9.boxed) oH aGj rfl (gD aDg (aA.of_own hhv9) ?_);have hlen:(hwK i j ap st r of f).length=x.hw.length:=by rw [hx]
 rw [hlen];have hbj:=xZ (rV ht) j
 have e1:(nU a0 l+2*x.hw.length+4 - 1).tdiv 4*4=HN (nU a0 l) x.hw.length:=by
  rw [Int.tdiv_eq_ediv_of_nonneg (by omega)];unfold HN;omega
 have e2:=RF (nU a0 l) x.hw.length;refine oO.2 (aU.2 (aU.2 (fQ.2 ((XH (by decide)).2 (oO.2 (aU.2 ?_))))))
 rw [show IntKind.i64.wrap (2*(x.hw.length:Int))=2*x.hw.length from aC (by omega) (by omega),show IntKind.i64.wrap (nU a0 l+2*(x.hw.length:Int))=nU a0 l+2*x.hw.length from aC (by omega) (by omega),
  show IntKind.i64.wrap (nU a0 l+2*(x.hw.length:Int)+4)=nU a0 l+2*x.hw.length+4 from aC (by omega) (by omega),show IntKind.i64.wrap (nU a0 l+2*(x.hw.length:Int)+4 - 1)=nU a0 l+2*x.hw.length+4 - 1 from aC (by omega) (by omega),
  show IntKind.i64.wrap ((nU a0 l+2*(x.hw.length:Int)+4 - 1).tdiv 4)=(nU a0 l+2*x.hw.length+4 - 1).tdiv 4 from aC (by omega) (by omega),e1,aC (by omega) (by omega),aC (by omega) (by omega),aR]
 refine ⟨⟨j+1,l++[x],rfl,by omega,by simp [hl],by rw [GT],λq y hq=>?_,x49,?_,λy hy=>?_⟩,by simp only [aL];omega⟩
 ·rw [List.getElem?_append] at hq;split at hq
  ·rename_i hql
   rw [List.take_append_of_le_length (by omega)];exact hok q y hq
  ·rename_i hql
   have hq0:q=l.length:=by
    have:=(List.getElem?_eq_some_iff.1 hq).1;simp at this;omega
   subst hq0;simp at hq;subst hq;rw [List.take_left,hl];exact ⟨by rw [hx],hxo⟩
 ·have e3:cdC (l++[x])=cdC l++x.cells:=by simp [cdC]
  rw [e3,List.length_append];exact ho9
 ·have f89:∀ {w''},Fr (λk=>v9.ownBlock=some k) w9 w''->Fr (λk=>u.ownBlock=some k) w8 w'':=λf=>f9.trans f λk hk hk'=>by
   rcases hl9 with h9|h9
   ·rw [h9] at hk';exact hk'
   ·rw [h9] at hk';cases hk';omega
  intro w'' fy;rcases List.mem_append.1 hy with hy|hy
  ·exact hst y hy w'' ((Fr.of_ext (x57.trans x8)).trans (f89 fy) λ_ _ h=>h)
  ·rw [List.mem_singleton] at hy;subst hy;have fx:Fr (λk=>u.ownBlock=some k) w6 w'':=(Fr.of_ext (x7.trans x8)).trans (f89 fy) λ_ _ h=>h;have hS:∀ q,w5.heap.size<=q->¬ u.ownBlock=some q:=λq hq hS=>by have:=(ho.lt q hS).2;omega
   have l1:aA w'' hv 1 (hwK i j ap st r of f).length (hwC (hwK i j ap st r of f)):=aA.of_own (fx.own hhv λq hq=>hS q (hhv.lt q hq).1);have l2:=(htv.fr fx λq hq _=>hS q hq).nodes;rw [hx];exact ⟨l1,l2⟩
theorem GU {p:eY} {of:List Int} {ap:Int} {a:Nat} {x:cF}:∀ k,a < k->x∈oM of p.nodes.length ap (fW p of ap a).2.length (p.at' a) a->x∈(fW p of ap k).1
 | 0,h,_=>absurd h (Nat.not_lt_zero _)
 | k+1,h,hx=>by
  show x∈(fW p of ap k).1++.place k::oM of p.nodes.length ap (fW p of ap k).2.length (p.at' k) k;rw [List.mem_append,List.mem_cons];by_cases hk:a=k
  ·subst hk;exact .inr (.inr hx)
  ·exact .inl (GU k (by omega) hx)
theorem MK {l:List cF} {f:List Nat} (hf:f.length=l.length) (a:Nat):∀ n,a+n<=l.length->sH l f a<=sH l f (a+n)
 | 0,_=>Nat.le_refl _
 | n+1,h=>by
  have ih:=MK hf a n (by omega);obtain ⟨x,hx⟩:=bC (l:=l) (j:=a+n) (by omega);have:=yB hf hx;rw [<- Nat.add_assoc,this];omega
theorem aAh.ne {i:gN} {k:Nat} {ap s:Int} {st:Tc.St} {r:List Bool} {of:List Int} {f:List Nat} (ht:kY i) (hk:k < i.methods.length) (h:aAh i k ap st r of s f):0 < (hwK i k ap st r of f).length:=by
 have hok:kJ (gV i k st r):=rD ht hk h.wk h.rc;have ha:=MM (xS (applet:=ap) hok (R:=18) rfl h.gd.ofOk).1 h.fo h.re;have hz:r.getD 0 false=true:=by rcases h.rc.z with hz|hz;exact hz;cases hz
 have hl0:0 < (i.meth k).code.length:=by have:=sY hz;have:=h.rc.rl;omega
 obtain ⟨t0,ht0,htl⟩:=xI (i:=i) (m:=i.meth k) (st:=st) (r:=r) (i.meth k).code.length 0 hl0 hz;have htick:=(zY i (i.meth k) st r).2.2.2 0 t0 ht0 (by omega);rw [Int.toNat_natCast] at htick;have hlt:=(List.getElem?_eq_some_iff.1 htick).1
 have hat:(gV i k st r).at' t0=.tick:=by
  show (nE i (i.meth k) st r).getD t0 .tick=_;rw [List.getD_eq_getElem?_getD,htick];rfl
 have hm:cF.one ⟨44,0,0,0,0,0⟩∈mK (gV i k st r) of ap:=by
  refine GU (a:=t0) _ hlt ?_;rw [hat];simp [oM,mL]
 obtain ⟨q,hq⟩:=List.getElem?_of_mem hm;have hql:=(List.getElem?_eq_some_iff.1 hq).1;have h1:=yB h.fo.len hq;have h2:=MK h.fo.len (q+1) ((mK (gV i k st r) of ap).length - (q+1)) (by omega);rw [show q+1+((mK (gV i k st r) of ap).length - (q+1))=(mK (gV i k st r) of ap).length by omega] at h2;have h3:=ha.2.2.1;have h4:cF.size (.one ⟨44,0,0,0,0,0⟩) (f.getD q 0)=2:=rfl;unfold hwK;omega
theorem AJ.det {i:gN} {k:Nat} {st:Tc.St} {r r':List Bool} (hw:∀ q,r.getD q false=st.h q) (hw':∀ q,r'.getD q false=st.h q) (h:AJ i (i.meth k) st [] r) (h':AJ i (i.meth k) st [] r'):r'=r:=by
 apply List.ext_getElem?;intro q;have e:=(hw' q).trans (hw q).symm;rw [List.getD_eq_getElem?_getD,List.getD_eq_getElem?_getD] at e;have l1:=h.rl;have l2:=h'.rl;by_cases hq:q < r.length
 ·have hq':q < r'.length:=by omega
  rw [List.getElem?_eq_getElem hq,List.getElem?_eq_getElem hq'] at e ⊢;simpa using e
 ·rw [List.getElem?_eq_none (by omega),List.getElem?_eq_none (by omega)]
def mS:jH:=⟨[],0,[],[⟨39,0,0⟩]⟩
def iS:gN:=⟨⟨#[97]⟩,[],[],[mS],[]⟩
theorem HP:kY iS:=by
 refine ⟨by simp [gN.right,rQ,rU,jH.right,lC.right,lim,gN.meth,iS,mS],λm hm=>?_⟩;have:m=mS:=by simpa [iS] using hm
 subst this;refine ⟨⟨[[]],[true],[false]⟩,.inr ⟨by simp [mS,eZ],?_⟩⟩;exact .go (pc:=0) (s':=⟨[[]],[true],[false]⟩) rfl rfl (.done rfl)
theorem bHv (hT:rS w):kM w iS:=⟨λw' hx=>
 have h:VM ⟨#[97]⟩ [⟨#[97]⟩,⟨#[]⟩] [0,1]=true:=by kernel_rfl
 ⟨LK (hT.ext hx) (xD h),GL (hT.ext hx) (xD h) (by kernel_rfl)⟩,λx hx=>by simp [iS] at hx⟩
theorem UO (hk:∀ p w',kK w' p iS->aF w w'->K (p.val iS) w'):aB prog 34 #[] w K:=by
 apply bFr;unfold ZQ;refine AP qU λw0 hB x0=>?_;have hB:bO w0 w.heap.size (List.replicate 5 aZ |>.set 0 (.string ByteArray.empty)) 27:=hB;refine pP MH [(0,i64 39)] rfl rfl ?_;refine zI underlying36 tZ rfl (by decide) [.agg #[i64 39,i64 0,i64 0]] rfl rfl (by intro v hv;rw [List.mem_singleton] at hv;subst hv;rfl) (by decide) (by decide) λcv w1 hc1 x1=>?_;obtain ⟨ca,cc,rfl⟩:=(aA.of_own hc1).shape;refine pP WY [(3,_)] rfl rfl ?_;refine zI underlying25 xN rfl (by decide) [.agg #[aZ,i64 0,aZ,.slice ca 1 cc]] rfl rfl (by intro v hv;rw [List.mem_singleton] at hv;subst hv;rfl) (by decide) (by decide) λmv w2 hm2 x2=>?_;obtain ⟨ma,mc,rfl⟩:=(aA.of_own hm2).shape;refine pP aZd [(0,.string ⟨#[97]⟩),(3,_)] rfl rfl ?_;have x02:=x1.trans x2;have hlt:=hB.lt;have s1:=x1.size;refine zS qU (hB.ext x02) (l:=[.string ⟨#[97]⟩,aZ,aZ,.slice ma 1 mc,aZ]) rfl rfl rfl rfl λw3 hB3 hc=>?_;have f3:=rR hc;have hm3:=f3.own hm2 λq hq hS=>by have:=(hm2.lt q hq).1;have hS:q=w.heap.size:=hS;omega
 have hc3:=f3.own (x2.own hc1) λq hq hS=>by have:=(hc1.lt q hq).1;have hS:q=w.heap.size:=hS;omega
 refine ⟨_,pZ underlying27 rfl qU hB3 rfl,⟨_,rfl⟩,hk ⟨aZ,aZ,.slice ma 1 mc,aZ⟩ w3 ⟨aA.nil _ _,⟨[],aA.nil _ _,λk x hk=>by simp [iS] at hk⟩,?_,aA.nil _ _⟩ (hc.ext _ (x0.trans x02) (Nat.le_refl _))⟩;refine ⟨[aZ,i64 0,aZ,.slice ca 1 cc],aA.of_own hm3,λk x hk=>?_⟩
 match k,hk with
 | 0,hk=>cases hk;exact ⟨_,rfl,aZ,aZ,_,rfl,aA.nil _ _,aA.nil _ _,aA.of_own hc3⟩
 | k+1,hk=>simp [iS] at hk
theorem aPg (hT:rS w) (hk:∀ w',aF w w'->K (.bool true) w'):aB prog 15 #[] w K:=by
 apply bGe;unfold aAd;have rgS:gN.rg iS:=by simp [gN.rg,iS,mS,lC.rg]
 have hb:tB iS.methods=608:=rfl;refine UO λp w1 hA x1=>?_;refine zH (p:=p) (i:=iS) (ap:=0) (a0:=8) hA (bHv (hT.ext x1)) rgS (by decide) (by decide) (by decide) (λw2 hn _=>absurd HP hn) (λw2 _ hn _=>absurd (by rw [hb];decide) hn) λv l w2 ht _ hl hll hok x2=>?_;have hll:l.length=1:=hll
 obtain ⟨x,rfl⟩:∃ x,l=[x]:=by
  match l,hll with
  | [x],_=>exact ⟨x,rfl⟩
 obtain ⟨hat,hcd⟩:=hok 0 x rfl;have hat:x.at_=8:=hat;have hfit:=(hcd.fits HP (by decide)).2.2;have hc1:(iS.meth (0:Nat)).code.length=1:=rfl;rw [hc1] at hfit;obtain ⟨st,r,of,s,f,hcK,_,hhw,_⟩:=hcd;have hne:=hcK.ne HP (by decide);rw [<- hhw] at hne;have hend:nU 8 [x]=HN 8 x.hw.length:=rfl;have hup:=RF 8 x.hw.length;refine yG.2 (yF.2 (yE.2 ?_));refine UO λp3 w3 hA3 x3=>?_;refine WQ (p:=p3) (i:=iS) hA3 HP λw4 x4=>?_;have x24:=x3.trans x4;rw [hb];have hl4:=hl.ext x24;refine aK.2 ?_;rw [decide_eq_true (by rfl)];simp only [aS,reduceIte,decide_true];refine yO tF hl4 ?_;refine aK.2 ?_;rw [decide_eq_true (by rfl)];simp only [aS,reduceIte];refine sQ tF qJ aH hl4 (i:=0) (e:=x) rfl λrow hrow=>⟨i64 x.at_,by rw [hrow.1];rfl,by decide,?_⟩;refine aK.2 ?_;rw [decide_eq_true hat];simp only [aS,reduceIte];refine sQ tF oH aGj hl4 (i:=0) (e:=x) rfl λrow hrow=>⟨x.hv,by rw [hrow.1];rfl,by decide,?_⟩;refine gD aDg hrow.2.1 (iR.2 ?_);rw [decide_eq_true (by omega)];simp only [aS,reduceIte];refine (aZf (by decide)).2 (aK.2 ?_);rw [hend,Int.tmod_eq_emod_of_nonneg (by omega),decide_eq_true hup.2.2];simp only [aS,reduceIte];refine sQ tF oH aGj hl4 (i:=0) (e:=x) rfl λrow hrow=>⟨x.hv,by rw [hrow.1];rfl,by decide,?_⟩;refine gD aDg hrow.2.1 (oO.2 (aU.2 (kN.2 ?_)))
 rw [show IntKind.i64.wrap (2*(x.hw.length:Int))=2*x.hw.length from aC (by omega) (by omega),aC (by omega) (by omega),decide_eq_true (by omega)];simp only [aS,reduceIte];rw [decide_eq_true (by omega)];exact hk w4 ((x1.trans x2).trans x24)
section
variable {S:World->Prop} {L:Value->Prop}
theorem bJg {α:Type} {T:World->List Value->α->Prop} {sz:Nat} {t x:TypeId} {v:Value} {l:List α} {i:Nat} {e:α} (h:XA prog t sz) (ht:∃ d z by_,Program.underlying prog x=some d/\lQ d=true/\dA prog x z sz by_) (hs:bU T sz w v l) (hx:∀ w',S w'->aF w w') (hi:l[i]?=some e) (hT:∀ w row e,T w row e->row.length=sz)
  (hk:∀ row,T w row e->L (.agg row.toArray)):aE prog S (Instr.indexAt t v (i64 i)) λp=>aE prog S (Instr.loadAt x p) L:=by
 obtain ⟨cs,h1,h2⟩:=hs;obtain ⟨row,h3,h4⟩:=h2 i e hi;have hlt:i < l.length:=(List.getElem?_eq_some_iff.1 hi).1;obtain ⟨e,z,b',hte,hinf⟩:=h;obtain ⟨d,z',by_,g2,g3,g4⟩:=ht;obtain ⟨b,off,cap,rfl,hc⟩:=h1.there (by omega);have hl:=hT _ _ _ h4;refine aE.ok (λw' _=>jO hte hinf (by omega) (by omega)) (aE.ok (λw' hw=>mP g2 g3 g4 hl λj hj=>?_) (hk row h4));obtain ⟨u,hu⟩:∃ u,row[j]?=some u:=⟨_,List.getElem?_eq_getElem hj⟩;rw [hu];refine (hx w' hw).cell ?_;rw [<- h3,List.getElem?_take,if_pos (by omega),List.getElem?_drop] at hu;simpa [Nat.add_assoc] using hc _ _ hu
theorem JS {α:Type} {T:World->List Value->α->Prop} {sz:Nat} {t s f o ft:Nat} {v:Value} {l:List α} {i:Nat} {e:α} (h:XA prog t sz) (hf:FA prog s f o) (hl:L1 prog ft) (hs:bU T sz w v l) (hx:∀ w',S w'->aF w w') (hi:l[i]?=some e)
  (hk:∀ row,T w row e->∃ u,row[o]?=some u/\o < sz/\L u):aE prog S (Instr.indexAt t v (i64 i)) λp=>aE prog S (Instr.fieldAt s p f) λq=>aE prog S (Instr.loadAt ft q) L:=by
 obtain ⟨cs,h1,h2⟩:=hs;obtain ⟨row,h3,h4⟩:=h2 i e hi;have hlt:i < l.length:=(List.getElem?_eq_some_iff.1 hi).1;obtain ⟨u,hu,ho,hL⟩:=hk row h4;obtain ⟨e,z,b',hte,hinf⟩:=h;obtain ⟨d,hd,ha⟩:=hl;obtain ⟨b,off,cap,rfl,hc⟩:=h1.there (by omega);refine aE.ok (λw' _=>jO hte hinf (by omega) (by omega)) (aE.ok (λw' _=>hf.ex w' b _) (aE.ok (λw' hw=>iZ hd ha ((hx w' hw).cell ?_)) hL));rw [<- h3,List.getElem?_take,if_pos ho,List.getElem?_drop] at hu;simpa [Nat.add_assoc] using hc _ _ hu
end
end Go.Proofs.YtjcmcfidblhnnaaGreatDoor
namespace Go.Tc
theorem aPr {n:Nat} {s s':St} {to:Int} {stack:List Int} (h:mX n s to stack=some s'):∀ k,s'.h k=true->s.h k=true\/k=to.toNat:=λk hk=>by
 unfold mX at h;split at h
 ·cases h
 split at h
 ·obtain ⟨j,_,h⟩:=Option.bind_eq_some_iff.1 h;split at h
  iterate 2
   ·cases h;exact .inl hk
 ·cases h;simp only [St.h] at hk ⊢;rw [kU] at hk;split at hk
  ·rename_i hc;exact .inr hc.1
  ·exact .inl hk
theorem WB {n:Nat} {stack:List Int}:∀ {l:List Int} {s s':St},lG n stack l s=some s'->∀ k,s'.h k=true->s.h k=true\/∃ to∈l,k=to.toNat
 | [],s,s',h,k,hk=>by cases h;exact .inl hk
 | to::l,s,s',h,k,hk=>by
  simp only [lG,Option.bind_eq_some_iff] at h;obtain ⟨s1,h1,h2⟩:=h;rcases WB h2 k hk with h3|⟨t,ht,he⟩
  ·rcases aPr h1 k h3 with h4|h4
   ·exact .inl h4
   ·exact .inr ⟨to,List.mem_cons_self,h4⟩
  ·exact .inr ⟨t,List.mem_cons_of_mem _ ht,he⟩
theorem nV.least {i:gN} {m:jH} {C:Nat->Prop} (hx:∀ x∈m.code,zN i m x) (hc:∀ k,C k->∀ to∈fB (m.ins k) k,C to.toNat) {s:St} {r:Option St} (h:nV i m s r):∀ s',r=some s'->WF m s->XN i m s->(∀ k,s.h k=true->C k)->∀ k,s'.h k=true->C k:=by
 induction h with
 | done h1=>intro s' he _ _ hC;cases he;exact hC
 | fail _ _=>intro s' he;cases he
 | @go s s1 pc r h1 h2 _ ih=>
  intro s' he hw hi hC;obtain ⟨a,b,_⟩:=AV hx hw hi h1 h2;refine ih s' he a b λk hk=>?_;have ht:s.t pc=true:=(rG h1).1
  have hp:s.h pc=true:=by
   cases hh:s.h pc with
   | true=>rfl
   | false=>rw [(hw.no pc hh).2] at ht;cases ht
  obtain ⟨stack,_,h3⟩:=Option.bind_eq_some_iff.1 h2;rcases WB h3 k hk with h4|⟨to,h4,rfl⟩
  ·exact hC k h4
  ·exact hc pc (hC pc hp) to h4
theorem oZ.least {i:gN} {m:jH} {C:Nat->Prop} {s:St} (hi:i.right) (hm:m.right) (h:oZ i m (some s)) (h0:C 0) (hc:∀ k,C k->∀ to∈fB (m.ins k) k,C to.toNat):∀ k,s.h k=true->C k:=by
 rcases h with ⟨_,h⟩|⟨h1,h2⟩
 ·cases h
 have hx:∀ x∈m.code,zN i m x:=λx hx=>⟨hi,hm,hm.2.2.2.2 x hx,h1 x hx⟩;obtain ⟨a,b⟩:=xR (i:=i) hm.2.2.2.1.1;refine h2.least hx hc s rfl a b λk hk=>?_;simp only [St.h,St.first] at hk;rw [kU] at hk;split at hk
 ·rename_i hh;rw [hh.1];exact h0
 ·rw [List.getD_eq_getElem?_getD,List.getElem?_replicate] at hk;split at hk<;>simp at hk
end Go.Tc
namespace Go.Proofs.YtjcmcfidblhnnaaGreatDoor
open Tryz
open Go.Vc Go.Tc
variable {w:World} {K:Value->World->Prop}
theorem aEn {i:gN} {m:jH} {st:Tc.St} {r:List Bool} (hi:i.right) (hm:m.right) (hw:oZ i m (some st)) (R:AJ i m st [] r) (k:Nat):r.getD k false=st.h k:=by
 have h0:r.getD 0 false=true:=by rcases R.z with hz|hz;exact hz;cases hz
 cases hh:st.h k with
 | true=>exact hw.least hi hm (C:=λk=>r.getD k false=true) h0 (λk hk to ht=>by rcases R.cl k hk to ht with h1|h1;exact h1;cases h1) k hh
 | false=>
  cases hr:r.getD k false with
  | false=>rfl
  | true=>rw [R.rs k hr] at hh;cases hh
theorem US {i:gN} {k:Nat} {st st':Tc.St} {r r':List Bool} (ht:kY i) (hk:k < i.methods.length) (hw:oZ i (i.meth k) (some st)) (hr:AJ i (i.meth k) st [] r) (hw':oZ i (i.meth k) (some st')) (hr':AJ i (i.meth k) st' [] r'):st'=st/\r'=r:=by
 have hmi:=gM (i:=i) (a:=(k:Int)) (by omega) (by omega);rw [Int.toNat_natCast] at hmi;have mr:(i.meth k).right:=ht.1.2.2.1.2.1 _ (List.mem_of_getElem? hmi);have e:=hw.det hw';cases e;exact ⟨rfl,AJ.det (aEn ht.1 mr hw hr) (aEn ht.1 mr hw hr') hr hr'⟩
theorem ER.det {i:gN} {k:Nat} {ap ap':Int} {x y:ES} (ht:kY i) (hk:k < i.methods.length) (h:ER i k ap x) (h':ER i k ap' y):y.fr=x.fr/\y.tab=x.tab:=by
 obtain ⟨st,r,of,s,f,hc,h1,_,h2⟩:=h;obtain ⟨st',r',of',s',f',hc',h1',_,h2'⟩:=h';obtain ⟨rfl,rfl⟩:=US ht hk hc.wk hc.rc hc'.wk hc'.rc;obtain ⟨rfl,rfl⟩:=hc.al.det hc'.al;exact ⟨by rw [h1,h1'],by rw [h2,h2']⟩
theorem bAn {rv:Value} {rl:List Rw} {a b:Int} (hr:jC w rv rl) (hb:pY w) (hT:rS w) (rn:rl.length<=5000000000000) :
  aB prog 5 #[rv,i64 a,i64 b] w λv w'=>v=.bool true/\aF w w':=by
 apply bIu;suffices key:∀ R:Value->World->Prop,(∀ w',aF w w'->R (.bool true) w')->TZ rv (i64 a) (i64 b) w R from key _ λ_ hx=>⟨rfl,hx⟩;intro R hR;unfold TZ;refine jS bGw [rv] rfl rfl (by simp) (by simp [hr.one]) λv1 w1 ho1 x1=>?_;refine aCu (ll:=[rl]) ⟨[rv],aA.of_own ho1,λk l hkl=>?_⟩ (hb.ext x1) (hT.ext x1) λv2 l w2 hl hl3 _ x2=>?_
 ·match k,hkl with
  | 0,hkl=>cases hkl;exact ⟨rv,rfl,hr.ext x1,rn⟩
  | k+1,hkl=>simp at hkl
 have x02:=x1.trans x2;refine gP (by decide) (by decide) λq hq0 hq1=>oO.2 ?_;rw [aC (by omega) (by omega)];refine ⟨λv w'=>∃ j:Nat,v=i64 j/\j<=l.length/\aF w2 w',λv _=>l.length - (RowKit.intOf v).toNat,⟨0,rfl,Nat.zero_le _,aF.refl _⟩,?_⟩;rintro _ w3 ⟨j,rfl,hj,x3⟩ _;refine yO UF (hl.ext x3) (aY.2 (aD (λhlt=>?_) λhge=>?_))
 case refine_2=>exact aPg (hT.ext (x02.trans x3)) λw4 x4=>hR _ ((x02.trans x3).trans x4)
 obtain ⟨x,hx⟩:=bC (l:=l) (j:=j) (by omega);obtain ⟨p,i⟩:=x;refine ldS UF lF (hl.ext x3) hx TR λrow ⟨hrow,hA,ht⟩=>?_;subst hrow;have hA:Apl w3 p i:=hA;have ht:kY i:=ht;have hcl:=xZ (rV ht) i.methods.length;rw [List.take_length] at hcl;have ml:i.methods.length=3:=hA.ml;refine zH (p:=p) (i:=i) (ap:=0) (a0:=0) hA.at_ hA.nm hA.rg (by decide) (by decide) (by decide) (λ_ hn _=>absurd ht hn) (λ_ _ hn _=>absurd (by omega) hn) λva la w4 _ _ hla hlal hoka x4=>?_;refine yG.2 (yF.2 (yE.2 ?_));have D4:aF w4 w4.drew:=(aF.refl _).drew;have x24:=x3.trans (x4.trans D4);refine aM.mk' (λw'=>aF w4.drew w') (aF.refl _) ?_;refine bJg UF lF (hl.ext x24) (λ_ h=>h) hx TR λrow ⟨hrow,hA',_⟩=>?_;subst hrow;refine gP (by decide) (by decide) λap hp0 hp1=>⟨aF.refl _,?_⟩;refine zH (p:=p) (i:=i) (ap:=ap) (a0:=4*q) hA'.at_ hA'.nm hA'.rg ⟨hp0,hp1⟩ ⟨by omega,by omega⟩ (by omega) (λ_ hn _=>absurd ht hn) (λ_ _ hn _=>absurd (by omega) hn) λvb lb w5 _ _ hlb hlbl hokb x5=>⟨x5,?_⟩;refine aE.ok (λ_ _=>UZ) (aE.ok (λ_ _=>UY) (aE.ok (λ_ _=>UX) ?_));have ea:=JB ht hoka (by omega) la.length (Nat.le_refl _);have eb:=JB ht hokb (by omega) lb.length (Nat.le_refl _);rw [List.take_length] at ea eb;have hla5:=hla.ext (D4.trans x5);have x25:=x24.trans x5;simp only [aS,not_true_eq_false,ne_eq,reduceIte,Bool.false_eq_true,decide_false]
 refine yO tF hla5 (yO tF hlb (dB.2 ?_));rw [show decide ((la.length:Int)≠lb.length)=false from decide_eq_false λh=>h (by omega)];simp only [aS,reduceIte,Bool.false_eq_true];rw [show decide (nU 0 la < 0)=false from decide_eq_false (by omega)];simp only [aS,reduceIte,Bool.false_eq_true];rw [show decide (nU (4*q) lb < 4*q)=false from decide_eq_false (by omega)];refine aP.2 ?_;refine ⟨λv w'=>∃ k:Nat,v=i64 k/\k<=i.methods.length/\aF w5 w',λv _=>i.methods.length - (RowKit.intOf v).toNat,⟨0,rfl,Nat.zero_le _,aF.refl _⟩,?_⟩;rintro _ w6 ⟨k,rfl,hk,x6⟩ _;refine yO tF (hla5.ext x6) (aY.2 (aD (λhlt2=>?_) λhge2=>?_))
 case refine_2=>
  refine aU.2 ?_;rw [aC (by omega) (by omega),aR];exact ⟨⟨j+1,rfl,by omega,x25.trans x6⟩,by simp only [aL];omega⟩
 obtain ⟨x,hxk⟩:=bC (l:=la) (j:=k) (by omega);obtain ⟨y,hyk⟩:=bC (l:=lb) (j:=k) (by omega);have hkm:k < i.methods.length:=by omega
 have hxo:=(hoka k x hxk).2;obtain ⟨hfr,htab⟩:=hxo.det ht hkm (hokb k y hyk).2;refine ldS UF lF (hl.ext (x25.trans x6)) hx TR λrow ⟨hrow,hA6,_⟩=>?_;subst hrow;refine bAw (p:=p) (i:=i) hA6.at_ hA6.nm hA6.rg (λst r nv sv w7 _ _ _ hw Rc hN hS x7=>?_) λw7 hne x7=>absurd ⟨ht,by omega,by omega⟩ hne;have hok:kJ (gV i k st r):=rD ht hkm hw Rc
 have hxt:x.tab=hO (gV i k st r):=by
  obtain ⟨st',r',of',s',f',hc,_,_,h2⟩:=hxo;obtain ⟨rfl,rfl⟩:=US ht hkm hw Rc hc.wk hc.rc;exact h2
 obtain ⟨xs,ho3,hx3⟩:=hN;obtain ⟨na,nc,rfl⟩:=ho3.shape;refine yG.2 (yF.2 (yE.2 ?_));refine sI aDy rfl rfl λw8 hp8 x8=>?_;have hp8:bO w8 w7.heap.size [i64 (gV i k st r).params,i64 (gV i k st r).regs,.slice na (nE i (i.meth k) st r).length nc] 33:=hp8;have D8:aF w8 w8.drew:=(aF.refl _).drew;have x68:=x7.trans (x8.trans D8);have x58:=x6.trans x68;refine aM.mk' (λw'=>aF w8.drew w') (aF.refl _) ?_;refine aE.ok (λ_ _=>uY) ?_;simp only [Bool.not_true,aS,reduceIte,Bool.false_eq_true,Bool.not_true];have hla8:=hla5.ext x58;have hlb8:=hlb.ext x58;refine JS tF pI aH hla8 (λ_ h=>h) hxk λrow hrow=>⟨i64 x.fr,by rw [hrow.1];rfl,by decide,?_⟩;refine JS tF pI aH hlb8 (λ_ h=>h) hyk λrow hrow=>⟨i64 y.fr,by rw [hrow.1];rfl,by decide,?_⟩;refine aE.ok (λ_ _=>rM) ?_;rw [show decide (x.fr≠y.fr)=false from decide_eq_false λh=>h hfr.symm];simp only [aS,reduceIte,Bool.false_eq_true];refine JS tF oG kD hla8 (λ_ h=>h) hxk λrow hrow=>⟨x.tv,by rw [hrow.1];rfl,by decide,?_⟩;obtain ⟨_,tvs,htvs,_⟩:=hrow.2;refine rA mW htvs ?_;refine JS tF oG kD hlb8 (λ_ h=>h) hyk λrow hrow=>⟨y.tv,by rw [hrow.1];rfl,by decide,?_⟩;obtain ⟨_,tvs2,htvs2,_⟩:=hrow.2;refine rA mW htvs2 ?_;refine aE.ok (λ_ _=>rM) ?_;rw [show decide ((x.tab.length:Int)≠y.tab.length)=false from decide_eq_false λh=>h (by rw [htab])]
 refine aP.2 ?_
 refine ⟨λbp ev w'=>∃ gB iv ta tc s ys,bp=.pointer (some ⟨gB,0,none⟩)/\ev=i64 0/\bO w' gB [iv,.slice ta (hO (gV i k st r)).length tc,i64 (4*s)] 68/\aA w' (.slice ta (hO (gV i k st r)).length tc) 1 (hO (gV i k st r)).length ys/\aF w8.drew w',
  aYh (T:=λ_ _=>True) hok rfl (by decide) rfl (hp8.ext D8).boxed ((ho3.ext x8).ext D8) (λq n hq=>?_) λof s gB iv ta tc ys w' _ _ c _ e _ x=>⟨gB,iv,ta,tc,s,ys,rfl,rfl,c,aA.of_own e,x⟩,?_⟩
 ·obtain ⟨u,h1,h2⟩:=hx3 q n hq;exact ⟨u,h1,(h2.ext x8).ext D8,trivial⟩
 rintro _ _ w9 ⟨gB,iv,ta,tc,s,ys,rfl,rfl,hB9,hs9,x9⟩ _;have D9:aF w9 w9.drew:=(aF.refl _).drew;refine aM.mk' (λw'=>aF w9.drew w') (aF.refl _) ?_;refine aE.ok (λ_ _=>rM) ?_;rw [show decide ((0:Int)≠0)=false from rfl];simp only [aS,reduceIte,Bool.false_eq_true];refine jM (λw' hx=>((hB9.ext D9).boxed).ext hx) mV kD rfl (rA mW hs9 ?_);refine JS tF oG kD (hla8.ext (x9.trans D9)) (λ_ h=>h) hxk λrow hrow=>⟨x.tv,by rw [hrow.1];rfl,by decide,?_⟩;obtain ⟨_,tvs3,htvs3,_⟩:=hrow.2;refine rA mW htvs3 ?_;refine aE.ok (λ_ _=>rM) ?_;rw [show decide (((hO (gV i k st r)).length:Int)≠x.tab.length)=false from decide_eq_false λh=>h (by rw [hxt])];refine aP.2 (aU.2 ?_);rw [aC (by omega) (by omega),aR];exact ⟨⟨k+1,rfl,by omega,x58.trans (x9.trans D9)⟩,by simp only [aL];omega⟩
end Go.Proofs.YtjcmcfidblhnnaaGreatDoor
namespace Go.Vc
open Go.ChangeShapes Go.WideShapes Go.ChangeAt Go.RowKit
variable {H:Type} {enc:TypeId × Value->H} {P:Program}
theorem KQ {f:Func} {s:ChangeSpec} {apart fresh handsOn again:Bool} {W W':World} {args:Array Value} {v:Value} {ds gs:List (DataW H)} {pa pv:List MemPlace}
  (hW:DataW.Whole enc P f.params.toList s.vars apart W args.toList ds gs (pa++pv)) (hx:aF W W')
  (hr:∀ b sp hd,DataW.TrodAll enc P W' b sp hd f.resultTypes.toList (v.resultList f.resultTypes.size) (s.fn H (ds++gs)).results [])
  (ha:∀ sp:Nat->Bool,(∀ p∈pa++pv,sp p.block=true)->DataW.TrodAll enc P W' 0 sp true f.params.toList args.toList (s.fn H (ds++gs)).args pa)
  (hv:∀ sp:Nat->Bool,(∀ p∈pa++pv,sp p.block=true)->DataW.TrodVars enc P W' sp s.vars (s.fn H (ds++gs)).vars pv)
  (hok:∀ (j:Nat) (t:TypeId) (r:Value),f.resultTypes[j]?=some t->(v.resultList f.resultTypes.size)[j]?=some r->Value.okWide P W' .any 0 t r) :
  s.post enc P f apart fresh handsOn again W args v W':=by
 have hlt:=hW.lt;have hall:∀ p∈pa++pv,(λb=>decide (b < W.heap.size)) p.block=true:=λp hp=>decide_eq_true (hlt p hp);have hk:=hx.below.frame (·∈pa++pv)
 refine ⟨ds,gs,pa++pv,[],pa,pv,hW,hr _ _ _,ha _ hall,hv _ hall,World.keptBut_mono (λp hp=>⟨hp,.inr (by simpa using hp)⟩) hk,λ_=>?_⟩;obtain ⟨_,_,_,_,_,hz,hn⟩:=hW;have h2:=trodAll_append (ha (λ_=>true) λ_ _=>rfl) (hr 0 (λ_=>true) true);refine ⟨hok,_,_,pa++pv,⟨pa,pv,(by simpa using h2),hv _ λ_ _=>rfl,rfl,λb off hp=>?_,hn⟩,λp hp _=>hp⟩;rw [hx.below.frozen (hlt _ hp)];exact hz b off hp
theorem HC (hl:laidOutB P=true) {W W':World} (hx:aF W W') {sp:Nat->Bool}:∀ {ts:List TypeId} {vs:List Value} {ds:List (DataW H)} {p:List MemPlace},(ts.all λt=>P.readableRec t&&decide (t < P.types.size))=true ->
  DataW.TrodAll enc P W 0 (λ_=>true) true ts vs ds p->(∀ x∈p,x.block < W.heap.size)->(∀ x∈p,sp x.block=true)->DataW.TrodAll enc P W' 0 sp true ts vs ds p
 | [],vs,ds,p,_,h,_,_=>by
  obtain ⟨rfl,rfl,rfl⟩:=trodAll_nil h;exact trodAll_mk0
 | t::ts,vs,ds,p,hr,h,hlt,hs=>by
  simp only [List.all_cons,Bool.and_eq_true,decide_eq_true_eq] at hr;obtain ⟨v,vs',d,ds',p1,p2,rfl,rfl,rfl,h1,h2⟩:=trodAll_cons h
  exact trodAll_cons_mk (WideElems.Trod_stays hl hr.1.1 hr.1.2 h1 (λx hx'=>hx.below.same (hlt x (by simp [hx']))) λx hx'=>hs x (by simp [hx']))
   (HC hl hx (by simpa using hr.2) h2 (λx hx'=>hlt x (by simp [hx'])) λx hx'=>hs x (by simp [hx']))
end Go.Vc
namespace Go.Vc
open Go.ChangeShapes
variable {P:Program} {W:World} {x:String} {ds:List (DataW Unit)} {i m:Nat} {k:IntKind} {laid:List (String × DataW Unit)} {ps:List MemPlace}
theorem zD {P:Program} {W:World} {x:String} {ds:List (DataW Unit)} {g t e m:Nat} (hg:P.globalNamed x=some g) (ht:(P.globals[g]?).map (·.type)=some t) (hu:P.underlying t=some (.array m e)) {i:Nat} (hi:i < m) :
  ∀ {laid:List (String × DataW Unit)} {ps:List MemPlace},DataW.LaidVars P W laid ps->(x,.agg ds)∈laid->∃ (fuel:Nat) (q:List MemPlace) (cs:List Value) (d:DataW Unit),ds[i]?=some d/\DataW.trod (λ_=>()) P W 0 (λ_=>true) false fuel e ((cs.drop (i*P.cellsOf e)).take (P.cellsOf e))=some (d,q)/\∀ j:Nat,W.cell? ⟨g,j,none⟩=cs[j]?
 | [],_,_,hm=>by cases hm
 | (n',d')::r,ps,h,hm=>by
  obtain ⟨g',t',cs,fuel,p,q,h1,h2,h3,h4,h5,_⟩:=h;rcases List.mem_cons.1 hm with e1|e1
  ·cases e1;obtain rfl:=Option.some.inj (hg.symm.trans h1);obtain rfl:=Option.some.inj (ht.symm.trans h2);obtain ⟨xs,m',_,ex,_,hxl,hel⟩:=DataW.trod_array hu h4;have hE:=hel i hi;rw [List.getElem?_eq_getElem (by omega)] at hE;refine ⟨m',(xs[i]'(by omega)).2,cs.toList,(xs[i]'(by omega)).1,?_,hE,λj=>by rw [World.var?_cell hg h3 j,<- Array.getElem?_toList]⟩;have:ds=xs.map (·.1):=by have:=congrArg Prod.fst ex;simpa using this
   rw [this,List.getElem?_map,List.getElem?_eq_getElem (by omega)];rfl
  ·exact zD hg ht hu hi h5 e1
theorem LE {g t e:Nat} (hg:P.globalNamed x=some g) (ht:(P.globals[g]?).map (·.type)=some t) (hu:P.underlying t=some (.array m e)) (he:P.underlying e=some (.int k)) (c1:P.cellsOf e=1)
  (h:DataW.LaidVars P W laid ps) (hm:(x,.agg ds)∈laid) (hi:i < m):∃ z,ds[i]?=some (.lit (.int k z))/\W.cell? ⟨g,i,none⟩=some (.int k z):=by
 obtain ⟨fuel,q,cs,d,h1,h2,h3⟩:=zD hg ht hu hi h hm;rw [c1,Nat.mul_one] at h2;obtain ⟨z,e1,e2,_⟩:=DataW.trod_int he h2;cases e2;refine ⟨z,h1,?_⟩;rw [h3 i];have h0:((cs.drop i).take 1)[0]?=some (.int k z):=by rw [e1];rfl
 simpa using h0
theorem LF {g t e c f o u:Nat} {fs:Array Field} (hg:P.globalNamed x=some g) (ht:(P.globals[g]?).map (·.type)=some t) (hu:P.underlying t=some (.array m e)) (he:P.underlying e=some (.struct fs)) (hc:P.cellsOf e=c)
  (hf:(fs[f]?).map (λy=>(y.type,y.offset))=some (u,o)) (hk:P.underlying u=some (.int k)) (c1:P.cellsOf u=1) (ho:o < c)
  (h:DataW.LaidVars P W laid ps) (hm:(x,.agg ds)∈laid) (hi:i < m):∃ l z,ds[i]?=some (.agg l)/\l[f]?=some (.lit (.int k z))/\W.cell? ⟨g,i*c+o,none⟩=some (.int k z):=by
 obtain ⟨fuel,q,cs,d,h1,h2,h3⟩:=zD hg ht hu hi h hm;rw [hc] at h2;obtain ⟨xs,n,_,ex,_,hxl,hel⟩:=DataW.trod_struct he h2;obtain ⟨fd,hfd,hfe⟩:=Option.map_eq_some_iff.1 hf;have h4:=hel f fd hfd;have hlt:f < fs.size:=(Array.getElem?_eq_some_iff.1 hfd).1;simp only [Prod.mk.injEq] at hfe;obtain ⟨rfl,rfl⟩:=hfe;rw [c1,List.getElem?_eq_getElem (by omega)] at h4;obtain ⟨z,e1,e2,_⟩:=DataW.trod_int hk h4;have e3:d=.agg (xs.map (·.1)):=congrArg Prod.fst ex
 refine ⟨_,z,by rw [h1,e3],by rw [List.getElem?_map,List.getElem?_eq_getElem (by omega)];simp [e2],?_⟩;rw [h3];have h0:((((cs.drop (i*c)).take c).drop fd.offset).take 1)[0]?=some (.int k z):=by rw [e1];rfl
 simpa [List.getElem?_take,List.getElem?_drop,ho] using h0
end Go.Vc
