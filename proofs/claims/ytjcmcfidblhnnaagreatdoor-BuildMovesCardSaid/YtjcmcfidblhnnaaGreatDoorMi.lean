/- slices. -/
import Derived.Test.YtjcmcfidblhnnaaGreatDoorMh
import Derived.Test.YtjcmcfidblhnnaaGreatDoorMb
import Derived.WalkKit
import Derived.ProofKit
import Derived.OpenShut
import Derived.WideKeyArgs
import Derived.ChangeArms
import Derived.FnData
namespace Go.Vc
section
variable {P:Program} {w:World} {K:Value→World→Prop}
theorem cpR {t e by_ ty:Nat} (h:XE P t e by_) {g o R c:Nat} {xs cs:List Value} {te:TypeId} {b off n c':Nat} (hb:bO w g xs te) (hfit:o+R≤xs.length) (hs:aA w (.slice (some ⟨b,off,none⟩) n c') 1 n cs) (h1:cs.all cO=true)
  (hk:∀ w',bO w' g (xs.take o++cs.take (min n R)++xs.drop (o+min n R)) te→Fr (fun i=>i=g) w w'→K (i64 ((min n R:Nat):Int)) w') :
  V P (Builtin.copy_ #[t,t] ty #[.slice (some ⟨g,o,none⟩) R c,.slice (some ⟨b,off,none⟩) n c']) w K:=by
 obtain ⟨z,ht,hi,hz⟩:=h
 obtain ⟨i,hi',hz',hn,hby⟩:=info_parts hi
 have hsz:(P.info? e).map (·.size)=some 1:=by rw [hi'];simp [hn]
 have hcl:cs.length=n:=by have:=hs.1;omega
 rcases hs.2 with ⟨h2,_⟩|⟨b',off',cap',h2,_,_,hc⟩
 ·cases h2
 cases h2
 have hlen:(cs.take (min n R)).length=min n R:=by rw [List.length_take];omega
 have hr:=run_copy_row (P:=P) w t t ty e g o R c ⟨b,off,none⟩ n c' xs.toArray te (cs.take (min n R)) ht hsz hb hlen (fun j u hj=>by
   rw [List.getElem?_take] at hj
   split at hj
   ·rw [lJ];exact hc j u hj
   ·cases hj) (by rw [hlen];simp;omega) (fun u hu=>by rw [AY];exact List.all_eq_true.1 h1 u (List.mem_of_mem_take hu))
 rw [hlen] at hr
 refine V.ok hr (hk _ ?_ ⟨rfl,rfl,rfl,by simp,fun i _ hi=>setRow_other _ _ _ _ hi⟩)
 unfold bO
 rw [setRow_heap w g _ _ te (0,0) hb]
theorem nF {n:Int} (h0:0≤n) (h1:n < 18446744073709551616):IntKind.u64.wrap n=n:=by
 have e:n % (2 ^ 64:Int)=n:=by omega
 unfold IntKind.wrap
 simp only [show IntKind.u64.bits=64 from rfl,show IntKind.u64.signed=false from rfl,e,Bool.false_and,Bool.false_eq_true,if_false]
theorem aIa {a:Int} (h0:0≤a) (h1:a < 4294967296):IntKind.u64.wrap (((BitVec.ofInt IntKind.u64.bits a &&& BitVec.ofInt IntKind.u64.bits 4294967295).toNat:Nat):Int)=a:=by
 obtain ⟨n,rfl⟩:∃ n:Nat,a=n:=⟨a.toNat,by omega⟩
 have e1:(BitVec.ofInt 64 (n:Int)).toNat=n:=by rw [BitVec.toNat_ofInt];omega
 have e2:(BitVec.ofInt 64 4294967295).toNat=2 ^ 32 - 1:=by decide
 rw [show IntKind.u64.bits=64 from rfl,BitVec.toNat_and,e1,e2,Nat.and_two_pow_sub_one_eq_mod,nF (by omega) (by omega)]
 omega
theorem KB {a:Int} (h0:0≤a) (h1:a < 4294967296):a.fdiv (2 ^ (min (32:Int).toNat IntKind.u64.bits))=0:=by
 rw [show (2:Int) ^ (min (32:Int).toNat IntKind.u64.bits)=4294967296 from rfl,Int.fdiv_eq_ediv_of_nonneg _ (by decide)]
 omega
end
end Go.Vc
namespace Go.Proofs.YtjcmcfidblhnnaaGreatDoor
open Tryz
open Go.Vc
variable {w:World} {K:Value→World→Prop}
abbrev JU (n:Int):Value:=.int .u64 n
theorem bAm {c:Int} (h0:0≤c) (h1:c < 4294967296) (hk:K (.tuple #[JU 0,JU c]) w):aB prog 222 #[JU 1,JU c] w K:=by
 apply aTc
 unfold MU
 refine V.ok CN ?_
 rw [aIa (by decide) (by decide)]
 refine V.ok (uY (by decide)) ?_
 rw [KB (by decide) (by decide)]
 refine V.ok CN ?_
 rw [aIa h0 h1]
 refine V.ok (uY (by decide)) ?_
 rw [KB h0 h1]
 refine oO.2 ?_
 rw [nF (by omega) (by omega)]
 refine oO.2 ?_
 rw [nF (by omega) (by omega)]
 refine V.ok (uY (by decide)) ?_
 rw [KB (by omega) (by omega)]
 refine aU.2 ?_
 rw [nF (by omega) (by omega)]
 refine V.ok CN ?_
 rw [aIa (by omega) (by omega)]
 refine V.ok (uY (by decide)) ?_
 rw [KB (by omega) (by omega)]
 refine oO.2 ?_
 rw [nF (by omega) (by omega)]
 refine aU.2 ?_
 rw [nF (by omega) (by omega)]
 refine oO.2 ?_
 rw [nF (by omega) (by omega)]
 refine aU.2 ?_
 rw [nF (by omega) (by omega)]
 refine V.ok (uY (by decide)) ?_
 rw [KB (by omega) (by omega)]
 refine aU.2 ?_
 rw [nF (by omega) (by omega)]
 refine oO.2 ?_
 rw [nF (by omega) (by omega)]
 rw [show (1:Int)*c=c from by omega]
 simp only [Int.mul_zero,Int.add_zero]
 exact hk
theorem bAn {c:Int} (h0:0≤c) (h1:c < 4294967296) (hk:K (.tuple #[JU 0,JU c]) w):aB prog 218 #[JU 1,JU c] w K:=by
 apply aTg
 unfold MX
 exact aP.2 (bAm h0 h1 (gU.2 (gT.2 hk)))
theorem aEk {x:Value} {n k m:Nat} (hk:k≤n) (hm:m≤n - k) (hmk:m≤k):(List.replicate k x++List.replicate (n - k) (i64 0)).take k++(List.replicate k x).take m++(List.replicate k x++List.replicate (n - k) (i64 0)).drop (k+m)=List.replicate (k+m) x++List.replicate (n - (k+m)) (i64 0):=by
 rw [List.take_append_of_le_length (by simp),List.take_of_length_le (by simp),List.take_replicate,Nat.min_eq_left hmk,List.drop_append,List.drop_eq_nil_of_le (by simp),List.nil_append,List.length_replicate,Nat.add_sub_cancel_left,List.drop_replicate,List.replicate_append_replicate,Nat.sub_sub]
set_option maxHeartbeats 1000000 in
theorem aAw {v:Value} {x:Int} {n:Nat} (hv:w.ownsRow w.heap.size 3 1 v 1 [i64 x]∨∃ B,w.ownsRow B 3 1 v 1 [i64 x]) (hn:n≤100000) (hk:∀ g w',bO w' g (List.replicate n (i64 x)) 3→w.heap.size≤g→aF w w'→K (.slice (some ⟨g,0,none⟩) n n) w'):aB prog 182 #[v,i64 (n:Int)] w K:=by
 have hv1:aA w v 1 1 [i64 x]:=by rcases hv with h|⟨B,h⟩<;>exact aA.of_own h
 obtain ⟨b,off,cap,rfl,_⟩:=hv1.there (by decide)
 apply aUr
 unfold OH
 refine ⟨fun w'=>w=w',aY.2 (aD (fun h=>by omega) fun _=>rfl),?_⟩
 rintro _ rfl _
 refine gG aQ hv1 ?_
 refine V.ok (lL underlying3 underlying152) ?_
 rw [nF (by decide) (by decide)]
 refine V.ok (lL underlying3 underlying152) ?_
 rw [nF (by omega) (by omega)]
 refine bAn (by omega) (by omega) (gU.2 (gT.2 ?_))
 refine ⟨fun w'=>w=w',?_,?_⟩
 ·refine iT.2 ?_
  rw [show decide ((0:Int) > 0)=false from rfl]
  refine oV.2 (oV.2 (iT.2 (jX ?_)))
  rw [if_neg (by decide),decide_eq_false (by omega)]
  exact aP.2 rfl
 rintro _ rfl _
 refine V.ok (lL underlying152 underlying3) ?_
 rw [aC (by omega) (by omega)]
 refine mkB underlying23 bY rfl (by omega) (by omega) fun w1 hB x1 _=>?_
 have hlt:=hB.lt
 generalize hg:w.heap.size=g at hB hlt
 have hg0:w.heap.size≤g:=by omega
 refine cpR bB hB (by simp) (hv1.ext x1) rfl fun w2 hB2 f2=>?_
 have hxx:aF w w2:=f2.ext x1 fun i hi=>by omega
 refine ⟨fun v w'=>∃ k:Nat,v=i64 (k:Int)∧k≤n∧(0 < n→0 < k)∧bO w' g (List.replicate k (i64 x)++List.replicate (n - k) (i64 0)) 3∧aF w w',fun v _=>n - (RowKit.intOf v).toNat,⟨min 1 n,rfl,by omega,by omega,?_,hxx⟩,?_⟩
 ·have e:(List.replicate n (i64 0)).take 0++[i64 x].take (min 1 n)++(List.replicate n (i64 0)).drop (0+min 1 n)=List.replicate (min 1 n) (i64 x)++List.replicate (n - min 1 n) (i64 0):=by
   rw [List.take_zero,List.nil_append,Nat.zero_add,List.drop_replicate]
   congr 1
   by_cases h:n=0
   ·subst h;rfl
   ·rw [show min 1 n=1 by omega];rfl
  rw [e] at hB2
  exact hB2
 rintro _ w3 ⟨k,rfl,hkn,hk0,hB3,x3⟩ _
 have hlen:(List.replicate k (i64 x)++List.replicate (n - k) (i64 0)).length=n:=by simp;omega
 have hsl:=hB3.slice (n:=n) hlen (by unfold maxLen;omega)
 refine gG aQ hsl (aY.2 (aD (fun hlt2=>?_) fun hge=>?_))
 ·have D:aF w3 w3.drew:=(aF.refl _).drew
  refine aM.mk' (fun _=>True) trivial ?_
  have lo:∀ w',(Instr.sliceAt 23 (.slice (some ⟨g,0,none⟩) n n) (some (i64 (k:Int))) none none).run prog w'=.ok (.slice (some ⟨g,k,none⟩) (n - k) (n - k)) w':=fun w'=>by
   have h1:k≤n:=hkn
   have h2:¬ n=k:=by omega
   simp [Instr.sliceAt,Instr.slice,run_underlying underlying23,gK bY,Instr.sliceBounds,Instr.sliceBound,asIntOf,h1,h2,lJ]
  have hi:∀ w',(Instr.sliceAt 23 (.slice (some ⟨g,0,none⟩) n n) none (some (i64 (k:Int))) none).run prog w'=.ok (.slice (some ⟨g,0,none⟩) k n) w':=fun w'=>by
   have:=bJm (P:=prog) (w:=w') underlying23 bY (a:=some ⟨g,0,none⟩) (n:=n) (c:=n) (k:=k) hkn
   rw [if_neg (by omega)] at this
   simpa [lJ] using this
  refine aE.ok (fun w' _=>lo w') (aE.ok (fun w' _=>hi w') ?_)
  have hB4:=hB3.ext D
  have hsrc:aA w3.drew (.slice (some ⟨g,0,none⟩) k n) 1 k (List.replicate k (i64 x)):=⟨by simp,.inr ⟨g,0,n,rfl,hkn,by unfold maxLen;omega,fun j u hj=>by
   have hjk:j < k:=by have:=(List.getElem?_eq_some_iff.1 hj).1;simpa using this
   rw [Nat.zero_add,hB4.cell,List.getElem?_append_left (by simpa using hjk)];exact hj⟩⟩
  refine cpR bB hB4 (by rw [hlen];omega) hsrc (by simp [cO]) fun w5 hB5 f5=>⟨trivial,?_⟩
  rw [aEk hkn (by omega) (by omega)] at hB5
  refine aE.ok (fun _ _=>KO) ?_
  rw [aC (by omega) (by omega)]
  exact ⟨⟨k+min k (n - k),by simp,by omega,fun _=>by omega,hB5,f5.ext (x3.trans D) fun i hi=>by omega⟩,by simp only [RowKit.intOf];omega⟩
 ·obtain rfl:k=n:=by omega
  rw [Nat.sub_self,List.replicate_zero,List.append_nil] at hB3
  exact hk g w3 hB3 hg0 x3
end Go.Proofs.YtjcmcfidblhnnaaGreatDoor
namespace Go.Vc
theorem aHb {α:Type} {f:α→List Value} {sz:Nat} (hf:∀ x,(f x).length=sz) {l:List α} {j o:Nat} {x:α} (h:l[j]?=some x) (ho:o < sz):(l.flatMap f)[j*sz+o]?=(f x)[o]?:=by
 rw [← xQ hf h,List.getElem?_take,if_pos ho,List.getElem?_drop]
theorem MA {α:Type} {f:α→List Value} {sz:Nat} (hf:∀ x,(f x).length=sz) {o:Nat} {z:Value} (ho:o < sz):∀ {l:List α} {j:Nat} {x y:α},l[j]?=some x→f y=(f x).set o z→(l.flatMap f).set (j*sz+o) z=(l.set j y).flatMap f
 | [],_,_,_,h,_=>by simp at h
 | a::l,0,x,y,h,he=>by
  simp at h;subst h
  rw [Nat.zero_mul,Nat.zero_add,List.flatMap_cons,List.set_cons_zero,List.flatMap_cons,he,List.set_append_left _ _ (by rw [hf];exact ho)]
 | a::l,j+1,x,y,h,he=>by
  rw [List.flatMap_cons,List.set_cons_succ,List.flatMap_cons,← MA hf ho (l:=l) (j:=j) (by simpa using h) he,List.set_append_right _ _ (by rw [hf,Nat.add_mul];omega),hf]
  congr 2
  rw [Nat.add_mul];omega
end Go.Vc
namespace Go.Proofs.YtjcmcfidblhnnaaGreatDoor
open Tryz
open Go.Vc
variable {w:World} {K:Value→World→Prop}
structure lR where
 x:cF
 f:Nat
 c:List hU
 v:Value
def lR.cells (e:lR):List Value:=e.x.cells++[e.v,i64 (e.f:Int)]
theorem lR.len (e:lR):e.cells.length=13:=by simp [lR.cells,e.x.len]
def TC (l:List lR):List Value:=l.flatMap lR.cells
def kS (l:List lR):List cF:=l.map lR.x
def lA (l:List lR):List Nat:=l.map lR.f
def cF.fix:cF→List hU
 | .one i=>[i]
 | .place _=>[]
 | .jump _ _=>[]
 | .load r n=>rX r n
def cF.isJ:cF→Bool
 | .jump _ _=>true
 | _=>false
structure wI (w:World) (B:Nat) (u:Value) (l:List lR):Prop where
 row:w.ownsRow B 232 13 u l.length (TC l)
 code:∀ e∈l,gE w B e.v e.c
 fix:∀ e∈l,e.x.isJ=false→e.c=e.x.fix
 few:∀ e∈l,e.c.length≤100
theorem wI.ext {w':World} {B:Nat} {u:Value} {l:List lR} (h:wI w B u l) (hx:aF w w'):wI w' B u l:=⟨hx.own h.row,fun e he=>(h.code e he).ext hx,h.fix,h.few⟩
theorem BC {l:List lR} {j:Nat} {e:lR} (h:l[j]?=some e):((TC l).drop (((j:Int)).toNat*13)).take 13=e.cells:=by
 rw [Int.toNat_natCast];exact xQ lR.len h
theorem wI.one {B:Nat} {u:Value} {l:List lR} (h:wI w B u l) {e:lR} (he:e∈l):e.cells.all cO=true:=by
 unfold lR.cells
 rw [List.all_append,sU,Bool.true_and]
 show (cO e.v&&(cO (i64 (e.f:Int))&&true))=true
 rw [nX (h.code e he)];rfl
theorem aHd {x:cF} {f:Nat} (hj:x.isJ=false):jO x.fix=x.size f:=by
 cases x with
 | one i=>simp [cF.fix,jO,cF.size]
 | place l=>rfl
 | jump c q=>cases hj
 | load r n=>rfl
theorem RH (l:List hU) (i:hU):jO (l++[i])=jO l+i.size:=by simp [jO]
theorem KA:∀ l:List hU,jO l≤4*l.length
 | []=>by simp [jO]
 | i::l=>by
  have h1:=KA l
  have h2:i.size≤4:=by unfold hU.size;split<;>omega
  have e:jO (i::l)=i.size+jO l:=by simp [jO]
  rw [e,List.length_cons];omega
set_option maxHeartbeats 1000000 in
theorem aOa {e:lR} {B:Nat} (hc:gE w B e.v e.c) (hf:e.x.isJ=false→e.c=e.x.fix) (hl:e.c.length≤100) (hm:∀ c q,e.x=.jump c q→e.f≤tH c) (hk:∀ w',aF w w'→K (i64 ((e.x.size e.f:Nat):Int)) w'):aB prog 180 #[.agg e.cells.toArray] w K:=by
 apply aUt
 unfold OJ
 refine bx fun b w1 hb x1=>?_
 have hb:bG w1 b e.cells:=hb
 have go:∀ {k:Int},e.cells[0]?=some (i64 k)→k≠3→e.x.isJ=false→V prog (Instr.fieldAt 232 (.pointer (some ⟨b,0,none⟩)) 1) w1 fun t18 w8=>V prog (Instr.loadAt 230 t18) w8 fun t19 w9=>V prog (Builtin.len_ #[230] 3 #[t19]) w9 fun t20 w10=>
   ∃ (I1:NP 2) (μ1:NF 2),I1 (i64 0) (i64 0) w10∧∀ (t3:Value) (t21:Value),∀ w11:World,I1 t3 t21 w11→∀ _f:bN,V prog (binOp .lss 3 t21 t20) w11 fun t22 w12=>aJ t22 (
    V prog (Instr.indexAt 230 t19 t21) w12 fun t23 w13=>V prog (Instr.loadAt 83 t23) w13 fun t24 w14=>V prog (Instr.alloc 83 true (.tuple #[])) w14 fun t5 w15=>U prog (Instr.storeAt 83 t5 t24) w15 fun _ w16=>V prog (Instr.loadAt 83 t5) w16 fun t26 w17=>
    aB prog 213 #[t26] w17 fun t27 w18=>V prog (binOp .add 3 t3 t27) w18 fun t28 w19=>V prog (binOp .add 3 t21 (i64 1)) w19 fun t29 w20=>I1 t28 t29 w20∧μ1 t28 t29 w20 < μ1 t3 t21 w11) (K t3 w12):=fun {k} hk0 hk3 hj=>by
  have hv:e.cells[11]?=some e.v:=by unfold lR.cells;rw [List.getElem?_append_right (by rw [e.x.len];decide),e.x.len];rfl
  refine bF hb fP jC hv (gG vI (aA.of_own (hc.ext x1)) ?_)
  refine ⟨fun s v w'=>∃ j:Nat,v=i64 j∧j≤e.c.length∧s=i64 ((jO (e.c.take j):Nat):Int)∧aF w w',fun _ v _=>e.c.length - (RowKit.intOf v).toNat,⟨0,rfl,Nat.zero_le _,rfl,x1⟩,?_⟩
  rintro _ _ w2 ⟨j,rfl,hj2,rfl,x2⟩ _
  refine aY.2 (aD (fun hlt=>?_) fun hge=>?_)
  ·obtain ⟨i,hi⟩:=bC (l:=e.c) (j:=j) (by omega)
   refine uV vI qB (aA.of_own (hc.ext x2)) (by omega) (by omega) (AU hi) rfl ?_
   refine sI aYf rfl rfl fun w3 h5 x3=>?_
   have h5:bG w3 w2.heap.size i.cells:=bO.boxed h5
   refine iQ h5 qB rfl (UP fun w4 x4=>aU.2 ?_)
   have hs:=KA (e.c.take j)
   have hs2:i.size≤4:=by unfold hU.size;split<;>omega
   have hle:(e.c.take j).length≤100:=by rw [List.length_take];omega
   rw [aC (by omega) (by omega)]
   refine aU.2 ?_
   rw [aC (by omega) (by omega),aR]
   refine ⟨⟨j+1,rfl,by omega,?_,(x2.trans x3).trans x4⟩,by simp only [aL];omega⟩
   rw [List.take_add_one,hi,show (some i).toList=[i] from rfl,RH];simp
  ·have ee:e.c.take j=e.c:=List.take_of_length_le (by omega)
   rw [ee,hf hj,aHd (f:=e.f) hj]
   exact hk w2 x2
 cases hx:e.x with
 | jump c q=>
  have hcs:e.cells=[i64 3,i64 0,i64 0,i64 0,i64 0,i64 0,i64 0,i64 q,i64 c,i64 0,i32 0,e.v,i64 (e.f:Int)]:=by unfold lR.cells;rw [hx];rfl
  rw [hcs] at hb
  refine rO hb bQ bA aH rfl (aK.2 (aD (fun _=>?_) fun h=>absurd rfl h))
  have D:aF w1 w1.drew:=(aF.refl _).drew
  refine aM.mk' (fun w'=>aF w1.drew w') (aF.refl _) ?_
  refine yB2 (fun w' hx=>(hb.ext D).ext hx) bQ eB aH rfl ?_
  refine jM (fun w' hx=>(hb.ext D).ext hx) fV aH rfl ?_
  refine aHa fun v w2 hv x2=>⟨x2,?_⟩
  have hfm:=hm c q hx
  have hget:∃ z,(IY c)[e.f]?=some z∧z=2+2*(e.f:Int):=by
   unfold tH at hfm
   unfold IY
   by_cases h14:c=14
   ·rw [if_pos h14] at hfm ⊢
    have:e.f=0∨e.f=1:=by omega
    rcases this with h|h<;>rw [h]<;>exact ⟨_,rfl,by decide⟩
   ·rw [if_neg h14] at hfm ⊢
    have:e.f=0∨e.f=1∨e.f=2:=by omega
    rcases this with h|h|h<;>rw [h]<;>exact ⟨_,rfl,by decide⟩
  obtain ⟨z,hz,hze⟩:=hget
  have hlt:=(List.getElem?_eq_some_iff.1 hz).1
  refine ⟨fun w'=>aF w2 w',fun _ h=>x2.trans h,aF.refl _,?_⟩
  refine nR aQ aH hv (fun w' h=>h) (by omega) (by omega) (cG hz) ?_
  have:=hk w2 ((x1.trans D).trans x2)
  rw [hx] at this
  rw [hze]
  have e2:((cF.size (.jump c q) e.f:Nat):Int)=2+2*(e.f:Int):=by show ((2+2*e.f:Nat):Int)=_;omega
  rw [e2] at this
  exact this
 | one i=>
  have h0:e.cells[0]?=some (i64 1):=by unfold lR.cells;rw [hx];rfl
  refine rO hb bQ bA aH h0 (aK.2 (aD (fun h=>absurd h (by decide)) fun _=>?_))
  exact go h0 (by decide) (by rw [hx];rfl)
 | place q=>
  have h0:e.cells[0]?=some (i64 2):=by unfold lR.cells;rw [hx];rfl
  refine rO hb bQ bA aH h0 (aK.2 (aD (fun h=>absurd h (by decide)) fun _=>?_))
  exact go h0 (by decide) (by rw [hx];rfl)
 | load r n=>
  have h0:e.cells[0]?=some (i64 4):=by unfold lR.cells;rw [hx];rfl
  refine rO hb bQ bA aH h0 (aK.2 (aD (fun h=>absurd h (by decide)) fun _=>?_))
  exact go h0 (by decide) (by rw [hx];rfl)
def kU (l:List lR) (n:Nat):List Int:=(List.range n).map fun (k:Nat)=>((sH (kS l) (lA l) k:Nat):Int)
theorem vK {l:List lR} {n k:Nat} (h:k < n):(kU l n)[k]?=some ((sH (kS l) (lA l) k:Nat):Int):=by
 unfold kU;rw [List.getElem?_map,List.getElem?_range h];rfl
theorem pM (l:List lR) (n:Nat):(kU l n).length=n:=by simp [kU]
theorem zP {l:List lR} {j:Nat} {e:lR} (h:l[j]?=some e):(kS l)[j]?=some e.x∧(lA l).getD j 0=e.f:=by
 unfold kS lA
 rw [List.getElem?_map,h,List.getD_eq_getElem?_getD,List.getElem?_map,h]
 exact ⟨rfl,rfl⟩
theorem zO.most {l:List lR} (h:zO (kS l) (lA l)) {j:Nat} {e:lR} (he:l[j]?=some e):∀ c q,e.x=.jump c q→e.f≤tH c:=fun c q hx=>by
 obtain ⟨h1,h2⟩:=zP he
 rw [← h2];exact h.jump j c q (by rw [h1,hx])
theorem FK {B:Nat} {u:Value} {l:List lR} (h:wI w B u l) (hf:zO (kS l) (lA l)) (hl:l.length≤6000) (hk:∀ v w',w'.ownsRow w.heap.size 3 1 v (l.length+1) ((kU l (l.length+1)).map i64)→aF w w'→K v w'):aB prog 123 #[u] w K:=by
 apply aWz
 unfold QK
 have hxl:(kS l).length=l.length:=by simp [kS]
 have hfl:(lA l).length=(kS l).length:=by simp [kS,lA]
 refine jT bB [i64 0] rfl rfl (by simp) rfl fun v0 w1 ho x1=>?_
 refine gG rK (aA.of_own (h.ext x1).row) ?_
 refine ⟨fun v a k w'=>∃ j:Nat,k=i64 j∧j≤l.length∧a=i64 ((sH (kS l) (lA l) j:Nat):Int)∧w'.ownsRow w.heap.size 3 1 v (j+1) ((kU l (j+1)).map i64)∧aF w w',fun _ _ k _=>l.length - (RowKit.intOf k).toNat,⟨0,rfl,Nat.zero_le _,rfl,ho,x1⟩,?_⟩
 rintro v _ _ w2 ⟨j,rfl,hj,rfl,hv,x2⟩ _
 refine aY.2 (aD (fun hlt=>?_) fun hge=>?_)
 ·obtain ⟨e,he⟩:=bC (l:=l) (j:=j) (by omega)
  have hem:=List.mem_of_getElem? he
  have h2:=h.ext x2
  refine uV rK zE (aA.of_own h2.row) (by omega) (by omega) (BC he) e.len ?_
  refine sI BZ (by simpa [Value.cells] using e.len) (by simpa [Value.cells] using h.one hem) fun w3 h6 x3=>?_
  have h6:bG w3 w2.heap.size e.cells:=bO.boxed h6
  refine iQ h6 zE e.len ?_
  refine aOa ((h2.code e hem).ext x3) (h.fix e hem) (h.few e hem) (hf.most he) fun w4 x4=>aU.2 ?_
  obtain ⟨q1,q2⟩:=zP he
  have ha:=yB hfl q1
  rw [q2] at ha
  have hb:=hf.at_le (j+1)
  rw [aC (by omega) (by omega)]
  have ea:((sH (kS l) (lA l) j:Nat):Int)+((e.x.size e.f:Nat):Int)=((sH (kS l) (lA l) (j+1):Nat):Int):=by rw [ha];omega
  rw [ea]
  refine jT bB [i64 ((sH (kS l) (lA l) (j+1):Nat):Int)] rfl rfl (by simp) rfl fun v5 w5 ho5 x5=>?_
  have x25:=(x3.trans x4).trans x5
  have s2:=x2.size;have s25:=x25.size
  refine apG underlying23 bY rfl (by decide) (x25.own hv) (aA.of_own ho5) rfl (by omega) (by unfold maxLen;omega) (by omega) fun v6 w6 ho6 hg6 _=>aU.2 ?_
  rw [aC (by omega) (by omega),aR]
  refine ⟨⟨j+1,rfl,by omega,rfl,?_,(x2.trans x25).grown hg6 fun k hk=>(hv.lt k hk).1⟩,by simp only [aL];omega⟩
  have es:(kU l (j+1)).map i64++[i64 ((sH (kS l) (lA l) (j+1):Nat):Int)]=(kU l (j+1+1)).map i64:=by
   unfold kU;rw [List.range_succ (n:=j+1),List.map_append,List.map_append];rfl
  rw [es] at ho6
  exact ho6
 ·obtain rfl:j=l.length:=by omega
  exact hk v w2 hv x2
def oA (l:List cF) (f:List Nat) (n j:Nat):List Value:=(List.range n).map fun (q:Nat)=>i64 (xJ l f (q:Int) j)
theorem oS (l:List cF) (f:List Nat) (n j:Nat):(oA l f n j).length=n:=by simp [oA]
theorem uR {l:List cF} {f:List Nat} {n j q:Nat} (h:q < n):(oA l f n j)[q]?=some (i64 (xJ l f (q:Int) j)):=by
 unfold oA;rw [List.getElem?_map,List.getElem?_range h];rfl
theorem IK {l:List cF} {f:List Nat} {n j q:Nat} (hx:l[j]?=some (.place q)) (hq:q < n):(oA l f n j).set q (i64 (sH l f j:Int))=oA l f n (j+1):=by
 apply List.ext_getElem?
 intro k
 by_cases hk:k < n
 ·rw [List.getElem?_set,uR hk,uR hk]
  have e:xJ l f (k:Int) (j+1)=if (q:Int)=(k:Int) then (sH l f j:Int) else xJ l f (k:Int) j:=by rw [xJ,hx]
  rw [e]
  by_cases hqk:q=k
  ·subst hqk;rw [if_pos rfl,if_pos (by rw [oS];exact hq),if_pos rfl]
  ·rw [if_neg hqk,if_neg (by omega)]
 ·rw [List.getElem?_eq_none (by rw [List.length_set,oS];omega),List.getElem?_eq_none (by rw [oS];omega)]
theorem sR {l:List cF} {f:List Nat} {n j:Nat} {x:cF} (hx:l[j]?=some x) (hp:x.pl=[]):oA l f n (j+1)=oA l f n j:=by
 unfold oA
 refine List.map_congr_left fun q _=>?_
 rw [xJ,hx]
 cases x with
 | place q'=>simp [cF.pl] at hp
 | _=>rfl
theorem LG (l:List cF) (f:List Nat) (n:Nat):oA l f n 0=List.replicate n (i64 (-1)):=by
 apply List.ext_getElem?
 intro k
 by_cases hk:k < n
 ·rw [uR hk,List.getElem?_replicate_of_lt hk];rfl
 ·rw [List.getElem?_eq_none (by rw [oS];omega),List.getElem?_eq_none (by rw [List.length_replicate];omega)]
set_option maxHeartbeats 1000000 in
theorem GH {B:Nat} {u atv:Value} {l:List lR} (h:wI w B u l) (hl:l.length≤6000) (hok:∀ x∈kS l,x.okI) (ha:aN w atv (kU l (l.length+1)))
  (hk:∀ g (n:Nat) w',w.heap.size≤g→(∀ q:Nat,(q:Int)∈jV (kS l)→q < n)→n≤2001→bO w' g (oA (kS l) (lA l) n l.length) 3→aF w w'→K (.slice (some ⟨g,0,none⟩) n n) w'):aB prog 125 #[u,atv] w K:=by
 apply aWx
 unfold QI
 have xtake:∀ {j:Nat} {e:lR},l[j]?=some e→(kS l).take (j+1)=(kS l).take j++[e.x]:=fun {j e} he=>by rw [List.take_add_one,(zP he).1];rfl
 refine gG rK (aA.of_own h.row) ?_
 refine ⟨fun m k w'=>∃ (j:Nat) (mx:Int),k=i64 j∧m=i64 mx∧j≤l.length∧-1≤mx∧mx≤2000∧(∀ q∈jV ((kS l).take j),q≤mx)∧aF w w',fun _ k _=>l.length - (RowKit.intOf k).toNat,⟨0,-1,rfl,rfl,Nat.zero_le _,by decide,by decide,fun q hq=>by simp [jV] at hq,aF.refl _⟩,?_⟩
 rintro _ _ w1 ⟨j,mx,rfl,rfl,hj,hm1,hm2,hmx,x1⟩ _
 refine aY.2 (aD (fun hlt=>?_) fun hge=>?_)
 ·obtain ⟨e,he⟩:=bC (l:=l) (j:=j) (by omega)
  have hem:=List.mem_of_getElem? he
  have h1:=h.ext x1
  refine uV rK zE (aA.of_own h1.row) (by omega) (by omega) (BC he) e.len ?_
  refine sI BZ (by simpa [Value.cells] using e.len) (by simpa [Value.cells] using h.one hem) fun w2 h7 x2=>?_
  have h7:bG w2 w1.heap.size e.cells:=bO.boxed h7
  have hoi:=hok e.x (List.mem_map.2 ⟨e,hem,rfl⟩)
  have nx:∀ {m':Int},-1≤m'→m'≤2000→(∀ q∈jV ((kS l).take (j+1)),q≤m')→V prog (binOp .add 3 (i64 j) (i64 1)) w2 fun t w3=>(∃ (j:Nat) (mx:Int),t=i64 j∧i64 m'=i64 mx∧j≤l.length∧-1≤mx∧mx≤2000∧(∀ q∈jV ((kS l).take j),q≤mx)∧aF w w3)∧l.length - (RowKit.intOf t).toNat < l.length - (RowKit.intOf (i64 (j:Int))).toNat:=fun h1 h2 h3=>by
   refine aU.2 ?_
   rw [aC (by omega) (by omega),aR]
   exact ⟨⟨j+1,_,rfl,rfl,by omega,h1,h2,h3,x1.trans x2⟩,by simp only [aL];omega⟩
  have oth:e.x.pl=[]→∀ q∈jV ((kS l).take (j+1)),q≤mx:=fun hp q hq=>by
   rw [xtake he,qS,show jV [e.x]=[] from by simp [jV,hp],List.append_nil] at hq
   exact hmx q hq
  cases hx:e.x with
  | place q=>
   have hcs:e.cells=[i64 2,i64 0,i64 0,i64 0,i64 0,i64 0,i64 0,i64 q,i64 0,i64 0,i32 0,e.v,i64 (e.f:Int)]:=by unfold lR.cells;rw [hx];rfl
   rw [hcs] at h7
   rw [hx] at hoi
   have hq:0≤q∧q≤2000:=hoi
   refine rO h7 bQ bA aH rfl (aK.2 (aD (fun _=>?_) fun h=>absurd rfl h))
   refine rO h7 bQ bZ aH rfl (mx2 fun c hc h1 h2=>?_)
   refine nx (by omega) (by omega) fun q' hq'=>?_
   rw [xtake he,qS,hx,show jV [cF.place q]=[q] from rfl] at hq'
   rcases List.mem_append.1 hq' with h|h
   ·have:=hmx q' h;omega
   ·rw [List.mem_singleton] at h;omega
  | one i=>
   have h0:e.cells[0]?=some (i64 1):=by unfold lR.cells;rw [hx];rfl
   refine rO h7 bQ bA aH h0 (aK.2 (aD (fun h=>absurd h (by decide)) fun _=>nx hm1 hm2 (oth (by rw [hx];rfl))))
  | jump c q=>
   have h0:e.cells[0]?=some (i64 3):=by unfold lR.cells;rw [hx];rfl
   refine rO h7 bQ bA aH h0 (aK.2 (aD (fun h=>absurd h (by decide)) fun _=>nx hm1 hm2 (oth (by rw [hx];rfl))))
  | load r n=>
   have h0:e.cells[0]?=some (i64 4):=by unfold lR.cells;rw [hx];rfl
   refine rO h7 bQ bA aH h0 (aK.2 (aD (fun h=>absurd h (by decide)) fun _=>nx hm1 hm2 (oth (by rw [hx];rfl))))
 have ee:(kS l).take j=kS l:=List.take_of_length_le (by simp [kS];omega)
 rw [ee] at hmx
 clear hge ee
 refine jT bB [i64 (-1)] rfl rfl (by simp) rfl fun v2 w2 ho2 x2=>aU.2 ?_
 rw [aC (by omega) (by omega)]
 obtain ⟨n,hn⟩:∃ n:Nat,mx+1=n:=⟨(mx+1).toNat,by omega⟩
 rw [hn]
 refine aAw (.inr ⟨_,ho2⟩) (by omega) fun g w3 hB hg x3=>?_
 rw [← LG (kS l) (lA l)] at hB
 have x13:=x2.trans x3
 have x03:=x1.trans x13
 have hgw:w.heap.size≤g:=by have:=x1.size;have:=x2.size;omega
 refine gG rK (aA.of_own (h.ext x03).row) ?_
 refine ⟨fun k w'=>∃ j:Nat,k=i64 j∧j≤l.length∧bO w' g (oA (kS l) (lA l) n j) 3∧aF w w',fun k _=>l.length - (RowKit.intOf k).toNat,⟨0,rfl,Nat.zero_le _,hB,x03⟩,?_⟩
 rintro _ w4 ⟨j,rfl,hj,hB4,x4⟩ _
 refine aY.2 (aD (fun hlt=>?_) fun hge=>?_)
 ·obtain ⟨e,he⟩:=bC (l:=l) (j:=j) (by omega)
  have hem:=List.mem_of_getElem? he
  have hxe:=(zP he).1
  have h4:=h.ext x4
  refine uV rK zE (aA.of_own h4.row) (by omega) (by omega) (BC he) e.len ?_
  refine sI BZ (by simpa [Value.cells] using e.len) (by simpa [Value.cells] using h.one hem) fun w5 h10 x5=>?_
  have h10:bG w5 w4.heap.size e.cells:=bO.boxed h10
  have x05:=x4.trans x5
  have hB5:=hB4.ext x5
  have nx:∀ {w'},aF w w'→bO w' g (oA (kS l) (lA l) n (j+1)) 3→V prog (binOp .add 3 (i64 j) (i64 1)) w' fun t w3=>(∃ j:Nat,t=i64 j∧j≤l.length∧bO w3 g (oA (kS l) (lA l) n j) 3∧aF w w3)∧l.length - (RowKit.intOf t).toNat < l.length - (RowKit.intOf (i64 (j:Int))).toNat:=fun h1 h2=>by
   refine aU.2 ?_
   rw [aC (by omega) (by omega),aR]
   exact ⟨⟨j+1,rfl,by omega,h2,h1⟩,by simp only [aL];omega⟩
  cases hx:e.x with
  | place q=>
   rw [hx] at hxe
   have hcs:e.cells=[i64 2,i64 0,i64 0,i64 0,i64 0,i64 0,i64 0,i64 q,i64 0,i64 0,i32 0,e.v,i64 (e.f:Int)]:=by unfold lR.cells;rw [hx];rfl
   rw [hcs] at h10
   have hqm:q∈jV (kS l):=List.mem_flatMap.2 ⟨_,List.mem_of_getElem? hxe,List.mem_singleton.2 rfl⟩
   have hq0:0≤q∧q≤2000:=by have:=hok e.x (List.mem_map.2 ⟨e,hem,rfl⟩);rw [hx] at this;exact this
   obtain ⟨q,rfl⟩:=kH hq0.1
   have hqn:q < n:=by have:=hmx _ hqm;omega
   refine rO h10 bQ bA aH rfl (aK.2 (aD (fun _=>?_) fun h=>absurd rfl h))
   have D:aF w5 w5.drew:=(aF.refl _).drew
   refine aM.mk' (fun w'=>aF w5.drew w') (aF.refl _) ?_
   refine yB2 (fun w' hx=>(h10.ext D).ext hx) bQ bZ aH rfl ?_
   refine nR aQ aH (ha.ext (x05.trans D)) (fun _ h=>h) (by omega) (by rw [pM];omega) (cG (vK (by omega))) ?_
   refine aE.ok (fun w' _=>jP underlying23 bY (by omega) (by omega)) ?_
   rw [Int.toNat_natCast]
   refine JY bY (hB5.ext D) (by rw [oS];exact hqn) rfl ?_
   have hs:=(hB5.ext D).set q (i64 ((sH (kS l) (lA l) j:Nat):Int))
   rw [IK hxe hqn] at hs
   exact nx ((x05.trans D).setCell hgw _) hs
  | one i=>
   have h0:e.cells[0]?=some (i64 1):=by unfold lR.cells;rw [hx];rfl
   refine rO h10 bQ bA aH h0 (aK.2 (aD (fun h=>absurd h (by decide)) fun _=>nx x05 (by rw [sR hxe (by rw [hx];rfl)];exact hB5)))
  | jump c q=>
   have h0:e.cells[0]?=some (i64 3):=by unfold lR.cells;rw [hx];rfl
   refine rO h10 bQ bA aH h0 (aK.2 (aD (fun h=>absurd h (by decide)) fun _=>nx x05 (by rw [sR hxe (by rw [hx];rfl)];exact hB5)))
  | load r n'=>
   have h0:e.cells[0]?=some (i64 4):=by unfold lR.cells;rw [hx];rfl
   refine rO h10 bQ bA aH h0 (aK.2 (aD (fun h=>absurd h (by decide)) fun _=>nx x05 (by rw [sR hxe (by rw [hx];rfl)];exact hB5)))
 ·obtain rfl:j=l.length:=by omega
  exact hk g n w4 hgw (fun q hq=>by have:=hmx _ hq;omega) (by omega) hB4 x4
theorem wI.at_ {B g cap:Nat} {l:List lR} (h:wI w B (.slice (some ⟨g,0,none⟩) l.length cap) l) {j o:Nat} {e:lR} {z:Value} (he:l[j]?=some e) (hz:e.cells[o]?=some z):w.cell? ⟨g,j*13+o,none⟩=some z:=by
 have ho:o < 13:=by have:=(List.getElem?_eq_some_iff.1 hz).1;rw [e.len] at this;exact this
 have hj:=(List.getElem?_eq_some_iff.1 he).1
 rw [h.row.cellAt (j*13+o) (by have:(j+1)*13≤l.length*13:=Nat.mul_le_mul_right _ hj;omega)]
 unfold TC
 rw [aHb lR.len he ho];exact hz
theorem wI.put {B g cap:Nat} {l:List lR} (h:wI w B (.slice (some ⟨g,0,none⟩) l.length cap) l) {t j o by_:Nat} {e e':lR} {zz z:Value} {K':World→Prop} (hi:dA prog t zz 1 by_) (he:l[j]?=some e) (hc:e'.cells=e.cells.set o z) (ho:o < 13) (hz:cO z=true) (h2:gE w B e'.v e'.c) (h3:e'.x.isJ=false→e'.c=e'.x.fix) (h4:e'.c.length≤100)
  (hk:∀ w',wI w' B (.slice (some ⟨g,0,none⟩) l.length cap) (l.set j e')→Fr (fun k=>k=g) w w'→K' w'):U prog (Instr.storeAt t (.pointer (some ⟨g,j*13+o,none⟩)) z) w fun _ w'=>K' w':=by
 have hu:∃ u,e.cells[o]?=some u:=bC (by rw [e.len];exact ho)
 obtain ⟨u,hu⟩:=hu
 have hold:=h.at_ he hu
 obtain ⟨s1,s2⟩:=h.row.stored (j*13+o) z
 have f:Fr (fun k=>k=g) w (w.setCell ⟨g,j*13+o,none⟩ z):=Fr.of_grown s2 fun k hk=>by cases hk;rfl
 have kp:∀ {v:Value} {c:List hU},gE w B v c→gE (w.setCell ⟨g,j*13+o,none⟩ z) B v c:=fun {v c} ht=>f.own ht fun k hk hS=>by
  rcases yZ ht h.row (by decide) with h1|h1
  ·rw [h1] at hk;cases hk
  ·exact h1 (by rw [hk,hS];rfl)
 refine U.ok (mO hi hz hold (h.row.frozenAt _)) (hk _ ⟨?_,fun x hx=>?_,fun x hx=>?_,fun x hx=>?_⟩ f)
 ·rw [List.length_set]
  unfold TC at s1 ⊢
  rw [MA lR.len ho he hc] at s1
  exact s1
 ·rcases List.mem_or_eq_of_mem_set hx with hx|rfl
  ·exact kp (h.code x hx)
  ·exact kp h2
 ·rcases List.mem_or_eq_of_mem_set hx with hx|rfl
  ·exact h.fix x hx
  ·exact h3
 ·rcases List.mem_or_eq_of_mem_set hx with hx|rfl
  ·exact h.few x hx
  ·exact h4
theorem SJ {c a b:Int} {f:Nat}:∀ i∈mH c f a b,EV i:=by
 intro i hi
 have aw:∀ {f:Nat} {a b:Int},∀ i∈oJ f a b,EV i:=fun {f a b} i hi=>by
  unfold oJ at hi
  rw [List.mem_singleton] at hi
  subst hi
  refine ⟨fun e=>?_,fun _=>⟨rfl,rfl,rfl,rfl⟩⟩
  dsimp only at e;split at e<;>omega
 unfold mH at hi
 split at hi
 ·exact aw i hi
 ·split at hi
  ·rw [List.mem_singleton] at hi
   subst hi
   exact ⟨fun e=>by dsimp only at e;omega,fun e=>by dsimp only at e;omega⟩
  ·rcases List.mem_cons.1 hi with rfl|hi
   ·exact ⟨fun e=>by dsimp only at e;omega,fun e=>by dsimp only at e;omega⟩
   ·exact aw i hi
theorem uS {c a b:Int} {f:Nat}:(mH c f a b).length≤2:=by
 unfold mH
 split
 ·simp [oJ]
 ·split<;>simp [oJ]
structure tP (l l':List lR) (j:Nat):Prop where
 len:l'.length=l.length
 at_:∀ (k:Nat) e,l[k]?=some e→∃ e',l'[k]?=some e'∧e'.x=e.x∧(k < j→e'.f=(rF (kS l) (lA l)).getD k 0∧e'.c=e.x.codeK e.f (sH (kS l) (lA l) k) (CZ (kS l) (lA l)))∧(j≤k→e'=e)
theorem tP.zero (l:List lR):tP l l 0:=⟨rfl,fun k e he=>⟨e,he,rfl,fun h=>by omega,fun _=>rfl⟩⟩
theorem tP.xs {l l':List lR} {j:Nat} (h:tP l l' j):kS l'=kS l:=by
 apply List.ext_getElem?
 intro k
 unfold kS
 rw [List.getElem?_map,List.getElem?_map]
 cases he:l[k]? with
 | none=>
  have:=h.len
  rw [List.getElem?_eq_none (by have:=List.getElem?_eq_none_iff.1 he;omega)]
 | some e=>
  obtain ⟨e',h1,h2,_⟩:=h.at_ k e he
  rw [h1];simp [h2]
theorem tP.fs {l l':List lR} (h:tP l l' l.length):lA l'=rF (kS l) (lA l):=by
 apply List.ext_getElem
 ·rw [mT];simp [lA,h.len]
 ·intro k h1 h2
  have hk:k < l.length:=by have:=h.len;simp [lA] at h1;omega
  obtain ⟨e,he⟩:=bC hk
  obtain ⟨e',q1,_,q3,_⟩:=h.at_ k e he
  have q4:=(q3 hk).1
  rw [List.getD_eq_getElem?_getD,List.getElem?_eq_getElem h2] at q4
  have q5:=(zP q1).2
  rw [List.getD_eq_getElem?_getD,List.getElem?_eq_getElem h1] at q5
  simp only [Option.getD_some] at q4 q5
  rw [q5,q4]
theorem tP.next {l l':List lR} {j:Nat} (h:tP l l' j) {e e':lR} (he:l[j]?=some e) (h1:e'.x=e.x) (h2:e'.f=(rF (kS l) (lA l)).getD j 0) (h3:e'.c=e.x.codeK e.f (sH (kS l) (lA l) j) (CZ (kS l) (lA l))):tP l (l'.set j e') (j+1):=by
 refine ⟨by rw [List.length_set];exact h.len,fun k y hy=>?_⟩
 have hj:j < l'.length:=by rw [h.len];exact (List.getElem?_eq_some_iff.1 he).1
 rw [List.getElem?_set]
 by_cases hk:j=k
 ·subst hk
  rw [if_pos rfl,if_pos hj]
  rw [he] at hy;cases hy
  exact ⟨e',rfl,h1,fun _=>⟨h2,h3⟩,fun hh=>by omega⟩
 ·rw [if_neg hk]
  obtain ⟨y',q1,q2,q3,q4⟩:=h.at_ k y hy
  exact ⟨y',q1,q2,fun hh=>q3 (by omega),fun hh=>q4 (by omega)⟩
theorem tP.skip {l l':List lR} {j:Nat} (h:tP l l' j) {e:lR} (he:l[j]?=some e) (h2:e.f=(rF (kS l) (lA l)).getD j 0) (h3:e.c=e.x.codeK e.f (sH (kS l) (lA l) j) (CZ (kS l) (lA l))):tP l l' (j+1):=by
 refine ⟨h.len,fun k y hy=>?_⟩
 obtain ⟨y',q1,q2,q3,q4⟩:=h.at_ k y hy
 refine ⟨y',q1,q2,fun hh=>?_,fun hh=>q4 (by omega)⟩
 by_cases hk:k=j
 ·subst hk
  rw [he] at hy;cases hy
  obtain rfl:=q4 (Nat.le_refl _)
  exact ⟨h2,h3⟩
 ·exact q3 (by omega)
set_option maxHeartbeats 2000000 in
theorem bBy {B:Nat} {u:Value} {l:List lR} (h:wI w B u l) (ho:tL (kS l)) (hf:zO (kS l) (lA l)) (hB:B≤w.heap.size)
  (hk:∀ (b:Bool) l' w',wI w' B u l'→tP l l' l.length→(b=true↔∃ k,k < l.length∧iU (kS l) (lA l) k=false)→(∀ w0,aF w0 w→w0.heap.size≤B→aF w0 w')→K (.bool b) w'):aB prog 122 #[u] w K:=by
 apply aXa
 unfold QM
 have hlx:(kS l).length=l.length:=by simp [kS]
 have hl:l.length≤6000:=by have:=ho.len;omega
 refine FK h hf hl fun atv w1 hat x1=>?_
 have hatI:aN w1 atv (kU l (l.length+1)):=by unfold aN;rw [pM];exact aA.of_own hat
 refine GH (h.ext x1) hl ho.ok hatI fun gL n w2 hgL hqn hn hL x2=>?_
 have x02:=x1.trans x2
 have h2:=h.ext x02
 have hat2:=x2.own hat
 refine gG rK (aA.of_own h2.row) ?_
 have hs1:=x1.size;have hs2:=x2.size
 refine ⟨fun b k w'=>∃ (j:Nat) (bb:Bool) (l':List lR),k=i64 j∧b=.bool bb∧j≤l.length∧wI w' B u l'∧tP l l' j∧(bb=true↔∃ k,k < j∧iU (kS l) (lA l) k=false)∧Fr (fun k=>u.ownBlock=some k) w2 w',fun _ k _=>l.length - (RowKit.intOf k).toNat,⟨0,false,l,rfl,rfl,Nat.zero_le _,h2,tP.zero l,⟨fun h=>(by cases h),fun ⟨k,hk,_⟩=>(by omega)⟩,Fr.refl _ _⟩,?_⟩
 rintro _ _ w3 ⟨j,bb,l',rfl,rfl,hj,h3,hfit,hbb,f3⟩ _
 have x3:∀ w0,aF w0 w→w0.heap.size≤B→aF w0 w3:=fun w0 hx hs=>f3.ext (hx.trans x02) fun i hi=>by have:=(h.row.lt i hi).1;omega
 refine aY.2 (aD (fun hlt=>?_) fun hge=>?_)
 ·obtain ⟨e,he⟩:=bC (l:=l) (j:=j) (by omega)
  obtain ⟨e1,he1,_,_,hsame⟩:=hfit.at_ j e he
  obtain rfl:=hsame (Nat.le_refl _)
  obtain ⟨hxe,hfe⟩:=zP he
  have hem:=List.mem_of_getElem? he
  have hll:=hfit.len
  obtain ⟨g,cap,rfl⟩:∃ g cap,u=.slice (some ⟨g,0,none⟩) l'.length cap:=by
   rcases h3.row.2 with ⟨_,e0⟩|⟨g',c',_,rfl,_⟩
   ·omega
   ·exact ⟨g',c',rfl⟩
  have hgB:=h3.row.lt g rfl
  have hgw:g < w.heap.size:=by
   have:=h.row.2
   rcases this with ⟨e0,_⟩|⟨g',c',_,e0,_⟩
   ·cases e0
   ·exact (h.row.lt g rfl).2
  have hgk:rF (kS l) (lA l)=rF (kS l) (lA l):=rfl
  have hgr:(rF (kS l) (lA l)).getD j 0=if iU (kS l) (lA l) j then e1.f else e1.f+1:=by rw [oT _ _ (by simp [lA];omega),hfe]
  refine V.ok (jP underlying229 vV (by omega) (by rw [hll];omega)) ?_
  rw [show (0+((j:Int)).toNat*13:Nat)=j*13 from by simp]
  obtain ⟨d,hd,had⟩:=aH.ex
  obtain ⟨d2,hd2,had2⟩:=jC.ex
  have step:∀ {w':World} {b':Bool} {l2:List lR},wI w' B (.slice (some ⟨g,0,none⟩) l'.length cap) l2→tP l l2 (j+1)→b'=(bb||!iU (kS l) (lA l) j)→Fr (fun k=>k=g) w2 w'→V prog (binOp .add 3 (i64 j) (i64 1)) w' fun t w4=>(∃ (j:Nat) (bb:Bool) (l2:List lR),t=i64 j∧Value.bool b'=.bool bb∧j≤l.length∧wI w4 B (.slice (some ⟨g,0,none⟩) l'.length cap) l2∧tP l l2 j∧(bb=true↔∃ k,k < j∧iU (kS l) (lA l) k=false)∧Fr (fun k=>(Value.slice (some ⟨g,0,none⟩) l'.length cap).ownBlock=some k) w2 w4)∧l.length - (RowKit.intOf t).toNat < l.length - (RowKit.intOf (i64 (j:Int))).toNat:=fun q1 q2 q3 q4=>by
   refine aU.2 ?_
   rw [aC (by omega) (by omega),aR]
   refine ⟨⟨j+1,_,_,rfl,rfl,by omega,q1,q2,?_,q4.mono fun k hk=>by subst hk;rfl⟩,by simp only [aL];omega⟩
   rw [q3,Bool.or_eq_true,hbb]
   constructor
   ·rintro (⟨k,hk,hr⟩|hr)
    ·exact ⟨k,by omega,hr⟩
    ·exact ⟨j,by omega,by simpa using hr⟩
   ·rintro ⟨k,hk,hr⟩
    by_cases hkj:k=j
    ·subst hkj;right;simp [hr]
    ·exact .inl ⟨k,by omega,hr⟩
  have f3':Fr (fun k=>k=g) w2 w3:=f3.mono fun k hk=>by cases hk;rfl
  have skip:e1.x.isJ=false→tP l l' (j+1)∧iU (kS l) (lA l) j=true:=fun hj0=>by
   have hr:iU (kS l) (lA l) j=true:=by
    unfold iU;rw [hxe]
    cases hx:e1.x with
    | jump c q=>rw [hx] at hj0;cases hj0
    | _=>rfl
   refine ⟨hfit.skip he (by rw [hgr,hr];rfl) ?_,hr⟩
   rw [h.fix e1 hem hj0]
   cases hx:e1.x with
   | jump c q=>rw [hx] at hj0;cases hj0
   | _=>rfl
  cases hx:e1.x with
  | one i=>
   obtain ⟨q1,q2⟩:=skip (by rw [hx];rfl)
   have h0:e1.cells[0]?=some (i64 1):=by unfold lR.cells;rw [hx];rfl
   refine ⟨.inl ⟨_,rfl⟩,DV bQ (DV bA (V.ok (jA hd had (h3.at_ (o:=0) he1 h0)) (dB.2 (aD (fun _=>?_) fun hh=>absurd (by decide) hh))))⟩
   exact step h3 q1 (by rw [q2];simp) f3'
  | place q=>
   obtain ⟨q1,q2⟩:=skip (by rw [hx];rfl)
   have h0:e1.cells[0]?=some (i64 2):=by unfold lR.cells;rw [hx];rfl
   refine ⟨.inl ⟨_,rfl⟩,DV bQ (DV bA (V.ok (jA hd had (h3.at_ (o:=0) he1 h0)) (dB.2 (aD (fun _=>?_) fun hh=>absurd (by decide) hh))))⟩
   exact step h3 q1 (by rw [q2];simp) f3'
  | load r n=>
   obtain ⟨q1,q2⟩:=skip (by rw [hx];rfl)
   have h0:e1.cells[0]?=some (i64 4):=by unfold lR.cells;rw [hx];rfl
   refine ⟨.inl ⟨_,rfl⟩,DV bQ (DV bA (V.ok (jA hd had (h3.at_ (o:=0) he1 h0)) (dB.2 (aD (fun _=>?_) fun hh=>absurd (by decide) hh))))⟩
   exact step h3 q1 (by rw [q2];simp) f3'
  | jump c q=>
   rw [hx] at hxe
   have hcs:e1.cells=[i64 3,i64 0,i64 0,i64 0,i64 0,i64 0,i64 0,i64 q,i64 c,i64 0,i32 0,e1.v,i64 (e1.f:Int)]:=by unfold lR.cells;rw [hx];rfl
   have hoi:cF.okI (.jump c q):=ho.ok _ (List.mem_of_getElem? hxe)
   obtain ⟨hq0,hc0⟩:(0≤q∧q≤2000)∧(0≤c∧c≤14):=hoi
   have hqm:q∈jV (kS l):=ho.jl q (List.mem_flatMap.2 ⟨_,List.mem_of_getElem? hxe,List.mem_singleton.2 rfl⟩)
   obtain ⟨lb0,lb1,lb2⟩:=aGe hf hqm
   have hat0:=hf.at_le j
   obtain ⟨q,rfl⟩:=kH hq0.1
   have hqL:=hqn q hqm
   have hfm:=hf.le2 j
   rw [hfe] at hfm
   have hrb:iU (kS l) (lA l) j=(mH c e1.f (sH (kS l) (lA l) j) (CZ (kS l) (lA l) q)).all cN:=by unfold iU;rw [hxe];dsimp only;rw [hfe]
   have ld:∀ {w':World} {l2:List lR} {e2:lR} {o:Nat} {n:Int},wI w' B (.slice (some ⟨g,0,none⟩) l2.length cap) l2→l2[j]?=some e2→e2.cells[o]?=some (i64 n)→(Instr.loadAt 3 (.pointer (some ⟨g,j*13+o,none⟩))).run prog w'=.ok (i64 n) w':=fun q1 q2 q3=>jA hd had (q1.at_ q2 q3)
   refine ⟨.inl ⟨_,rfl⟩,DV bQ (DV bA (V.ok (ld (o:=0) h3 he1 (by rw [hcs];rfl)) (dB.2 (aD (fun hh=>absurd rfl hh) fun _=>?_))))⟩
   have D:aF w3 w3.drew:=(aF.refl _).drew
   have hgL':g < gL:=by omega
   have hL3:=(f3'.blk hL (by omega)).ext D
   have hat3:aN w3.drew atv (kU l (l.length+1)):=by
    unfold aN;rw [pM]
    exact aA.of_own (D.own (f3'.own hat2 fun k hk hS=>by have:=(hat2.lt k hk).1;omega))
   have hx3:∀ {w'},aF w3.drew w'→wI w' B (.slice (some ⟨g,0,none⟩) l'.length cap) l':=fun hx=>h3.ext (D.trans hx)
   refine aM.mk' (fun w'=>aF w3.drew w') (aF.refl _) ?_
   refine ⟨.inl ⟨_,rfl⟩,yfA bQ (yfA eB (aE.ok (fun w' hw=>ld (o:=8) (hx3 hw) he1 (by rw [hcs];rfl)) ?_))⟩
   refine ⟨.inl ⟨_,rfl⟩,yfA fV (aE.ok (fun w' hw=>ld (o:=12) (hx3 hw) he1 (by rw [hcs];rfl)) ?_)⟩
   refine nR aQ aH hat3 (fun _ h=>h) (by omega) (by rw [pM];omega) (cG (vK (by omega))) ?_
   refine ⟨.inl ⟨_,rfl⟩,yfA bQ (yfA bZ (aE.ok (fun w' hw=>ld (o:=7) (hx3 hw) he1 (by rw [hcs];rfl)) ?_))⟩
   refine nR aQ aH (hL3.slice (oS _ _ _ _) (by unfold maxLen;omega)) (fun _ h=>h) (by omega) (by omega) (by rw [Int.toNat_natCast];exact uR hqL) ?_
   have hlab:xJ (kS l) (lA l) (q:Int) l.length=CZ (kS l) (lA l) q:=by unfold CZ;rw [hlx]
   rw [hlab]
   refine aPj hc0 hfm (by unfold Adr;omega) (by unfold Adr;omega) fun v4 w4 hv4 x4=>⟨x4,.inl ⟨_,rfl⟩,?_⟩
   refine yfA fP ?_
   have x34:=D.trans x4
   have s3:=f3.size;have s34:=x34.size;have sD:=D.size
   have h4:wI w4 B (.slice (some ⟨g,0,none⟩) l'.length cap) l':=h3.ext x34
   have hown:gE w4 B v4 (mH c e1.f (sH (kS l) (lA l) j) (CZ (kS l) (lA l) q)):=aX hv4 (by omega)
   refine h4.put (o:=11) (e':=⟨e1.x,e1.f,mH c e1.f (sH (kS l) (lA l) j) (CZ (kS l) (lA l) q),v4⟩) SM he1 (by rw [hcs];unfold lR.cells;dsimp only;rw [hx];rfl) (by decide) (nX hv4) hown (fun hj0=>by dsimp only at hj0;rw [hx] at hj0;cases hj0) (Nat.le_trans uS (by decide)) fun w5 h5 f5=>?_
   have he5:(l'.set j ⟨e1.x,e1.f,mH c e1.f (sH (kS l) (lA l) j) (CZ (kS l) (lA l) q),v4⟩)[j]?=some ⟨e1.x,e1.f,mH c e1.f (sH (kS l) (lA l) j) (CZ (kS l) (lA l) q),v4⟩:=by rw [List.getElem?_set_self (by omega)]
   have hl5:(l'.set j ⟨e1.x,e1.f,mH c e1.f (sH (kS l) (lA l) j) (CZ (kS l) (lA l) q),v4⟩).length=l'.length:=List.length_set
   rw [← hl5] at h5
   have c5:∀ {o:Nat} {z:Value},(e1.cells.set 11 v4)[o]?=some z→(lR.cells ⟨e1.x,e1.f,mH c e1.f (sH (kS l) (lA l) j) (CZ (kS l) (lA l) q),v4⟩)[o]?=some z:=fun {o z} hz=>by
    rw [hcs] at hz;unfold lR.cells;dsimp only;rw [hx];exact hz
   refine ⟨.inl ⟨_,rfl⟩,DV fP (V.ok (jA hd2 had2 (h5.at_ (o:=11) he5 (c5 (by rw [hcs];rfl)))) ?_)⟩
   have hl2:=uS (c:=c) (a:=(sH (kS l) (lA l) j:Int)) (b:=CZ (kS l) (lA l) q) (f:=e1.f)
   refine bDf (h5.code _ (List.mem_of_getElem? he5)) (by dsimp only;omega) SJ fun w6 x6=>dL.2 ?_
   dsimp only
   rw [← hrb]
   have h6:=h5.ext x6
   have f26:Fr (fun k=>k=g) w2 w6:=((f3'.trans (Fr.of_ext x34) fun _ _ h=>h).trans f5 fun _ _ h=>h).trans (Fr.of_ext x6) fun _ _ h=>h
   cases hr:iU (kS l) (lA l) j with
   | true=>
    refine aP.2 ?_
    rw [hl5] at h6
    refine step h6 (hfit.next he rfl (by rw [hgr,hr];rfl) (by rw [hx];rfl)) (by rw [hr];simp) f26
   | false=>
    refine bK.2 ⟨.inl ⟨_,rfl⟩,DV fV (V.ok (ld (o:=12) h6 he5 (c5 (by rw [hcs];rfl))) (aU.2 ?_))⟩
    rw [aC (by omega) (by omega),aR]
    refine ⟨.inl ⟨_,rfl⟩,DV fV ?_⟩
    refine h6.put (o:=12) (e':=⟨e1.x,e1.f+1,mH c e1.f (sH (kS l) (lA l) j) (CZ (kS l) (lA l) q),v4⟩) bY he5 (by unfold lR.cells;dsimp only;rw [hx];rfl) (by decide) rfl ((h5.code _ (List.mem_of_getElem? he5)).ext x6) (fun hj0=>by dsimp only at hj0;rw [hx] at hj0;cases hj0) (Nat.le_trans uS (by decide)) fun w7 h7 f7=>?_
    rw [hl5,List.set_set] at h7
    refine step h7 (hfit.next he rfl (by rw [hgr,hr];rfl) (by rw [hx];rfl)) (by rw [hr];simp) (f26.trans f7 fun _ _ h=>h)
 ·obtain rfl:j=l.length:=by omega
  exact hk bb l' w3 h3 hfit hbb x3
theorem AR {a:Nat} (h:a < 18446744073709551616):(BitVec.ofInt 64 (a:Int)).toNat=a:=by rw [BitVec.toNat_ofInt];omega
theorem bJn {a b:Nat} (ha:a < 4294967296) (hb:b < 4294967296):IntKind.i64.wrap (((BitVec.ofInt IntKind.i64.bits (a:Int) ||| BitVec.ofInt IntKind.i64.bits (b:Int)).toNat:Nat):Int)=((a ||| b:Nat):Int):=by
 have h:a ||| b < 4294967296:=Nat.or_lt_two_pow (n:=32) ha hb
 rw [show IntKind.i64.bits=64 from rfl,BitVec.toNat_or,AR (by omega),AR (by omega)]
 exact aC (by omega) (by omega)
theorem bIp {a b:Nat} (ha:a < 4294967296) (hb:b < 4294967296):IntKind.i64.wrap (((BitVec.ofInt IntKind.i64.bits (a:Int) &&& BitVec.ofInt IntKind.i64.bits (b:Int)).toNat:Nat):Int)=((a &&& b:Nat):Int):=by
 have h:a &&& b≤a:=Nat.and_le_left
 rw [show IntKind.i64.bits=64 from rfl,BitVec.toNat_and,AR (by omega),AR (by omega)]
 exact aC (by omega) (by omega)
theorem bGu {a b:Nat} (ha:a < 2) (hb:b < 2):IntKind.i64.wrap (((BitVec.ofInt IntKind.i64.bits (a:Int) ^^^ BitVec.ofInt IntKind.i64.bits (b:Int)).toNat:Nat):Int)=((a ^^^ b:Nat):Int):=by
 have:(a=0∨a=1)∧(b=0∨b=1):=by omega
 rcases this with ⟨rfl|rfl,rfl|rfl⟩<;>decide
theorem aYd {a s:Nat} (h:a*2 ^ s < 4294967296) (hs:s≤64):IntKind.i64.wrap ((a:Int)*2 ^ (min (s:Int).toNat IntKind.i64.bits))=((a <<< s:Nat):Int):=by
 rw [Int.toNat_natCast,show IntKind.i64.bits=64 from rfl,Nat.min_eq_left hs,Nat.shiftLeft_eq]
 have e:(a:Int)*2 ^ s=((a*2 ^ s:Nat):Int):=by push_cast;rfl
 rw [e]
 exact aC (by omega) (by omega)
theorem bHb {a:Int} {s:Nat} (hs:s≤64):a.fdiv (2 ^ (min (s:Int).toNat IntKind.i64.bits))=a / ((2 ^ s:Nat):Int):=by
 rw [Int.toNat_natCast,show IntKind.i64.bits=64 from rfl,Nat.min_eq_left hs,Int.fdiv_eq_ediv_of_nonneg _ (Int.le_of_lt (Int.pow_pos (by decide)))]
 push_cast;rfl
theorem bHc {a s:Nat} (hs:s≤64):(a:Int).fdiv (2 ^ (min (s:Int).toNat IntKind.i64.bits))=((a >>> s:Nat):Int):=by
 rw [bHb hs,Nat.shiftRight_eq_div_pow];push_cast;rfl
section
variable {P:Program} {t:TypeId} {k':IntKind} {x y:Int} {a b s:Nat}
theorem vOr (hx:x=a) (hy:y=b) (ha:a < 4294967296) (hb:b < 4294967296) (hk:K (i64 ((a ||| b:Nat):Int)) w):V P (binOp .or t (i64 x) (i64 y)) w K:=by
 subst hx hy
 refine V.ok bHk ?_
 rw [bJn ha hb];exact hk
theorem bJj (hx:x=a) (hy:y=b) (ha:a < 4294967296) (hb:b < 4294967296) (hk:K (i64 ((a &&& b:Nat):Int)) w):V P (binOp .and t (i64 x) (i64 y)) w K:=by
 subst hx hy
 refine V.ok CN ?_
 rw [bIp ha hb];exact hk
theorem bGx (hx:x=a) (hy:y=b) (ha:a < 2) (hb:b < 2) (hk:K (i64 ((a ^^^ b:Nat):Int)) w):V P (binOp .xor t (i64 x) (i64 y)) w K:=by
 subst hx hy
 refine V.ok aYj ?_
 rw [bGu ha hb];exact hk
theorem aDk (hx:x=a) (hy:y=s) (h:a*2 ^ s < 4294967296) (hs:s≤64) (hk:K (i64 ((a <<< s:Nat):Int)) w):V P (binOp .shl t (i64 x) (.int k' y)) w K:=by
 subst hx hy
 refine V.ok (KJ (by omega)) ?_
 rw [aYd h hs];exact hk
theorem bJi (hx:x=a) (hy:y=s) (hs:s≤64) (hk:K (i64 ((a >>> s:Nat):Int)) w):V P (binOp .shr t (i64 x) (.int k' y)) w K:=by
 subst hx hy
 refine V.ok (uY (by omega)) ?_
 rw [bHc hs];exact hk
theorem UH (hy:y=s) (hs:s≤64) (hk:K (i64 (x / ((2 ^ s:Nat):Int))) w):V P (binOp .shr t (i64 x) (.int k' y)) w K:=by
 subst hy
 refine V.ok (uY (by omega)) ?_
 rw [bHb hs];exact hk
theorem UI (hy:y=((2 ^ b - 1:Nat):Int)) (hb:b≤32) (hx:x % ((2 ^ b:Nat):Int)=a) (hk:K (i64 (a:Int)) w):V P (binOp .and t (i64 x) (i64 y)) w K:=by
 subst hy
 refine V.ok CN ?_
 rw [show IntKind.i64.wrap (((BitVec.ofInt IntKind.i64.bits x &&& BitVec.ofInt IntKind.i64.bits ((2 ^ b - 1:Nat):Int)).toNat:Nat):Int)=(a:Int) from (aFx (n:=x) hb).trans hx]
 exact hk
end
def hwC (l:List Nat):List Value:=l.map fun (h:Nat)=>u16 (h:Int)
def rJ (w:World) (B:Nat) (v:Value) (l:List Nat):Prop:=w.ownsRow B 151 1 v l.length (hwC l)
theorem aPt {b:Bool} (hk:K (i64 ((if b then 1 else 0:Nat):Int)) w):aB prog 217 #[.bool b] w K:=by
 apply aTh
 unfold MY
 cases b with
 | true=>exact bK.2 hk
 | false=>exact aP.2 hk
theorem uP {a:Int} {m:Nat} (hm:0 < m):∃ x:Nat,x < m∧a % (m:Int)=x∧(a % (m:Int)).toNat=x:=by
 have h0:0≤a % (m:Int):=Int.emod_nonneg _ (by omega)
 have h1:a % (m:Int) < m:=Int.emod_lt_of_pos _ (by omega)
 exact ⟨(a % (m:Int)).toNat,by omega,by omega,rfl⟩
set_option maxHeartbeats 1000000 in
theorem aPb {imm:Int} (hk:∀ v w',rJ w' w.heap.size v (blN imm)→aF w w'→K v w'):aB prog 181 #[i64 imm] w K:=by
 apply aUs
 unfold OI
 refine aY.2 (aPt ?_)
 have hs:(if decide (imm < 0) then 1 else 0:Nat)=if imm < 0 then 1 else 0:=by by_cases h:imm < 0<;>simp [h]
 rw [hs]
 have hN:blN imm=[aCp (if imm < 0 then 1 else 0) ((imm / 4096) % 1024).toNat,aCo (1 - (JF imm 23 ^^^ if imm < 0 then 1 else 0)) (1 - (JF imm 22 ^^^ if imm < 0 then 1 else 0)) ((imm / 2) % 2048).toNat]:=rfl
 rw [hN] at hk
 unfold JF at hk
 have hs2:(if imm < 0 then 1 else 0:Nat) < 2:=by split<;>decide
 generalize (if imm < 0 then 1 else 0:Nat)=s at hk hs2
 obtain ⟨b23,l23,m23,n23⟩:=uP (a:=imm / ((2 ^ 23:Nat):Int)) (m:=2) (by decide)
 obtain ⟨b22,l22,m22,n22⟩:=uP (a:=imm / ((2 ^ 22:Nat):Int)) (m:=2) (by decide)
 obtain ⟨x,lx,mx,nx⟩:=uP (a:=imm / 4096) (m:=1024) (by decide)
 obtain ⟨y,ly,my,ny⟩:=uP (a:=imm / 2) (m:=2048) (by decide)
 have nx':(imm / 4096 % 1024).toNat=x:=nx
 have ny':(imm / 2 % 2048).toNat=y:=ny
 have n23':(imm / ((2 ^ 23:Nat):Int) % 2).toNat=b23:=n23
 have n22':(imm / ((2 ^ 22:Nat):Int) % 2).toNat=b22:=n22
 rw [nx',ny',n23',n22'] at hk
 have x23:=Nat.xor_lt_two_pow (n:=1) l23 hs2
 have x22:=Nat.xor_lt_two_pow (n:=1) l22 hs2
 refine UH (s:=23) rfl (by decide) (UI (b:=1) rfl (by decide) m23 ?_)
 refine bGx rfl rfl l23 hs2 (fR.2 ?_)
 rw [aC (by omega) (by omega),show (1:Int) - ((b23 ^^^ s:Nat):Int)=((1 - (b23 ^^^ s):Nat):Int) from by omega]
 refine UH (s:=22) rfl (by decide) (UI (b:=1) rfl (by decide) m22 ?_)
 refine bGx rfl rfl l22 hs2 (fR.2 ?_)
 rw [aC (by omega) (by omega),show (1:Int) - ((b22 ^^^ s:Nat):Int)=((1 - (b22 ^^^ s):Nat):Int) from by omega]
 generalize hj:1 - (b23 ^^^ s)=j at hk
 generalize hkk:1 - (b22 ^^^ s)=k at hk
 have j2:j < 2:=by omega
 have k2:k < 2:=by omega
 have c1:=jR cHi hs2 lx
 have c2:=nY (jR cLo j2 k2) ly
 simp only [Bool.and_eq_true,decide_eq_true_eq] at c1 c2
 have hs10:s <<< 10 < 4294967296:=by rw [Nat.shiftLeft_eq];omega
 have hj13:j <<< 13 < 4294967296:=by rw [Nat.shiftLeft_eq];omega
 have hk11:k <<< 11 < 4294967296:=by rw [Nat.shiftLeft_eq];omega
 have o1:61440 ||| s <<< 10 < 4294967296:=Nat.or_lt_two_pow (n:=32) (by decide) hs10
 have o2:53248 ||| j <<< 13 < 4294967296:=Nat.or_lt_two_pow (n:=32) (by decide) hj13
 have o3:53248 ||| j <<< 13 ||| k <<< 11 < 4294967296:=Nat.or_lt_two_pow (n:=32) o2 hk11
 refine aDk (s:=10) rfl rfl (by omega) (by decide) (vOr (a:=61440) rfl rfl (by decide) hs10 ?_)
 refine UH (s:=12) rfl (by decide) (UI (b:=10) rfl (by decide) mx (vOr rfl rfl o1 (by omega) ?_))
 refine V.ok (lL underlying3 underlying151) ?_
 have e1:61440 ||| s <<< 10 ||| x=aCp s x:=rfl
 rw [e1,uX (by omega) (by omega)]
 refine aDk (s:=13) rfl rfl (by omega) (by decide) (vOr (a:=53248) rfl rfl (by decide) hj13 ?_)
 refine aDk (s:=11) rfl rfl (by omega) (by decide) (vOr rfl rfl o2 hk11 ?_)
 refine UH (s:=1) rfl (by decide) (UI (b:=11) rfl (by decide) my (vOr rfl rfl o3 (by omega) ?_))
 refine V.ok (lL underlying3 underlying151) ?_
 have e2:53248 ||| j <<< 13 ||| k <<< 11 ||| y=aCo j k y:=rfl
 rw [e2,uX (by omega) (by omega)]
 exact jT aDd [u16 (aCp s x:Int),u16 (aCo j k y:Int)] rfl rfl (by simp) rfl fun v w1 ho x1=>hk v w1 ho x1
structure zM (s:jI):Prop where
 b0:0≤s.bits
 s0:0≤s.shift
 bs:s.bits+s.shift≤16
 st:1≤s.step
 p0:0≤s.part
 p4:s.part≤4
 l0:-4096≤s.least
 m0:s.most≤4096
 b1:s.bits≤11
 s4:s.step≤4
def HS (s:jI):Bool:=decide (0≤s.bits)&&decide (0≤s.shift)&&decide (s.bits+s.shift≤16)&&decide (1≤s.step)&&decide (0≤s.part)&&decide (s.part≤4)&&decide (-4096≤s.least)&&decide (s.most≤4096)&&decide (s.bits≤11)&&decide (s.step≤4)
theorem zM.of {s:jI} (h:HS s=true):zM s:=by
 simp only [HS,Bool.and_eq_true,decide_eq_true_eq] at h
 obtain ⟨⟨⟨⟨⟨⟨⟨⟨⟨h1,h2⟩,h3⟩,h4⟩,h5⟩,h6⟩,h7⟩,h8⟩,h9⟩,h10⟩:=h
 exact ⟨h1,h2,h3,h4,h5,h6,h7,h8,h9,h10⟩
theorem MB {op b:Int} {sl:List jI} (h:cZ op=some (b,sl)):0≤b∧b < 65536∧sl.all HS=true:=by
 unfold cZ at h
 by_cases c:12≤op∧op≤27
 ·rw [if_pos c] at h;cases h;exact ⟨by omega,by omega,by decide⟩
 rw [if_neg c] at h
 clear c
 by_cases c:8≤op∧op≤11
 ·rw [if_pos c] at h;cases h;exact ⟨by omega,by omega,by decide⟩
 rw [if_neg c] at h
 clear c
 by_cases c:op=1
 ·rw [if_pos c] at h;cases h;exact ⟨by omega,by omega,by decide⟩
 rw [if_neg c] at h
 clear c
 by_cases c:op=2
 ·rw [if_pos c] at h;cases h;exact ⟨by omega,by omega,by decide⟩
 rw [if_neg c] at h
 clear c
 by_cases c:op=3
 ·rw [if_pos c] at h;cases h;exact ⟨by omega,by omega,by decide⟩
 rw [if_neg c] at h
 clear c
 by_cases c:op=4
 ·rw [if_pos c] at h;cases h;exact ⟨by omega,by omega,by decide⟩
 rw [if_neg c] at h
 clear c
 by_cases c:op=5
 ·rw [if_pos c] at h;cases h;exact ⟨by omega,by omega,by decide⟩
 rw [if_neg c] at h
 clear c
 by_cases c:op=6
 ·rw [if_pos c] at h;cases h;exact ⟨by omega,by omega,by decide⟩
 rw [if_neg c] at h
 clear c
 by_cases c:op=7
 ·rw [if_pos c] at h;cases h;exact ⟨by omega,by omega,by decide⟩
 rw [if_neg c] at h
 clear c
 by_cases c:op=30
 ·rw [if_pos c] at h;cases h;exact ⟨by omega,by omega,by decide⟩
 rw [if_neg c] at h
 clear c
 by_cases c:op=29
 ·rw [if_pos c] at h;cases h;exact ⟨by omega,by omega,by decide⟩
 rw [if_neg c] at h
 clear c
 by_cases c:op=32
 ·rw [if_pos c] at h;cases h;exact ⟨by omega,by omega,by decide⟩
 rw [if_neg c] at h
 clear c
 by_cases c:op=31
 ·rw [if_pos c] at h;cases h;exact ⟨by omega,by omega,by decide⟩
 rw [if_neg c] at h
 clear c
 by_cases c:op=34
 ·rw [if_pos c] at h;cases h;exact ⟨by omega,by omega,by decide⟩
 rw [if_neg c] at h
 clear c
 by_cases c:op=33
 ·rw [if_pos c] at h;cases h;exact ⟨by omega,by omega,by decide⟩
 rw [if_neg c] at h
 clear c
 unfold lY at h
 by_cases c:op=36
 ·rw [if_pos c] at h;cases h;exact ⟨by omega,by omega,by decide⟩
 rw [if_neg c] at h
 clear c
 by_cases c:op=35
 ·rw [if_pos c] at h;cases h;exact ⟨by omega,by omega,by decide⟩
 rw [if_neg c] at h
 clear c
 by_cases c:op=37
 ·rw [if_pos c] at h;cases h;exact ⟨by omega,by omega,by decide⟩
 rw [if_neg c] at h
 clear c
 by_cases c:op=38
 ·rw [if_pos c] at h;cases h;exact ⟨by omega,by omega,by decide⟩
 rw [if_neg c] at h
 clear c
 by_cases c:op=39
 ·rw [if_pos c] at h;cases h;exact ⟨by omega,by omega,by decide⟩
 rw [if_neg c] at h
 clear c
 by_cases c:op=40
 ·rw [if_pos c] at h;cases h;exact ⟨by omega,by omega,by decide⟩
 rw [if_neg c] at h
 clear c
 by_cases c:op=41
 ·rw [if_pos c] at h;cases h;exact ⟨by omega,by omega,by decide⟩
 rw [if_neg c] at h
 clear c
 by_cases c:op=42
 ·rw [if_pos c] at h;cases h;exact ⟨by omega,by omega,by decide⟩
 rw [if_neg c] at h
 clear c
 by_cases c:op=44
 ·rw [if_pos c] at h;cases h;exact ⟨by omega,by omega,by decide⟩
 rw [if_neg c] at h
 clear c
 by_cases c:op=45
 ·rw [if_pos c] at h;cases h;exact ⟨by omega,by omega,by decide⟩
 rw [if_neg c] at h
 clear c
 cases h
theorem aOi {h:Nat} {s:jI} {n:Int} (hs:zM s) (hh:h < 65536):RS h s n < 65536:=by
 have h1:=hs.b0;have h2:=hs.s0;have h3:=hs.bs
 unfold RS
 refine Nat.or_lt_two_pow (n:=16) hh ?_
 obtain ⟨x,lx,_,nx⟩:=uP (a:=n.tdiv s.step) (m:=2 ^ s.bits.toNat) (Nat.pow_pos (by decide))
 rw [nx,Nat.shiftLeft_eq]
 calc x*2 ^ s.shift.toNat < 2 ^ s.bits.toNat*2 ^ s.shift.toNat:=Nat.mul_lt_mul_of_pos_right lx (Nat.pow_pos (by decide))
  _=2 ^ (s.bits.toNat+s.shift.toNat):=(Nat.pow_add 2 _ _).symm
  _≤2 ^ 16:=Nat.pow_le_pow_right (by decide) (by omega)
theorem qT {sl:List jI} {i:hU} {k:Int} (hp:jL sl i k=true) (hs:∀ s∈sl,zM s):-4096≤i.part k∧i.part k≤4096:=by
 cases hf:sl.find? (fun s=>decide (s.part=k)) with
 | none=>rw [fS hp hf];exact ⟨by decide,by decide⟩
 | some s=>
  obtain ⟨h1,h2,_⟩:=jQ hp hf
  have ho:=hs s (List.mem_of_find?_eq_some hf)
  have:=ho.l0;have:=ho.m0
  exact ⟨by omega,by omega⟩
theorem SZ {α β:Type} (f:β→α→β) (b:β) (l:List α) {j:Nat} {x:α} (h:l[j]?=some x):(l.take (j+1)).foldl f b=f ((l.take j).foldl f b) x:=by
 rw [List.take_add_one,h,List.foldl_append];rfl
theorem RG {a b:Int} (hb:1≤b) (h0:-4096≤a) (h1:a≤4096):-4096≤a.tdiv b∧a.tdiv b≤4096:=by
 have h2:(a.tdiv b).natAbs≤a.natAbs:=by
  rw [Int.natAbs_tdiv];exact Nat.div_le_self _ _
 omega
set_option maxHeartbeats 1000000 in
theorem aCb {i:hU} (hr:cN i=true) (ho:yN i.op) (hb:EV i) (hk:∀ v w',rJ w' w.heap.size v (EZ i)→aF w w'→K (.tuple #[v,i64 0]) w'):aB prog 124 #[.agg i.cells.toArray] w K:=by
 apply aWy
 unfold QJ
 refine bx fun b w1 hbx x1=>?_
 have hbx:bG w1 b i.cells:=hbx
 refine iQ hbx qB rfl ?_
 refine CH hb.1 hb.2 fun w2 x2=>dL.2 ?_
 rw [hr]
 refine aP.2 ?_
 have x02:=x1.trans x2
 have hb2:=hbx.ext x2
 have fi:∀ {R:Value→World→Prop} {f:Nat} {v:Value},FA prog 83 f f→i.cells[f]?=some v→R v w2→V prog (Instr.fieldAt 83 (.pointer (some ⟨b,0,none⟩)) f) w2 fun q w2=>V prog (Instr.loadAt 3 q) w2 R:=fun hf hv hr=>bF hb2 hf aH hv hr
 refine fi mA rfl (aK.2 (aD (fun e=>?_) fun e28=>?_))
 ·obtain ⟨p,q,hp,hq,rfl⟩:=yV hr e
  have hN:EZ ⟨28,p,0,q,0,0⟩=[RY p q]:=rfl
  rw [hN] at hk
  have c:=jR c28 hp hq
  simp only [bAq,Bool.and_eq_true,decide_eq_true_eq] at c
  have e0:RY (p:Int) (q:Int)=17920 ||| p >>> 3 <<< 7 ||| q <<< 3 ||| (p &&& 7):=rfl
  have a1:p >>> 3≤p:=by rw [Nat.shiftRight_eq_div_pow];exact Nat.div_le_self _ _
  have a2:p >>> 3 <<< 7 < 4294967296:=by rw [Nat.shiftLeft_eq];omega
  have a3:q <<< 3 < 4294967296:=by rw [Nat.shiftLeft_eq];omega
  have a4:p &&& 7≤p:=Nat.and_le_left
  have o1:17920 ||| p >>> 3 <<< 7 < 4294967296:=Nat.or_lt_two_pow (n:=32) (by decide) a2
  have o2:17920 ||| p >>> 3 <<< 7 ||| q <<< 3 < 4294967296:=Nat.or_lt_two_pow (n:=32) o1 a3
  refine fi lN rfl (bJi (a:=p) (s:=3) rfl rfl (by decide) (aDk (s:=7) rfl rfl (by omega) (by decide) (vOr (a:=17920) rfl rfl (by decide) a2 ?_)))
  refine fi mU rfl (aDk (a:=q) (s:=3) rfl rfl (by omega) (by decide) (vOr rfl rfl o1 a3 ?_))
  refine fi lN rfl (bJj (a:=p) (b:=7) rfl rfl (by omega) (by decide) (vOr rfl rfl o2 (by omega) ?_))
  refine V.ok (lL underlying3 underlying151) ?_
  rw [← e0,uX (by omega) (by omega)]
  refine jT aDd [u16 (RY p q:Int)] rfl rfl (by simp) rfl fun v w3 ho3 x3=>?_
  exact hk v w3 (aX ho3 x02.size) (x02.trans x3)
 refine aK.2 (aD (fun e=>?_) fun e43=>?_)
 ·have hN:EZ i=blN i.imm:=by unfold EZ;rw [if_neg e28,if_pos e]
  rw [hN] at hk
  refine fi lZ rfl (aPb fun v w3 ho3 x3=>?_)
  exact hk v w3 (aX ho3 x02.size) (x02.trans x3)
 have hao:uJ i.op:=by
  rcases ho with h|h|h
  ·exact h
  ·exact absurd h e28
  ·exact absurd h e43
 obtain ⟨⟨base,sl⟩,hf,hback⟩:=WY hr hao
 have hN:EZ i=[AO (base,sl) i]:=by unfold EZ;rw [if_neg e28,if_neg e43,hf]
 rw [hN] at hk
 obtain ⟨fb0,fb1,hsl⟩:=MB hf
 have hso:∀ s∈sl,zM s:=fun s hs=>zM.of (List.all_eq_true.1 hsl s hs)
 obtain ⟨p0,p1,p2,p3,p4⟩:=kD hr hf e28 e43
 have hpart:∀ s∈sl,-4096≤i.part s.part∧i.part s.part≤4096:=fun s hs=>by
  have h0:=(hso s hs).p0;have h4:=(hso s hs).p4
  have:s.part=0∨s.part=1∨s.part=2∨s.part=3∨s.part=4:=by omega
  rcases this with h|h|h|h|h<;>rw [h]
  ·exact qT p0 hso
  ·exact qT p1 hso
  ·exact qT p2 hso
  ·exact qT p3 hso
  ·exact qT p4 hso
 have hll:=(MC hf).1
 refine fi mA rfl (aHf fun v w3 hv x3=>?_)
 rw [hf] at hv
 obtain ⟨sv,rfl,hsv⟩:=hv
 refine gU.2 (gT.2 ?_)
 refine sI aDy rfl (aFg (nX hsv)) fun w4 h4 x4=>?_
 have h4:bG w4 w3.heap.size [i64 i.op,u16 base,sv]:=bO.boxed h4
 refine bF h4 eQ iJ rfl (bF h4 eC iB rfl (gG HI (aA.of_own (x4.own hsv)) ?_))
 have x04:=(x02.trans x3).trans x4
 have x24:=x3.trans x4
 obtain ⟨bn,rfl⟩:=kH fb0
 refine ⟨fun h k w'=>∃ (j hn:Nat),k=i64 j∧h=u16 (hn:Int)∧j≤sl.length∧hn < 65536∧hn=(sl.take j).foldl (fun h s=>RS h s (i.part s.part)) bn∧aF w4 w',fun _ k _=>sl.length - (RowKit.intOf k).toNat,⟨0,bn,rfl,rfl,Nat.zero_le _,by omega,rfl,aF.refl _⟩,?_⟩
 rintro _ _ w5 ⟨j,hn,rfl,rfl,hj,hlt,hfold,x5⟩ _
 refine aY.2 (aD (fun hjl=>?_) fun hge=>?_)
 ·obtain ⟨s,hs⟩:=bC (l:=sl) (j:=j) (by omega)
  have hsm:=List.mem_of_getElem? hs
  have so:=hso s hsm
  have b0:=so.b0;have s0:=so.s0;have bs:=so.bs;have st:=so.st
  obtain ⟨q1,q2⟩:=hpart s hsm
  refine uV HI fB (aA.of_own ((x4.trans x5).own hsv)) (by omega) (by omega) (aDu hs) rfl ?_
  refine sI HV rfl rfl fun w6 h8 x6=>?_
  have h8:bG w6 w5.heap.size s.cells:=bO.boxed h8
  have D:aF w6 w6.drew:=(aF.refl _).drew
  have hb6:bG w6.drew b i.cells:=(((hb2.ext x24).ext x5).ext x6).ext D
  refine aM.mk' (fun w'=>aF w6.drew w') (aF.refl _) ?_
  refine jM (fun w' hx=>(h8.ext D).ext hx) gZ aH rfl ?_
  refine jM (fun w' hx=>(h8.ext D).ext hx) gY aH rfl ?_
  refine aFd ⟨aF.refl _,.inl ⟨_,rfl⟩,?_⟩
  obtain ⟨d,hd,had⟩:=aH.ex
  refine aE.ok (fun w' hx=>jA hd had (v:=i64 (i.part s.part)) (by have:=(hb6.ext hx) _ _ (VE i s.part);rwa [Nat.zero_add] at this)) ?_
  refine aE.ok (fun w' _=>US (by omega)) ?_
  obtain ⟨t1,t2⟩:=RG st q1 q2
  rw [aC (by omega) (by omega)]
  have D2:aF w6.drew w6.drew.drew:=(aF.refl _).drew
  have h82:=(h8.ext D).ext D2
  obtain ⟨nb,hnb⟩:=kH b0
  obtain ⟨ns,hns⟩:=kH s0
  have hpw:(2:Nat) ^ nb≤65536:=Nat.pow_le_pow_right (n:=2) (by decide) (show nb≤16 by omega)
  have hpp:0 < (2:Nat) ^ nb:=Nat.pow_pos (by decide)
  obtain ⟨x,lx,mx,nx⟩:=uP (a:=(i.part s.part).tdiv s.step) (m:=2 ^ nb) hpp
  have hput:RS hn s (i.part s.part)=hn ||| x <<< ns:=by
   unfold RS
   rw [hnb,hns,Int.toNat_natCast,Int.toNat_natCast,nx]
  have hmul:x*2 ^ ns < 65536:=by
   calc x*2 ^ ns < 2 ^ nb*2 ^ ns:=Nat.mul_lt_mul_of_pos_right lx (Nat.pow_pos (by decide))
    _=2 ^ (nb+ns):=(Nat.pow_add 2 _ _).symm
    _≤2 ^ 16:=Nat.pow_le_pow_right (by decide) (by omega)
  have hxs:x <<< ns < 65536:=by rw [Nat.shiftLeft_eq];exact hmul
  refine aM.mk' (fun w'=>aF w6.drew.drew w') (aF.refl _) ?_
  refine jM (fun w' hx=>h82.ext hx) iM aH rfl ?_
  refine aE.ok (v:=i64 ((1 <<< nb:Nat):Int)) (fun w' _=>by
   rw [hnb]
   exact (KJ (by omega)).trans (congrArg (fun z=>Result.ok (Value.int .i64 z) w') (aYd (a:=1) (s:=nb) (by omega) (by omega)))) ?_
  refine aE.ok (v:=i64 ((2 ^ nb - 1:Nat):Int)) (fun w' _=>eW.trans (by rw [show (((1 <<< nb:Nat):Int) - 1)=((2 ^ nb - 1:Nat):Int) from by rw [Nat.one_shiftLeft];omega,aC (by omega) (by omega)])) ?_
  refine aE.ok (v:=i64 (x:Int)) (fun w' _=>CN.trans (congrArg (fun z=>Result.ok (Value.int .i64 z) w') ((aFx (n:=(i.part s.part).tdiv s.step) (b:=nb) (by omega)).trans mx))) ?_
  refine aE.ok (v:=u16 (x:Int)) (fun w' _=>(lL underlying3 underlying151).trans (congrArg (fun z=>Result.ok (Value.int .u16 z) w') (uX (by omega) (by omega)))) ?_
  refine jM (fun w' hx=>h82.ext hx) iN aH rfl ?_
  refine aE.ok (v:=u16 ((x <<< ns:Nat):Int)) (fun w' _=>by
   rw [hns]
   refine (KJ (by omega)).trans (congrArg (fun z=>Result.ok (Value.int .u16 z) w') ?_)
   rw [Int.toNat_natCast];exact bHd hmul (by omega)) ?_
  refine aE.ok (v:=u16 ((RS hn s (i.part s.part):Nat):Int)) (fun w' _=>bHk.trans (congrArg (fun z=>Result.ok (Value.int .u16 z) w') ((bJo hlt hxs).trans (by rw [hput])))) ?_
  refine aU.2 ?_
  rw [aC (by omega) (by omega),aR]
  refine ⟨⟨j+1,_,rfl,rfl,by omega,aOi so hlt,?_,(x5.trans x6).trans (D.trans D2)⟩,by simp only [aL];omega⟩
  rw [SZ _ _ _ hs,← hfold]
 ·have ee:sl.take j=sl:=List.take_of_length_le (by omega)
  rw [ee] at hfold
  have hen:AO ((bn:Int),sl) i=hn:=by unfold AO;rw [Int.toNat_natCast];exact hfold.symm
  rw [hen] at hk
  refine jT aDd [u16 (hn:Int)] rfl rfl (by simp) rfl fun v w6 ho6 x6=>?_
  have x06:=(x04.trans x5)
  exact hk v w6 (aX ho6 x06.size) (x06.trans x6)
def aXx:List Value:=aZl++[aZ,i64 0]
theorem bCm:BG prog 232 aXx [(0,11),(11,1),(12,1)]:=⟨_,_,_,underlying232,vV,fun w=>by kernel_rfl⟩
theorem aHg (x:cF):Instr.fill (([(0,11),(11,1),(12,1)]:List (Nat × Nat)).toArray[·]?) aXx.toArray [(0,.agg x.cells.toArray)]=some (x.cells++[aZ,i64 0]).toArray:=by cases x<;>kernel_rfl
theorem wI.fr {B B' t s n:Nat} {u v:Value} {xs:List Value} {l:List lR} {w':World} (h:wI w B u l) (hv:w.ownsRow B' t s v n xs) (h1:t≠232) (h2:t≠83) (f:Fr (fun k=>v.ownBlock=some k) w w'):wI w' B u l:=by
 have off:∀ {e':Nat} {B2 s2 n2:Nat} {v2:Value} {xs2:List Value},w.ownsRow B2 e' s2 v2 n2 xs2→e'≠t→∀ k,v2.ownBlock=some k→¬ v.ownBlock=some k:=fun h3 hne k hk hk'=>by
  rcases yZ h3 hv hne with h4|h4
  ·rw [h4] at hk;cases hk
  ·exact h4 (by rw [hk,hk'])
 exact ⟨f.own h.row (off h.row (Ne.symm h1)),fun e he=>f.own (h.code e he) (off (h.code e he) (Ne.symm h2)),h.fix,h.few⟩
theorem wI.push {B:Nat} {u cv:Value} {l:List lR} {x:cF} {es:Array Value} (h:wI w B u l) (hB:B≤w.heap.size) (he:es=(x.cells++[cv,i64 0]).toArray) (hc:gE w B cv x.fix) (hl:l.length≤6000) (hf:x.fix.length≤100)
  (hk:∀ u' w',wI w' B u' (l++[⟨x,0,x.fix,cv⟩])→(∀ w0,aF w0 w→w0.heap.size≤B→aF w0 w')→K u' w') :
  V prog (Instr.buildSlice 229 1 #[(0,.agg es)]) w fun t w1=>V prog (Builtin.append_ #[229,229] 229 #[u,t]) w1 K:=by
 subst he
 have hcl:(x.cells++[cv,i64 0]).length=13:=by simp [x.len]
 have h1:(x.cells++[cv,i64 0]).all cO=true:=by
  rw [List.all_append,sU,Bool.true_and]
  show (cO cv&&(cO (i64 0)&&true))=true
  rw [nX hc];rfl
 refine zI underlying229 vV rfl (by decide) [.agg (x.cells++[cv,i64 0]).toArray] rfl rfl (by intro v hv;rw [List.mem_singleton] at hv;subst hv;simpa [Value.cells] using hcl) (by decide) (by decide) fun t w1 ho1 x1=>?_
 have ho1:w1.ownsRow w.heap.size 232 13 t 1 (x.cells++[cv,i64 0]):=by simpa [Value.cells] using ho1
 have s1:=x1.size
 refine apG underlying229 vV rfl (by decide) (h.ext x1).row (aA.of_own ho1) h1 (by omega) (by unfold maxLen;omega) (by omega) fun u' w2 ho2 hg2 _=>?_
 have f2:Fr (fun k=>u.ownBlock=some k) w1 w2:=Fr.of_grown hg2 fun k hk=>hk
 have kp:∀ {v:Value} {c:List hU},gE w B v c→gE w2 B v c:=fun {v c} ht=>f2.own (x1.own ht) fun k hk hk'=>by
  rcases yZ ht h.row (by decide) with h4|h4
  ·rw [h4] at hk;cases hk
  ·exact h4 (by rw [hk,hk'])
 refine hk u' w2 ⟨?_,fun e he=>?_,fun e he hj=>?_,fun e he=>?_⟩ fun w0 hx hs=>f2.ext (hx.trans x1) fun i hi=>by have:=(h.row.lt i hi).1;omega
 ·rw [List.length_append]
  have e1:TC l++(x.cells++[cv,i64 0])=TC (l++[⟨x,0,x.fix,cv⟩]):=by simp [TC,lR.cells]
  rw [e1] at ho2
  exact ho2
 ·rcases List.mem_append.1 he with he|he
  ·exact kp (h.code e he)
  ·rw [List.mem_singleton] at he;subst he;exact kp hc
 ·rcases List.mem_append.1 he with he|he
  ·exact h.fix e he hj
  ·rw [List.mem_singleton] at he;subst he;rfl
 ·rcases List.mem_append.1 he with he|he
  ·exact h.few e he
  ·rw [List.mem_singleton] at he;subst he;exact hf
theorem JA (x:cF):x.fix.length≤100:=by
 cases x with
 | load r n=>
  have hb:∀ u k,(qA r u k).length≤2*k:=fun u k=>by
   induction k with
   | zero=>exact Nat.le_refl _
   | succ k ih=>unfold qA;split<;>simp<;>omega
  have:=hb (n % 4294967296) (sC (n % 4294967296))
  have h2:=LV (n % 4294967296)
  show (rX r n).length≤100
  simp [rX];omega
 | _=>simp [cF.fix]
theorem FB {i:hU} (h:cN i=true):EV i:=by
 refine ⟨fun e=>?_,fun e=>?_⟩
 ·obtain ⟨a,b,_,_,rfl⟩:=yV h e
  exact ⟨rfl,rfl,rfl⟩
 ·unfold cN at h
  rw [if_neg (by omega),if_pos e] at h
  simp only [Bool.and_eq_true,decide_eq_true_eq] at h
  exact h.1.1.1
theorem VZ (i:hU):(EZ i).length≤2:=by
 unfold EZ
 split
 ·simp
 ·split
  ·simp [blN]
  ·split<;>simp
theorem VY (a b:List hU):yP (a++b)=yP a++yP b:=by simp [yP]
theorem SU:∀ l:List hU,(yP l).length≤2*l.length
 | []=>by simp [yP]
 | i::l=>by
  have:=SU l;have:=VZ i
  have e:yP (i::l)=EZ i++yP l:=rfl
  rw [e,List.length_append,List.length_cons];omega
def muF (u:Value) (n:Nat) (w:World):Nat:=match u with
 | .slice (some a) _ _=>((List.range n).map fun k=>3 - (RowKit.intOf ((w.cell? ⟨a.block,k*13+12,none⟩).getD undef)).toNat).sum
 | _=>0
theorem aFp {B:Nat} {u:Value} {l:List lR} (h:wI w B u l):muF u l.length w=LD (lA l):=by
 by_cases h0:l.length=0
 ·obtain rfl:=List.length_eq_zero_iff.1 h0
  unfold muF LD lA
  split<;>rfl
 ·obtain ⟨g,cap,rfl⟩:∃ g cap,u=.slice (some ⟨g,0,none⟩) l.length cap:=by
   rcases h.row.2 with ⟨_,e0⟩|⟨g',c',_,rfl,_⟩
   ·omega
   ·exact ⟨g',c',rfl⟩
  unfold muF LD lA
  dsimp only
  congr 1
  rw [List.map_map]
  apply List.ext_getElem?
  intro k
  rw [List.getElem?_map,List.getElem?_map]
  by_cases hk:k < l.length
  ·obtain ⟨e,he⟩:=bC hk
   have hc:e.cells[12]?=some (i64 (e.f:Int)):=by unfold lR.cells;rw [List.getElem?_append_right (by rw [e.x.len];decide),e.x.len];rfl
   rw [List.getElem?_range hk,he]
   simp only [Option.map_some,Function.comp_apply,h.at_ he hc,Option.getD_some]
   rfl
  ·rw [List.getElem?_eq_none (by simp;omega),List.getElem?_eq_none (by omega)];rfl
theorem aGv {l:List cF} {f:List Nat} (h:∀ k,k < f.length→iU l f k=true):rF l f=f:=by
 apply List.ext_getElem
 ·rw [mT]
 ·intro k h1 h2
  have:=oT l f h2
  rw [h k h2,if_pos rfl,List.getD_eq_getElem?_getD,List.getElem?_eq_getElem h1,List.getD_eq_getElem?_getD,List.getElem?_eq_getElem h2] at this
  simpa using this
theorem GZ {l:List cF} {f:List Nat} {k:Nat} {x:cF} (hx:l[k]?=some x):oK l f (k+1)=oK l f k++x.codeK (f.getD k 0) (sH l f k) (CZ l f):=by rw [oK,hx]
theorem aHy {l:List cF} {f:List Nat} {k n:Nat} (hkn:k≤n) {i:hU} (h:i∈oK l f k):i∈oK l f n:=by
 induction n with
 | zero=>obtain rfl:k=0:=by omega
           exact h
 | succ n ih=>
  by_cases hk:k=n+1
  ·subst hk;exact h
  ·rw [oK];exact List.mem_append_left _ (ih (by omega))
theorem aCk {l:List cF} {f:List Nat} {k:Nat} {x:cF} (hx:l[k]?=some x) {i:hU} (h:i∈x.codeK (f.getD k 0) (sH l f k) (CZ l f)):i∈oK l f l.length:=by
 have hk:=(List.getElem?_eq_some_iff.1 hx).1
 exact aHy (k:=k+1) hk (by rw [GZ hx];exact List.mem_append_right _ h)
theorem aNs {l:List cF} {es:List lR} {j:Nat} {x:cF} {cv:Value} (h:kS es=l.take j) (hx:l[j]?=some x):kS (es++[⟨x,0,x.fix,cv⟩])=l.take (j+1):=by
 rw [List.take_add_one,hx,← h];simp [kS]
theorem bJs {l:List cF} {f:List Nat} (hl:f.length=l.length) (h:∀ g∈f,g=0):zO l f:=by
 have hz:∀ k,f.getD k 0=0:=fun k=>by
  rw [List.getD_eq_getElem?_getD]
  cases hk:f[k]? with
  | none=>rfl
  | some g=>exact h g (List.mem_of_getElem? hk)
 exact ⟨hl,fun k c q _=>by rw [hz];exact Nat.zero_le _,fun k _=>hz k⟩
theorem bJx {l m:List Nat} {v u:Value} {B B':Nat} (h:rJ w B v l) (hu:rJ w B' u m) (hl:l.length+m.length≤100000000) (hB:B≤w.heap.size) (hk:∀ v' w',rJ w' B v' (l++m)→Fr (fun k=>v.ownBlock=some k) w w'→K v' w'):V prog (Builtin.append_ #[59,59] 59 #[v,u]) w K:=by
 refine apG underlying59 IP rfl (by decide) h (aA.of_own hu) (by simp [hwC,cO]) (by omega) (by unfold maxLen;omega) hB fun v' w' ho hg _=>hk v' w' ?_ (Fr.of_grown hg fun k hk=>hk)
 unfold rJ
 rw [List.length_append]
 simpa [hwC] using ho
theorem rJ.ext' {w':World} {B:Nat} {v:Value} {l:List Nat} (h:rJ w B v l) (hx:aF w w'):rJ w' B v l:=hx.own h
theorem MN (l:List cF) (f:List Nat):∀ k,(oK l f k).length≤100*k
 | 0=>Nat.le_refl _
 | k+1=>by
  have ih:=MN l f k
  rw [oK]
  cases hx:l[k]? with
  | none=>simp;omega
  | some x=>
   have:(x.codeK (f.getD k 0) (sH l f k) (CZ l f)).length≤100:=by
    cases x with
    | jump c q=>exact Nat.le_trans uS (by decide)
    | one i=>exact JA (.one i)
    | place q=>exact Nat.zero_le _
    | load r n=>exact JA (.load r n)
   rw [List.length_append];dsimp only;omega
set_option maxHeartbeats 4000000 in
theorem TO {v:Value} {l:List cF} (hv:tE w v l) (ho:tL l) (htop:nS l≤16384)
  (hk:∀ hv lv f w',zO l f→(∀ k,k < l.length→iU l f k=true)→rJ w' w.heap.size hv (yP (oK l f l.length))→aF w w'→K (.tuple #[hv,lv,i64 0]) w'):aB prog 59 #[v] w K:=by
 apply bEv
 unfold YV
 have hl:=ho.len
 refine bAa hv ho fun w1 x1=>dL.2 (aP.2 ?_)
 refine gG wK (hv.ext x1) ?_
 refine ⟨fun u k w'=>∃ (j:Nat) (es:List lR),k=i64 j∧j≤l.length∧es.length=j∧wI w' w.heap.size u es∧kS es=l.take j∧(∀ e∈es,e.f=0)∧aF w w',fun _ k _=>l.length - (RowKit.intOf k).toNat,⟨0,[],rfl,Nat.zero_le _,rfl,⟨World.ownsRow_nil _ _ _ _,fun e he=>(by cases he),fun e he=>(by cases he),fun e he=>(by cases he)⟩,rfl,fun e he=>(by cases he),x1⟩,?_⟩
 rintro u _ w4 ⟨j,es,rfl,hj,hel,hL,hxs,hf0,x4⟩ _
 refine aY.2 (aD (fun hlt=>?_) fun hge=>?_)
 ·obtain ⟨x,hx⟩:=bC (l:=l) (j:=j) (by omega)
  refine uV wK rP (hv.ext x4) (by omega) (by omega) (IM hx) x.len ?_
  refine sI RK (by simpa [Value.cells] using x.len) (by simpa [Value.cells] using sU x) fun w9 h7 x9=>?_
  have h7:bO w9 w4.heap.size x.cells 180:=h7
  refine iQ h7.boxed rP x.len ?_
  refine JE bCm (aHg x) ?_
  have hc13:(x.cells++[aZ,i64 0]).length=13:=by simp [x.len]
  refine sI BZ (by simpa [Value.cells] using hc13) (by simp only [Value.cells];rw [List.all_append,sU];rfl) fun w13 h8 x13=>?_
  have h8:bO w13 w9.heap.size (x.cells++[aZ,i64 0]) 232:=h8
  have x413:=x9.trans x13
  have s9:=x9.size;have s13:=x13.size;have s4:=x4.size
  have h7':=h7.ext x13
  have hset:∀ cv,(x.cells++[aZ,i64 0]).set 11 cv=x.cells++[cv,i64 0]:=fun cv=>by cases x<;>rfl
  refine ⟨fun w'=>∃ cv,bO w' w9.heap.size (x.cells++[cv,i64 0]) 232∧gE w' w.heap.size cv x.fix∧aF w4 w',?_,?_⟩
  ·have sto:∀ {cv:Value} {w':World},gE w' w13.heap.size cv x.fix→aF w13 w'→V prog (Instr.fieldAt 232 (.pointer (some ⟨w9.heap.size,0,none⟩)) 1) w' fun q w2=>U prog (Instr.storeAt 230 q cv) w2 fun _ w3=>∃ cv,bO w3 w9.heap.size (x.cells++[cv,i64 0]) 232∧gE w3 w.heap.size cv x.fix∧aF w4 w3:=fun {cv w'} ht hx'=>by
    have hb:=h8.ext hx'
    refine FL fP SM hb (n:=13) hc13 (by decide) (nX ht) ?_
    have hbs:=hb.set 11 cv
    rw [hset cv] at hbs
    have f:Fr (fun k=>k=w9.heap.size) w' (w'.setCell ⟨w9.heap.size,11,none⟩ cv):=Fr.of_set rfl
    have hb13:=h8.lt
    exact ⟨cv,hbs,aX (f.own ht fun k hk hS=>by have:=(ht.lt k hk).1;omega) (by omega),f.ext (x413.trans hx') fun i hi=>by omega⟩
   cases x with
   | one i=>
    have h7':bO w13 w4.heap.size [i64 1,i64 i.op,i64 i.d,i64 i.n,i64 i.m,i64 i.imm,i64 i.cond,i64 0,i64 0,i64 0,i32 0] 180:=h7'
    refine bF h7'.boxed bA aH rfl (aK.2 (aD (fun _=>?_) fun h=>absurd rfl h))
    refine DV eN (aGd h7'.boxed qB rfl (l:=i.cells) rfl ?_)
    exact SC (i:=i) rfl fun cv w' hcv hx'=>sto hcv hx'
   | load r n=>
    have h7':bO w13 w4.heap.size [i64 4,i64 0,i64 0,i64 0,i64 0,i64 0,i64 0,i64 0,i64 0,i64 r,i32 n] 180:=h7'
    refine bF h7'.boxed bA aH rfl (aK.2 (aD (fun h=>absurd h (by decide)) fun _=>aK.2 (aD (fun _=>?_) fun h=>absurd rfl h)))
    refine bF h7'.boxed eM aH rfl (bF h7'.boxed fJ kJ rfl ?_)
    exact aPd fun cv w' hcv hx'=>sto hcv hx'
   | place q=>
    have h7':bO w13 w4.heap.size [i64 2,i64 0,i64 0,i64 0,i64 0,i64 0,i64 0,i64 q,i64 0,i64 0,i32 0] 180:=h7'
    refine bF h7'.boxed bA aH rfl (aK.2 (aD (fun h=>absurd h (by decide)) fun _=>aK.2 (aD (fun h=>absurd h (by decide)) fun _=>?_)))
    exact ⟨aZ,h8,World.ownsRow_nil _ _ _ _,x413⟩
   | jump c q=>
    have h7':bO w13 w4.heap.size [i64 3,i64 0,i64 0,i64 0,i64 0,i64 0,i64 0,i64 q,i64 c,i64 0,i32 0] 180:=h7'
    refine bF h7'.boxed bA aH rfl (aK.2 (aD (fun h=>absurd h (by decide)) fun _=>aK.2 (aD (fun h=>absurd h (by decide)) fun _=>?_)))
    exact ⟨aZ,h8,World.ownsRow_nil _ _ _ _,x413⟩
  ·rintro w30 ⟨cv,hb30,hc30,x30⟩ _
   refine iQ hb30.boxed zE (by simp [x.len]) ?_
   have s30:=x30.size
   refine (hL.ext x30).push (by omega) rfl hc30 (by omega) (JA x) fun u' w33 hL' e33=>aU.2 ?_
   rw [aC (by omega) (by omega),aR]
   refine ⟨⟨j+1,_,rfl,by omega,by simp [hel],hL',aNs hxs hx,fun e he=>?_,e33 w (x4.trans x30) (Nat.le_refl _)⟩,by simp only [aL];omega⟩
   rcases List.mem_append.1 he with he|he
   ·exact hf0 e he
   ·rw [List.mem_singleton] at he;subst he;rfl
 obtain rfl:j=l.length:=by omega
 have hxl:kS es=l:=by rw [hxs];exact List.take_of_length_le (Nat.le_refl _)
 have hfl:(lA es).length=l.length:=by simp [lA,hel]
 have hF0:zO l (lA es):=bJs hfl fun g hg=>by obtain ⟨e,he,rfl⟩:=List.mem_map.1 hg;exact hf0 e he
 clear hge hxs
 refine ⟨fun w'=>∃ es,es.length=l.length∧wI w' w.heap.size u es∧kS es=l∧zO l (lA es)∧aF w w',fun w'=>muF u l.length w',⟨es,hel,hL,hxl,hF0,x4⟩,?_⟩
 clear hF0 hxl hfl hf0 hL hel es
 rintro w35 ⟨es,hel,hL,hxl,hF,x35⟩ _
 have s35:=x35.size
 refine bBy hL (by rw [hxl];exact ho) (by rw [hxl];exact hF) s35 fun b es' w36 hL' hfit hb e36=>?_
 have x36:=e36 w x35 (Nat.le_refl _)
 have hel':es'.length=l.length:=by rw [hfit.len,hel]
 have hxl':kS es'=l:=by rw [hfit.xs,hxl]
 have hfs':=hfit.fs
 rw [hxl] at hfs' hb
 have hfl:(lA es).length=l.length:=by simp [lA,hel]
 cases b with
 | true=>
  refine bK.2 ⟨⟨es',hel',hL',hxl',by rw [hfs'];exact hF.grow ho,x36⟩,?_⟩
  have e1:=aFp hL'
  have e2:=aFp hL
  rw [hel'] at e1;rw [hel] at e2
  show muF u l.length w36 < muF u l.length w35
  rw [e1,e2,hfs']
  obtain ⟨k,hk1,hk2⟩:=hb.1 rfl
  exact aGa ho hF ⟨k,by omega,hk2⟩
 | false=>
  refine aP.2 ?_
  have hreach:∀ k,k < l.length→iU l (lA es) k=true:=fun k hk=>by
   cases hr:iU l (lA es) k with
   | true=>rfl
   | false=>exact absurd (hb.2 ⟨k,by omega,hr⟩) (by decide)
  rw [aGv fun k hk=>hreach k (by omega)] at hfs'
  have hF':zO l (lA es'):=by rw [hfs'];exact hF
  have hreach':∀ k,k < l.length→iU l (lA es') k=true:=by rw [hfs'];exact hreach
  have hcode:∀ (k:Nat) e',es'[k]?=some e'→e'.c=e'.x.codeK ((lA es').getD k 0) (sH l (lA es') k) (CZ l (lA es')):=fun k e' he'=>by
   have hk:k < es.length:=by have:=(List.getElem?_eq_some_iff.1 he').1;omega
   obtain ⟨e,he⟩:=bC hk
   obtain ⟨e2,q1,q2,q3,_⟩:=hfit.at_ k e he
   rw [he'] at q1;cases q1
   rw [(q3 hk).2,hxl,hfs',q2,(zP he).2]
  clear hb hfs' hreach hF hfit hL hxl hfl hel e36 s35 x35
  have s36:=x36.size
  refine FK hL' (by rw [hxl'];exact hF') (by omega) fun atv w37 hat x37=>?_
  refine gG rK (aA.of_own (hL'.ext x37).row) ?_
  refine lV aQ aH (aA.of_own hat) (by omega) (by omega) (cG (vK (by omega))) (iT.2 ?_)
  have htk:=zO.at_top ho hF' l.length
  rw [decide_eq_false (by rw [hxl',hel'];omega)]
  refine aP.2 ?_
  refine gG rK (aA.of_own (hL'.ext x37).row) ?_
  have goodA:=GY ho hreach'
  have kint:∀ {t:Value} {n:Nat} {xs:List Value} {wa wb:World},wa.ownsRow w36.heap.size 3 1 atv (es'.length+1) ((kU es' (es'.length+1)).map i64)→wa.ownsRow w.heap.size 151 1 t n xs→Fr (fun k=>t.ownBlock=some k) wa wb→wb.ownsRow w36.heap.size 3 1 atv (es'.length+1) ((kU es' (es'.length+1)).map i64):=fun h1 h2 f=>f.own h1 fun k hk hk'=>by
   rcases yZ h1 h2 (by decide) with h4|h4
   ·rw [h4] at hk;cases hk
   ·exact h4 (by rw [hk,hk'])
  refine ⟨fun t k w'=>∃ j:Nat,k=i64 j∧j≤es'.length∧rJ w' w.heap.size t (yP (oK l (lA es') j))∧wI w' w.heap.size u es'∧w'.ownsRow w36.heap.size 3 1 atv (es'.length+1) ((kU es' (es'.length+1)).map i64)∧aF w w',fun _ k _=>es'.length - (RowKit.intOf k).toNat,⟨0,rfl,Nat.zero_le _,World.ownsRow_nil _ _ _ _,hL'.ext x37,hat,x36.trans x37⟩,?_⟩
  clear hat hL' htk x37 w37 x36 s36
  rintro t _ w43 ⟨j,rfl,hj,ht,hL,hat,x43⟩ _
  refine aY.2 (aD (fun hlt=>?_) fun hge=>?_)
  ·obtain ⟨e,he⟩:=bC (l:=es') (j:=j) (by omega)
   have hem:=List.mem_of_getElem? he
   have hxe:=(zP he).1
   rw [hxl'] at hxe
   have hce:=hcode j e he
   have hfew:=hL.few e hem
   refine uV rK zE (aA.of_own hL.row) (by omega) (by omega) (BC he) e.len ?_
   refine sI BZ (by simpa [Value.cells] using e.len) (by simpa [Value.cells] using hL.one hem) fun w48 h12 x48=>?_
   have h12:bG w48 w43.heap.size e.cells:=bO.boxed h12
   have hv11:e.cells[11]?=some e.v:=by unfold lR.cells;rw [List.getElem?_append_right (by rw [e.x.len];decide),e.x.len];rfl
   refine bF h12 fP jC hv11 (gG vI (aA.of_own ((hL.code e hem).ext x48)) ?_)
   have s43:=x43.size
   refine ⟨fun t k w'=>∃ q:Nat,k=i64 q∧q≤e.c.length∧rJ w' w.heap.size t (yP (oK l (lA es') j)++yP (e.c.take q))∧wI w' w.heap.size u es'∧w'.ownsRow w36.heap.size 3 1 atv (es'.length+1) ((kU es' (es'.length+1)).map i64)∧aF w w',fun _ k _=>e.c.length - (RowKit.intOf k).toNat,⟨0,rfl,Nat.zero_le _,by rw [List.take_zero,show yP []=[] from rfl,List.append_nil];exact ht.ext' x48,hL.ext x48,x48.own hat,x43.trans x48⟩,?_⟩
   rintro t2 _ w52 ⟨q,rfl,hq,ht2,hL2,hat2,x52⟩ _
   refine aY.2 (aD (fun hql=>?_) fun hqg=>?_)
   ·obtain ⟨i,hi⟩:=bC (l:=e.c) (j:=q) (by omega)
    have him:i∈oK l (lA es') l.length:=aCk hxe (by rw [← hce];exact List.mem_of_getElem? hi)
    obtain ⟨g1,g2⟩:=goodA i him
    refine uV vI qB (aA.of_own (hL2.code e hem)) (by omega) (by omega) (AU hi) rfl ?_
    refine sI aYf rfl rfl fun w57 h14 x57=>?_
    have h14:bG w57 w52.heap.size i.cells:=bO.boxed h14
    refine iQ h14 qB rfl ?_
    refine aCb g1 g2 (FB g1) fun v5 w59 hv5 x59=>gU.2 (gT.2 ?_)
    have x79:=x57.trans x59
    have s52:=x52.size;have s79:=x79.size
    have b1:=SU (oK l (lA es') j)
    have b2:=SU (e.c.take q)
    have b3:=MN l (lA es') j
    have b4:=VZ i
    have b5:(e.c.take q).length≤100:=by rw [List.length_take];omega
    refine bJx (ht2.ext' x79) hv5 (by rw [List.length_append];omega) (by omega) fun v6 w6 hv6 f6=>aU.2 ?_
    rw [aC (by omega) (by omega),aR]
    refine ⟨⟨q+1,rfl,by omega,?_,(hL2.ext x79).fr (x79.own ht2) (by decide) (by decide) f6,kint (x79.own hat2) (x79.own ht2) f6,f6.ext (x52.trans x79) fun k hk=>(ht2.lt k hk).1⟩,by simp only [aL];omega⟩
    rw [List.take_add_one,hi,show (some i).toList=[i] from rfl,VY,← List.append_assoc,show yP [i]=EZ i from by simp [yP]]
    exact hv6
   ·obtain rfl:q=e.c.length:=by omega
    refine aU.2 ?_
    rw [aC (by omega) (by omega),aR]
    refine ⟨⟨j+1,rfl,by omega,?_,hL2,hat2,x52⟩,by simp only [aL];omega⟩
    rw [GZ hxe,VY,← hce]
    rw [List.take_of_length_le (Nat.le_refl _)] at ht2
    exact ht2
  ·obtain rfl:j=es'.length:=by omega
   have hatI:aN w43 atv (kU es' (es'.length+1)):=by unfold aN;rw [pM];exact aA.of_own hat
   refine GH hL (by omega) (by rw [hxl'];exact ho.ok) hatI fun gL n w5 _ _ _ _ x5=>?_
   rw [hel'] at ht
   exact hk t _ (lA es') w5 hF' hreach' (x5.own ht) (x43.trans x5)
end Go.Proofs.YtjcmcfidblhnnaaGreatDoor
namespace Go.Proofs.YtjcmcfidblhnnaaGreatDoor
open Tryz
open Go.Vc Go.Tc
variable {w:World} {K:Value→World→Prop}
def tB (l:List fU):Nat:=(l.map fun m=>512+96*m.code.length).sum
theorem zJ {l:List fU} {j:Nat} {m:fU} (h:l[j]?=some m):tB (l.take (j+1))=tB (l.take j)+(512+96*m.code.length):=by
 unfold tB
 rw [List.take_add_one,h]
 simp
theorem xZ {l:List fU} {c:Nat} (h:∀ m∈l,m.code.length≤c):∀ j,tB (l.take j)≤(512+96*c)*j
 | 0=>by simp [tB]
 | j+1=>by
  have ih:=xZ h j
  rw [Nat.mul_succ]
  cases hm:l[j]? with
  | none=>
   rw [List.take_add_one,hm]
   simp only [Option.toList_none,List.append_nil];omega
  | some m=>
   have:=h m (List.mem_of_getElem? hm)
   rw [zJ hm];omega
theorem rV {i:dW} (ht:kZ i):∀ m∈i.methods,m.code.length≤120:=fun m hm=>(ht.1.2.2.1.2.1 m hm).2.2.2.1.2
theorem WP {p:gF} {i:dW} (h:kL w p i) (ht:kZ i) (hk:∀ w',aF w w'→K (i64 (tB i.methods:Nat)) w'):aB prog 22 #[p.val i] w K:=by
 apply bFy
 unfold ZV gF.val
 have hm8:=ht.1.2.2.1.1.2
 refine bx fun b1 w1 hb1 x1=>?_
 refine bF hb1 bP dN rfl (yO iR (h.mt.ext x1) ?_)
 refine ⟨fun n k w'=>∃ j:Nat,k=i64 j∧j≤i.methods.length∧n=i64 (tB (i.methods.take j):Nat)∧aF w1 w',fun _ k _=>i.methods.length - (RowKit.intOf k).toNat,⟨0,rfl,Nat.zero_le _,rfl,aF.refl _⟩,?_⟩
 rintro _ _ w2 ⟨j,rfl,hj,rfl,x2⟩ _
 refine aY.2 (aD (fun hlt=>?_) fun hge=>?_)
 ·obtain ⟨m,hm⟩:=bC (l:=i.methods) (j:=j) (by omega)
  have hc:=(rV ht) m (List.mem_of_getElem? hm)
  have hb:=xZ (rV ht) j
  refine ldS iR oB ((h.mt.ext x1).ext x2) hm (fun _ row e hT=>by obtain ⟨_,_,_,rfl,_⟩:=hT;rfl) fun row hrow=>?_
  obtain ⟨pv,lv,cv,rfl,hp,hl,hcv⟩:=hrow
  refine wJ FO rfl (by obtain ⟨a,c,rfl⟩:=aA.shape hp;obtain ⟨a,c,rfl⟩:=aA.shape hl;obtain ⟨a,c,rfl⟩:=aA.shape hcv;rfl) fun b3 w3 hb3 x3=>?_
  have hb3:bG w3 b3 [pv,i64 m.result,lv,cv]:=hb3
  refine bF hb3 dH iZ rfl (gG kT (aA.ext hcv x3) ?_)
  refine oO.2 (aU.2 (aU.2 (aU.2 ?_)))
  rw [show IntKind.i64.wrap (96*(m.code.length:Int))=96*m.code.length from aC (by omega) (by omega),show IntKind.i64.wrap (512+96*(m.code.length:Int))=512+96*m.code.length from aC (by omega) (by omega),aC (by omega) (by omega),aC (by omega) (by omega),aR]
  exact ⟨⟨j+1,rfl,by omega,by rw [zJ hm];congr 1,x2.trans x3⟩,by simp only [aL];omega⟩
 ·have hjl:j=i.methods.length:=by omega
  rw [hjl,List.take_length]
  exact hk _ (x1.trans x2)
inductive AlR (p:dG) (R:Nat):Nat→List Int→Int→Prop
 | z:AlR p R 0 (List.replicate R 0) 0
 | s (i:Nat) (of:List Int) (slots:Int) (r:Nat) (at':Int):AlR p R i of slots→(eZ [] (pV p R))[i]?=some (r:Int)→rT p of r at'→(at'=5∨(at'=6∧¬ rT p of r 5)∨(16≤at'∧¬ rT p of r 5∧¬ rT p of r 6))→(∀ x,16≤x→x < at'→¬ rT p of r x)→AlR p R (i+1) (of.set r at') (max slots (at' - 15))
theorem AlR.det {p:dG} {R i:Nat} {of:List Int} {s:Int} (h:AlR p R i of s):∀ {of' s'},AlR p R i of' s'→of'=of∧s'=s:=by
 induction h with
 | z=>intro of' s' h';cases h';exact ⟨rfl,rfl⟩
 | s i of s r a h hi hm ha hn ih=>
  intro of' s' h'
  cases h' with
  | s _ of2 s2 r2 a2 h2 hi2 hm2 ha2 hn2=>
   obtain ⟨rfl,rfl⟩:=ih h2
   rw [hi] at hi2
   have hr:=Option.some.inj hi2
   obtain rfl:r=r2:=by omega
   have e:a2=a:=by
    rcases ha with rfl|⟨rfl,h5⟩|⟨h16,h5,h6⟩<;>rcases ha2 with rfl|⟨rfl,g5⟩|⟨g16,g5,g6⟩<;>first|rfl|contradiction|skip
    refine Classical.byContradiction fun hne=>?_
    rcases Int.lt_or_gt_of_ne hne with hlt|hgt
    ·exact hn a2 g16 hlt hm2
    ·exact hn2 a h16 hgt hm
   subst e
   exact ⟨rfl,rfl⟩
theorem pC.al {n:aI} {k r c:Int} (h:pC n k r c):n.args.length≤5:=by
 have hf:=h.f
 cases n with
 | serve op a b d l=>
  have hf:qP op=l.length:=hf
  unfold qP at hf
  show l.length≤5
  split at hf
  ·omega
  ·split at hf
   ·omega
   ·split at hf
    ·omega
    ·split at hf<;>omega
 | call m d l=>have:=hf.2;show l.length≤5;omega
 | callX m d l=>have:=hf.2;show l.length≤5;omega
 | _=>exact Nat.zero_le _
theorem TX.fr {B:Nat} {w':World} {v:Value} {l:List aI} {S:Nat→Prop} (h:TX B w v l) (f:Fr S w w') (hS:∀ k,B≤k→k < w.heap.size→¬ S k):TX B w' v l:=by
 obtain ⟨xs,h1,h2⟩:=h
 refine ⟨xs,f.own h1 fun k hk=>hS k (h1.lt k hk).1 (h1.lt k hk).2,fun k n hn=>?_⟩
 obtain ⟨u,h3,h4⟩:=h2 k n hn
 exact ⟨u,h3,h4.fr f hS⟩
def gX (i:dW) (k:Nat) (st:Tc.St) (r:List Bool):dG:=⟨(i.meth k).params.length,18,nE i (i.meth k) st r⟩
structure aAg (i:dW) (k:Nat) (ap:Int) (st:Tc.St) (r:List Bool) (of:List Int) (s:Int) (f:List Nat):Prop where
 wk:oZ i (i.meth k) (some st)
 rc:AJ i (i.meth k) st [] r
 gd:oP (gX i k st r) 18 of s
 al:AlR (gX i k st r) 18 (eZ [] (pV (gX i k st r) 18)).length of s
 fo:zO (mK (gX i k st r) of ap) f
 re:∀ q,q < (mK (gX i k st r) of ap).length→iU (mK (gX i k st r) of ap) f q=true
def hwK (i:dW) (k:Nat) (ap:Int) (st:Tc.St) (r:List Bool) (of:List Int) (f:List Nat):List Nat:=yP (oK (mK (gX i k st r) of ap) f (mK (gX i k st r) of ap).length)
set_option maxHeartbeats 4000000 in
theorem aYi {T:Value→aI→Prop} {P:dG} {g n:Nat} {ap:Int} {xs:List Value} {na:Option Addr} {nc:Nat} {J:NP 2} (hok:kK P) (hR:P.regs=18) (ha:0≤ap∧ap < 4) (hn:P.nodes.length=n)
  (hb:bG w g [i64 P.params,i64 P.regs,.slice na n nc]) (hps:aA w (.slice na n nc) 1 n xs) (hvn:∀ (q:Nat) m,P.nodes[q]?=some m→∃ u,xs[q]?=some u∧iY w u m∧T u m)
  (hJ:∀ of s gB iv ta tc ys w',oP P 18 of s→AlR P 18 (eZ [] (pV P 18)).length of s→bO w' gB [iv,.slice ta (hY P).length tc,i64 (4*s)] 68→aA w' iv 11 (mK P of ap).length (itC (mK P of ap))→w'.ownsRow w.heap.size 43 1 (.slice ta (hY P).length tc) (hY P).length ys→(∀ (q:Nat) m,(hY P)[q]?=some m→∃ u,ys[q]?=some u∧T u m)→aF w w'→J (.pointer (some ⟨gB,0,none⟩)) (i64 0) w') :
  aM w fun S2 w10=>
 aE prog S2 (Instr.loadAt 33 (.pointer (some ⟨g,0,none⟩))) fun t25=>
 aE prog S2 (Instr.loadAt 33 (.pointer (some ⟨g,0,none⟩))) fun t26=>
 (aB prog 18 #[t26] w10 fun t27 w11=>
 S2 w11 ∧
 (aB prog 17 #[t25,t27,i64 ap] w11 fun t29 w12=>
 S2 w12 ∧
 aE prog S2 (Instr.extract t29 0) fun t30=>
 aE prog S2 (Instr.extract t29 1) fun t31=>
 V prog (Instr.alloc 68 true (.tuple #[])) w12 fun t13 w13=>
 S2 w13 ∧
 U prog (Instr.storeAt 68 t13 t30) w13 fun _ w14=>
 S2 w14 ∧
 J t13 t31 w14) ∧
 (V prog (Instr.alloc 68 true (.tuple #[])) w11 fun t13 w15=>
 S2 w15 ∧
 aB prog 17 #[t25,t27,i64 ap] w15 fun t29 w16=>
 S2 w16 ∧
 aE prog S2 (Instr.extract t29 0) fun t30=>
 aE prog S2 (Instr.extract t29 1) fun t31=>
 U prog (Instr.storeAt 68 t13 t30) w16 fun _ w17=>
 S2 w17 ∧
 J t13 t31 w17)) ∧
 (V prog (Instr.alloc 68 true (.tuple #[])) w10 fun t13 w18=>
 S2 w18 ∧
 aB prog 18 #[t26] w18 fun t27 w19=>
 S2 w19 ∧
 aB prog 17 #[t25,t27,i64 ap] w19 fun t29 w20=>
 S2 w20 ∧
 aE prog S2 (Instr.extract t29 0) fun t30=>
 aE prog S2 (Instr.extract t29 1) fun t31=>
 U prog (Instr.storeAt 68 t13 t30) w20 fun _ w21=>
 S2 w21 ∧
 J t13 t31 w21):=by
 have D:aF w w.drew:=(aF.refl _).drew
 have hP:pD w (.agg #[i64 P.params,i64 P.regs,.slice na n nc]) P:=by
  refine ⟨_,rfl,⟨xs,by rw [hn];exact hps,fun q m hq=>?_⟩,fun m hm=>?_⟩
  ·obtain ⟨u,h1,h2,_⟩:=hvn q m hq
   exact ⟨u,h1,h2⟩
  ·obtain ⟨a,ha⟩:=List.getElem?_of_mem hm
   have:=(hok.nodes a m ha).al
   omega
 have sz:=D.size
 have A:∀ {w':World} {K':Value→World→Prop},aF w.drew w'→(∀ ov of s w'',aN w'' ov of→oP P 18 of s→AlR P 18 (eZ [] (pV P 18)).length of s→aF w' w''→K' (.agg #[ov,i64 s]) w'')→aB prog 18 #[.agg #[i64 P.params,i64 P.regs,.slice na n nc]] w' K':=by
  intro w' K' hx hk'
  refine (aIb (p:=P) (R:=18) ((hP.ext D).ext hx) hok hR (Q:=fun a of s=>AlR P 18 a of s) AlR.z (fun a of s q at' _ hq hi _ hm ha hn=>.s a of s q at' hq hi hm ha hn)).mono fun v w'' ⟨⟨ov,of,s,hr,ho,hg,hq⟩,x⟩=>?_
  subst hr
  exact hk' ov of s w'' ho hg hq x
 have E:∀ {w':World} {K':Value→World→Prop} {ov:Value} {of:List Int} {s:Int},aF w.drew w'→aN w' ov of→oP P 18 of s→(∀ iv ta tc ys w'',w''.ownsRow w'.heap.size 180 11 iv (mK P of ap).length (itC (mK P of ap))→w''.ownsRow w'.heap.size 43 1 (.slice ta (hY P).length tc) (hY P).length ys→(∀ (q:Nat) m,(hY P)[q]?=some m→∃ u,ys[q]?=some u∧T u m)→cO iv=true→aF w' w''→K' (.tuple #[.agg #[iv,.slice ta (hY P).length tc,i64 (4*s)],i64 0]) w'')→aB prog 17 #[.agg #[i64 P.params,i64 P.regs,.slice na n nc],.agg #[ov,i64 s],i64 ap] w' K':=by
  intro w' K' ov of s hx ho hgd hk'
  refine bCb (T:=T) (vs0:=xs) ((hP.ext D).ext hx) (by rw [hn];exact (hps.ext D).ext hx) (fun q m hq=>?_) hok (R:=18) hR ho hgd ha fun iv tv ys w'' i1 i2 i3 x=>?_
  ·obtain ⟨u,h1,h2,h3⟩:=hvn q m hq
   exact ⟨u,h1,(h2.ext D).ext hx,h3⟩
  ·obtain ⟨ta,tc,rfl⟩:=(aA.of_own i2).shape
   refine hk' iv ta tc ys w'' i1 i2 (fun q m hq=>?_) (nX i1) x
   obtain ⟨u,h1,_,h3⟩:=i3 q m hq
   exact ⟨u,h1,h3⟩
 have Lp:∀ w',aF w.drew w'→bG w' g _:=fun w' hx=>(hb.ext D).ext hx
 have one:∀ {iv:Value} {ta tc:_} {s:Int},cO iv=true→([iv,.slice ta (hY P).length tc,i64 (4*s)]:List Value).all cO=true:=fun h=>by show (cO _&&_)=true;rw [h];rfl
 refine aM.mk' (fun w'=>aF w.drew w') (aF.refl _) ?_
 refine yA Lp qC rfl (yA Lp qC rfl ⟨A (aF.refl _) fun ov of s w5 ho hgd hal x5=>⟨x5,?_,?_⟩,?_⟩)
 ·refine E x5 ho hgd fun iv ta tc ys w6 i1 i2 i3 i4 x6=>?_
  have x56:=x5.trans x6
  refine ⟨x56,aE.ok (fun _ _=>nB) (aE.ok (fun _ _=>nA) (AP uA fun w7 h7 x7=>?_))⟩
  have h7:bO w7 w6.heap.size [aZ,aZ,i64 0] 68:=h7
  have x57:=x56.trans x7
  refine ⟨x57,zS uA h7 (l:=[iv,.slice ta (hY P).length tc,i64 (4*s)]) rfl rfl rfl (one i4) fun w8 h8 hc=>?_⟩
  have x68:=hc.ext _ x7 (Nat.le_refl _)
  have x58:=x56.trans x68
  exact ⟨x58,hJ of s _ iv ta tc ys w8 hgd hal h8 (aA.of_own (x68.own i1)) (aX (x68.own i2) (Nat.le_trans sz x5.size)) i3 (D.trans x58)⟩
 ·refine AP uA fun w6 h6 x6=>⟨x5.trans x6,E (x5.trans x6) (ho.ext x6) hgd fun iv ta tc ys w7 i1 i2 i3 i4 x7=>?_⟩
  have h6:bO w6 w5.heap.size [aZ,aZ,i64 0] 68:=h6
  have x57:=x6.trans x7
  refine ⟨x5.trans x57,aE.ok (fun _ _=>nB) (aE.ok (fun _ _=>nA) ?_)⟩
  refine zS uA (h6.ext x7) (l:=[iv,.slice ta (hY P).length tc,i64 (4*s)]) rfl rfl rfl (one i4) fun w8 h8 hc=>?_
  have x58:=x5.trans (hc.ext _ x57 (Nat.le_refl _))
  have hlt:=h6.lt
  have f8:=rR hc
  have ne:∀ q,w6.heap.size≤q→¬ q=w5.heap.size:=fun q _ _=>by omega
  exact ⟨x58,hJ of s _ iv ta tc ys w8 hgd hal h8 (aA.of_own (f8.own i1 fun q hq=>ne q (i1.lt q hq).1)) (aX (f8.own i2 fun q hq=>ne q (i2.lt q hq).1) (Nat.le_trans sz (x5.trans x6).size)) i3 (D.trans x58)⟩
 ·refine AP uA fun w5 h5 x5=>⟨x5,A x5 fun ov of s w6 ho hgd hal x6=>⟨x5.trans x6,E (x5.trans x6) ho hgd fun iv ta tc ys w7 i1 i2 i3 i4 x7=>?_⟩⟩
  have h5:bO w5 w.drew.heap.size [aZ,aZ,i64 0] 68:=h5
  have x57:=x5.trans (x6.trans x7)
  refine ⟨x57,aE.ok (fun _ _=>nB) (aE.ok (fun _ _=>nA) ?_)⟩
  refine zS uA (h5.ext (x6.trans x7)) (l:=[iv,.slice ta (hY P).length tc,i64 (4*s)]) rfl rfl rfl (one i4) fun w8 h8 hc=>?_
  have x58:=hc.ext _ x57 (Nat.le_refl _)
  have hlt:=h5.lt
  have s6:=x6.size
  have f8:=rR hc
  have ne:∀ q,w6.heap.size≤q→¬ q=w.drew.heap.size:=fun q _ _=>by omega
  exact ⟨x58,hJ of s _ iv ta tc ys w8 hgd hal h8 (aA.of_own (f8.own i1 fun q hq=>ne q (i1.lt q hq).1)) (aX (f8.own i2 fun q hq=>ne q (i2.lt q hq).1) (Nat.le_trans sz (x5.trans x6).size)) i3 (D.trans x58)⟩
set_option maxHeartbeats 4000000 in
theorem aFu {p:gF} {i:dW} {k:Nat} {ap at':Int} (h:kL w p i) (hn:kN w i) (hrg:i.rg) (ht:kZ i) (hkl:k < i.methods.length) (ha:0≤ap∧ap < 4)
  (hK:∀ st r of s f hv tv w',aAg i k ap st r of s f→rJ w' w.heap.size hv (hwK i k ap st r of f)→TX w.heap.size w' tv (hY (gX i k st r))→aF w w'→K (.tuple #[.agg #[i64 at',i64 (4*s),hv,tv],i64 0]) w') :
  aB prog 29 #[p.val i,i64 k,i64 ap,i64 at'] w K:=by
 apply bFs
 unfold ZQ gF.val
 have m8:=ht.1.2.2.1.1.2
 refine bx fun b1 w1 hb1 x1=>?_
 have hb1:bG w1 b1 [.string i.name,p.fv,p.iv,p.mv,p.xv]:=hb1
 refine AP xM fun w2 hB x2=>?_
 have hB:bO w2 w1.heap.size [i64 0,i64 0,aZ,aZ] 61:=hB
 have x02:=x1.trans x2
 have hg:=x1.size
 have hg2:=hB.lt
 refine iQ (hb1.ext x2) lF rfl ?_
 generalize w1.heap.size=g at hB hg hg2
 refine VQ (p:=p) (i:=i) (k:=k) (h.ext x02) (hn.ext x02) hrg (fun st r nv sv w3 _ _ _ hw Rc hN hS x3=>?_) fun w3 hne x3=>absurd ⟨ht,by omega,by omega⟩ hne
 have hok:kK (gX i k st r):=rD ht hkl hw Rc
 obtain ⟨xs,ho3,hx3⟩:=hN
 obtain ⟨na,nc,rfl⟩:=(aA.of_own ho3).shape
 have hvn:∀ (q:Nat) n,(gX i k st r).nodes[q]?=some n→∃ u,xs[q]?=some u∧iY w3 u n∧jU w2.heap.size w3 u n:=fun q n hq=>by
  obtain ⟨u,h1,h2⟩:=hx3 q n hq
  exact ⟨u,h1,h2.is,h2⟩
 refine yG.2 (yF.2 (yE.2 ?_))
 refine sI aDx rfl rfl fun w4 hp4 x4=>?_
 have hp4:bO w4 w3.heap.size [i64 (gX i k st r).params,i64 (gX i k st r).regs,.slice na (nE i (i.meth k) st r).length nc] 33:=hp4
 refine ⟨fun bp ev w'=>∃ of s gB iv ta tc ys,bp=.pointer (some ⟨gB,0,none⟩)∧ev=i64 0∧oP (gX i k st r) 18 of s∧AlR (gX i k st r) 18 (eZ [] (pV (gX i k st r) 18)).length of s∧bO w' gB [iv,.slice ta (hY (gX i k st r)).length tc,i64 (4*s)] 68 ∧
  aA w' iv 11 (mK (gX i k st r) of ap).length (itC (mK (gX i k st r) of ap))∧w'.ownsRow w4.heap.size 43 1 (.slice ta (hY (gX i k st r)).length tc) (hY (gX i k st r)).length ys∧(∀ (q:Nat) n,(hY (gX i k st r))[q]?=some n→∃ u,ys[q]?=some u∧jU w2.heap.size w3 u n)∧aF w4 w',
  aYi (T:=fun u n=>jU w2.heap.size w3 u n) hok rfl ha rfl hp4.boxed (aA.ext (aA.of_own ho3) x4) (fun q n hq=>?_) fun of s gB iv ta tc ys w' a b c d e f x=>⟨of,s,gB,iv,ta,tc,ys,rfl,rfl,a,b,c,d,e,f,x⟩,?_⟩
 ·obtain ⟨u,h1,h2,h3⟩:=hvn q n hq
  exact ⟨u,h1,h2.ext x4,h3⟩
 rintro _ _ w5 ⟨of,s,gB,iv,ta,tc,ys,rfl,rfl,hgd,hal,hb5,hi5,ht5,hy5,x5⟩ _
 refine dB.2 (aD (fun h=>absurd rfl h) fun _=>?_)
 have hasm:=xS (applet:=ap) hok (R:=18) rfl hgd.ofOk
 have htop:=aCc (of:=of) (applet:=ap) hok (R:=18) rfl
 refine bF hb5.boxed lP LH rfl ?_
 refine TO hi5 hasm.1 htop fun hv lv f w6 hf hre hhv x6=>?_
 refine yG.2 (yF.2 (yE.2 ?_))
 obtain ⟨va,vc,rfl⟩:=(aA.of_own hhv).shape
 refine bF (hb5.ext x6).boxed pH aH rfl (bF (hb5.ext x6).boxed mV kE rfl ?_)
 refine pP bIm [(0,i64 at'),(1,i64 (4*s)),(2,_),(3,.slice ta (hY (gX i k st r)).length tc)] rfl rfl ?_
 have x26:=x3.trans (x4.trans (x5.trans x6))
 have s2:=x3.size
 have sD:=x4.size
 have s5:=x5.size
 have x56:=x5.trans x6
 refine zS xM (hB.ext x26) (l:=[i64 at',i64 (4*s),_,.slice ta (hY (gX i k st r)).length tc]) rfl rfl rfl rfl fun w7 hB7 hc=>?_
 have f7:=rR hc
 have k7:∀ {B:Nat} {e:TypeId} {v:Value} {n:Nat} {zs:List Value},w2.heap.size≤B→w6.ownsRow B e 1 v n zs→w7.ownsRow w.heap.size e 1 v n zs:=fun hB' ho=>aX (f7.own ho fun q hq hS=>by have:=(ho.lt q hq).1;have hS:q=g:=hS;omega) (by omega)
 refine ⟨_,pZ underlying61 rfl xM hB7 rfl,⟨_,rfl⟩,hK st r of s f _ _ w7 ⟨hw,Rc,hgd,hal,hf,hre⟩ (k7 (by omega) hhv) ⟨ys,k7 (by omega) (x6.own ht5),fun q n hq=>?_⟩ (hc.ext _ (x02.trans x26) hg)⟩
 obtain ⟨u,h1,sv,h2,h3⟩:=hy5 q n hq
 exact ⟨u,h1,sv,h2,k7 (Nat.le_refl _) ((x4.trans x56).own h3)⟩
structure EU where
 at_:Int
 fr:Int
 hw:List Nat
 tab:List aI
 hv:Value
 tv:Value
def EU.cells (x:EU):List Value:=[i64 x.at_,i64 x.fr,x.hv,x.tv]
def EU.lies (w:World) (x:EU):Prop:=aA w x.hv 1 x.hw.length (hwC x.hw)∧pR w x.tv x.tab
def aAh (w:World) (row:List Value) (x:EU):Prop:=row=x.cells∧x.lies w
def BM (w:World) (v:Value) (l:List EU):Prop:=bV aAh 4 w v l
theorem aAh.ext {w':World} {row:List Value} {x:EU} (h:aAh w row x) (hx:aF w w'):aAh w' row x:=⟨h.1,aA.ext h.2.1 hx,h.2.2.ext hx⟩
theorem BM.ext {w':World} {v:Value} {l:List EU} (h:BM w v l) (hx:aF w w'):BM w' v l:=bV.ext (fun h k=>h.ext k) h hx
def cdC (l:List EU):List Value:=l.flatMap EU.cells
theorem WO:∀ {l:List EU} {k:Nat} {x:EU},l[k]?=some x→((cdC l).drop (k*4)).take 4=x.cells
 | [],_,_,h=>by simp at h
 | y::l,0,x,h=>by simp at h;subst h;simp [cdC,EU.cells]
 | y::l,k+1,x,h=>by
  have:=WO (l:=l) (k:=k) (by simpa using h)
  simp only [cdC,List.flatMap_cons] at this ⊢
  rw [show (k+1)*4=4+k*4 by omega,← List.drop_drop,List.drop_left' (by rfl)]
  exact this
def ET (i:dW) (k:Nat) (ap:Int) (x:EU):Prop:=∃ st r of s f,aAg i k ap st r of s f∧x.fr=4*s∧x.hw=hwK i k ap st r of f∧x.tab=hY (gX i k st r)
def HN (a:Int) (n:Nat):Int:=(a+2*n+3) / 4*4
def nU (a:Int) (l:List EU):Int:=l.foldl (fun a x=>HN a x.hw.length) a
theorem GT {a:Int} {l:List EU} {x:EU}:nU a (l++[x])=HN (nU a l) x.hw.length:=by simp [nU]
def UA (i:dW) (ap a:Int) (l:List EU):Prop:=∀ (j:Nat) x,l[j]?=some x→x.at_=nU a (l.take j)∧ET i j ap x
theorem ET.fits {i:dW} {k:Nat} {ap:Int} {x:EU} (ht:kZ i) (hk:k < i.methods.length) (h:ET i k ap x):HG x.hw∧(∀ q∈x.hw,q < 65536)∧2*x.hw.length+4≤512+96*(i.meth k).code.length:=by
 obtain ⟨st,r,of,s,f,h,_,e,_⟩:=h
 have hok:kK (gX i k st r):=rD ht hk h.wk h.rc
 have ha:=MM (xS (applet:=ap) hok (R:=18) rfl h.gd.ofOk).1 h.fo h.re
 have hl:=aBo i (i.meth k) st r
 have hmi:=gP (i:=i) (a:=(k:Int)) (by omega) (by omega)
 rw [Int.toNat_natCast] at hmi
 have hlo:=(ht.1.2.2.1.2.1 _ (List.mem_of_getElem? hmi)).2.2.1.2
 have htop:=aBn (of:=of) (applet:=ap) hok (R:=18) rfl hl (by omega)
 rw [e]
 exact ⟨ha.1,ha.2.1,by have:=ha.2.2.2;unfold hwK;omega⟩
theorem RF (a:Int) (n:Nat):a+2*n≤HN a n∧HN a n≤a+2*n+3∧HN a n % 4=0:=by unfold HN;omega
theorem aCn (l:List fU) (j:Nat):tB (l.take j)≤tB l:=by
 have h:tB l=tB (l.take j)+tB (l.drop j):=by
  unfold tB
  rw [← List.sum_append,← List.map_append,List.take_append_drop]
 omega
theorem JB {i:dW} {ap a:Int} {l:List EU} (ht:kZ i) (h:UA i ap a l) (hl:l.length≤i.methods.length):∀ j,j≤l.length→a≤nU a (l.take j)∧nU a (l.take j)≤a+tB (i.methods.take j)∧(a % 4=0→nU a (l.take j) % 4=0)
 | 0,_=>⟨by simp [nU],by simp [nU,tB],fun h=>by simpa [nU] using h⟩
 | j+1,hj=>by
  obtain ⟨h1,h2,h3⟩:=JB ht h hl j (by omega)
  obtain ⟨x,hx⟩:=bC (l:=l) (j:=j) (by omega)
  have hmi:=gP (i:=i) (a:=(j:Int)) (by omega) (by omega)
  rw [Int.toNat_natCast] at hmi
  have hf:=((h j x hx).2.fits ht (by omega)).2.2
  have e:l.take (j+1)=l.take j++[x]:=by rw [List.take_add_one,hx];rfl
  rw [e,GT,zJ hmi]
  have:=RF (nU a (l.take j)) x.hw.length
  exact ⟨by omega,by omega,fun _=>this.2.2⟩
set_option maxHeartbeats 4000000 in
theorem zH {p:gF} {i:dW} {ap a0:Int} (h:kL w p i) (hn:kN w i) (hrg:i.rg) (ha:0≤ap∧ap < 4) (h0:0≤a0∧a0 % 4=0) (h1:a0≤10000000)
  (no1:∀ w',¬ kZ i→aF w w'→K (.tuple #[aZ,i64 0,i64 1]) w') (no2:∀ w',kZ i→¬ (a0+tB i.methods≤131072)→aF w w'→K (.tuple #[aZ,i64 0,i64 16]) w')
  (yes:∀ v l w',kZ i→a0+tB i.methods≤131072→BM w' v l→l.length=i.methods.length→UA i ap a0 l→aF w w'→K (.tuple #[v,i64 (nU a0 l),i64 0]) w') :
  aB prog 11 #[p.val i,i64 ap,i64 a0] w K:=by
 apply bGf
 unfold aAe
 refine bx fun b1 w1 hb1 x1=>?_
 have hb1:bG w1 b1 [.string i.name,p.fv,p.iv,p.mv,p.xv]:=hb1
 refine iQ hb1 lF rfl ?_
 refine FF (p:=p) (i:=i) (h.ext x1) (hn.ext x1) hrg fun a b e w2 he x2=>?_
 refine gU.2 (gT.2 ?_)
 refine wJ KE rfl rfl fun b3 w3 _ x3=>?_
 have x13:=x2.trans x3
 have x03:=x1.trans x13
 refine dB.2 ?_
 by_cases ht:kZ i
 case neg=>
  have hne:e≠0:=fun hz=>ht (he.1 hz)
  simp only [hne,aS,not_false_eq_true,ne_eq,reduceIte,decide_true]
  exact no1 w3 ht x03
 have hez:e=0:=he.2 ht
 subst hez
 have c1:¬ ap < 0:=by omega
 have c2:¬ ap≥4:=by omega
 have c3:¬ a0 < 0:=by omega
 simp only [c1,c2,c3,aS,not_true_eq_false,ne_eq,reduceIte,Bool.false_eq_true,decide_false]
 refine (aZh (by decide)).2 ?_
 rw [show a0.tmod 4=0 by rw [Int.tmod_eq_emod_of_nonneg (by omega)];omega]
 refine dB.2 ?_
 simp only [aS,not_true_eq_false,ne_eq,decide_false]
 have m8:=ht.1.2.2.1.1.2
 by_cases c4:a0 > 131072
 ·simp only [c4,aS,reduceIte,decide_true]
  exact no2 w3 ht (by omega) x03
 simp only [c4,aS,reduceIte,Bool.false_eq_true,decide_false]
 have hb3:=hb1.ext x13
 refine iQ hb3 lF rfl ?_
 refine WP (p:=p) (i:=i) (h.ext x03) ht fun w4 x4=>?_
 have hbl:=xZ (rV ht) i.methods.length
 rw [List.take_length] at hbl
 refine fR.2 (iT.2 ?_)
 rw [aC (by omega) (by omega)]
 by_cases c5:(tB i.methods:Int) > 131072 - a0
 ·simp only [c5,aS,decide_true]
  exact no2 w4 ht (by omega) (x03.trans x4)
 simp only [c5,aS,decide_false]
 have x04:=x03.trans x4
 have hb4:=hb3.ext x4
 refine bF hb4 bP dN rfl (yO iR (h.ext x04).mt ?_)
 refine ⟨fun t u k w'=>∃ (j:Nat) (l:List EU),k=i64 j∧j≤i.methods.length∧l.length=j∧t=i64 (nU a0 l)∧UA i ap a0 l∧aF w4 w'∧w'.ownsRow w4.heap.size 61 4 u l.length (cdC l)∧∀ x∈l,∀ w'',Fr (fun k=>u.ownBlock=some k) w' w''→x.lies w'',fun _ _ k _=>i.methods.length - (RowKit.intOf k).toNat,⟨0,[],rfl,Nat.zero_le _,rfl,rfl,fun j x hx=>by simp at hx,aF.refl _,World.ownsRow_nil _ _ _ _,fun _ hx=>by simp at hx⟩,?_⟩
 rintro _ u _ w5 ⟨j,l,rfl,hj,hl,rfl,hok,x5,ho,hst⟩ _
 have x05:=x04.trans x5
 have heb:=JB ht hok (by omega) j (by omega)
 rw [← hl,List.take_length] at heb
 have hbm:=aCn i.methods l.length
 refine aY.2 (aD (fun hlt=>?_) fun hge=>?_)
 case refine_2=>
  exact yes u l w5 ht (by omega) ⟨cdC l,aA.of_own ho,fun k x hx=>⟨_,WO hx,rfl,hst x (List.mem_of_getElem? hx) w5 (Fr.refl _ _)⟩⟩ (by omega) hok x05
 refine iQ (hb4.ext x5) lF rfl ?_
 refine aFu (p:=p) (i:=i) (k:=j) (h.ext x05) (hn.ext x05) hrg ht (by omega) ha fun st r of s f hv tv w6 hc hhv htv x6=>?_
 obtain ⟨x,hx⟩:∃ x:EU,x=⟨nU a0 l,4*s,hwK i j ap st r of f,hY (gX i j st r),hv,tv⟩:=⟨_,rfl⟩
 have hxo:ET i j ap x:=⟨st,r,of,s,f,hc,by rw [hx],by rw [hx],by rw [hx]⟩
 have hxf:=(hxo.fits ht (by omega)).2.2
 have hmi:=gP (i:=i) (a:=(j:Int)) (by omega) (by omega)
 rw [Int.toNat_natCast] at hmi
 have hcl:=(rV ht) _ (List.mem_of_getElem? hmi)
 refine gU.2 (gT.2 ?_)
 have one:x.cells.all cO=true:=by
  obtain ⟨xs,ht1,_⟩:=htv
  rw [hx]
  show (cO _&&(cO _&&(cO hv&&(cO tv&&true))))=true
  rw [nX hhv,nX ht1];rfl
 rw [show (Value.agg #[i64 (nU a0 l),i64 (4*s),hv,tv])=.agg x.cells.toArray by rw [hx];rfl]
 refine sI bHg (by rw [hx];rfl) one fun w7 hB7 x7=>?_
 have hB7:bO w7 w6.heap.size x.cells 61:=hB7
 refine dB.2 (aD (fun h=>absurd rfl h) fun _=>?_)
 have x57:=x6.trans x7
 refine iQ (cs:=x.cells) hB7.boxed bIb (by rw [hx];rfl) ?_
 refine zI underlying48 xM rfl (by decide) [.agg x.cells.toArray] rfl rfl (by intro v hv';rw [List.mem_singleton] at hv';subst hv';rw [hx];rfl) (by decide) (by decide) fun v8 w8 ho8 x8=>?_
 have e8:([Value.agg x.cells.toArray].flatMap fun v=>v.cells.toList)=x.cells:=by rw [hx];rfl
 rw [e8] at ho8
 have x48:=x5.trans (x57.trans x8)
 refine apG underlying48 xM rfl (by decide) ((x57.trans x8).own ho) (aA.of_own ho8) one (by omega) (by unfold maxLen;omega) x48.size fun v9 w9 ho9 hg9 hl9=>?_
 have x49:aF w4 w9:=x48.grown hg9 fun k hk=>(ho.lt k hk).1
 have f9:Fr (fun k=>u.ownBlock=some k) w8 w9:=Fr.of_grown hg9 fun k hk=>hk
 have s78:=x8.size
 have s57:=x57.size
 have s5:=x6.size
 have hB9:=f9.blk (hB7.ext x8) fun hk=>by have:=(ho.lt _ hk).2;omega
 have hhv9:rJ w9 w5.heap.size hv (hwK i j ap st r of f):=f9.own ((x7.trans x8).own hhv) fun q hq hS=>by have:=(hhv.lt q hq).1;have:=(ho.lt q hS).2;omega
 refine bF (cs:=[i64 (nU a0 l),i64 (4*s),hv,tv]) (by rw [hx] at hB9;exact hB9.boxed) oH aGi rfl (gG aDf (aA.of_own hhv9) ?_)
 have hlen:(hwK i j ap st r of f).length=x.hw.length:=by rw [hx]
 rw [hlen]
 have hbj:=xZ (rV ht) j
 have e1:(nU a0 l+2*x.hw.length+4 - 1).tdiv 4*4=HN (nU a0 l) x.hw.length:=by
  rw [Int.tdiv_eq_ediv_of_nonneg (by omega)]
  unfold HN
  omega
 have e2:=RF (nU a0 l) x.hw.length
 refine oO.2 (aU.2 (aU.2 (fR.2 ((XG (by decide)).2 (oO.2 (aU.2 ?_))))))
 rw [show IntKind.i64.wrap (2*(x.hw.length:Int))=2*x.hw.length from aC (by omega) (by omega),show IntKind.i64.wrap (nU a0 l+2*(x.hw.length:Int))=nU a0 l+2*x.hw.length from aC (by omega) (by omega),
  show IntKind.i64.wrap (nU a0 l+2*(x.hw.length:Int)+4)=nU a0 l+2*x.hw.length+4 from aC (by omega) (by omega),show IntKind.i64.wrap (nU a0 l+2*(x.hw.length:Int)+4 - 1)=nU a0 l+2*x.hw.length+4 - 1 from aC (by omega) (by omega),
  show IntKind.i64.wrap ((nU a0 l+2*(x.hw.length:Int)+4 - 1).tdiv 4)=(nU a0 l+2*x.hw.length+4 - 1).tdiv 4 from aC (by omega) (by omega),e1,aC (by omega) (by omega),aC (by omega) (by omega),aR]
 refine ⟨⟨j+1,l++[x],rfl,by omega,by simp [hl],by rw [GT],fun q y hq=>?_,x49,?_,fun y hy=>?_⟩,by simp only [aL];omega⟩
 ·rw [List.getElem?_append] at hq
  split at hq
  ·rename_i hql
   rw [List.take_append_of_le_length (by omega)]
   exact hok q y hq
  ·rename_i hql
   have hq0:q=l.length:=by
    have:=(List.getElem?_eq_some_iff.1 hq).1
    simp at this;omega
   subst hq0
   simp at hq
   subst hq
   rw [List.take_left,hl]
   exact ⟨by rw [hx],hxo⟩
 ·have e3:cdC (l++[x])=cdC l++x.cells:=by simp [cdC]
  rw [e3,List.length_append]
  exact ho9
 ·have f89:∀ {w''},Fr (fun k=>v9.ownBlock=some k) w9 w''→Fr (fun k=>u.ownBlock=some k) w8 w'':=fun f=>f9.trans f fun k hk hk'=>by
   rcases hl9 with h9|h9
   ·rw [h9] at hk';exact hk'
   ·rw [h9] at hk';cases hk';omega
  intro w'' fy
  rcases List.mem_append.1 hy with hy|hy
  ·exact hst y hy w'' ((Fr.of_ext (x57.trans x8)).trans (f89 fy) fun _ _ h=>h)
  ·rw [List.mem_singleton] at hy
   subst hy
   have fx:Fr (fun k=>u.ownBlock=some k) w6 w'':=(Fr.of_ext (x7.trans x8)).trans (f89 fy) fun _ _ h=>h
   have hS:∀ q,w5.heap.size≤q→¬ u.ownBlock=some q:=fun q hq hS=>by have:=(ho.lt q hS).2;omega
   have l1:aA w'' hv 1 (hwK i j ap st r of f).length (hwC (hwK i j ap st r of f)):=aA.of_own (fx.own hhv fun q hq=>hS q (hhv.lt q hq).1)
   have l2:=(htv.fr fx fun q hq _=>hS q hq).nodes
   rw [hx]
   exact ⟨l1,l2⟩
theorem GU {p:dG} {of:List Int} {ap:Int} {a:Nat} {x:cF}:∀ k,a < k→x∈oM of p.nodes.length ap (fY p of ap a).2.length (p.at' a) a→x∈(fY p of ap k).1
 | 0,h,_=>absurd h (Nat.not_lt_zero _)
 | k+1,h,hx=>by
  show x∈(fY p of ap k).1++.place k::oM of p.nodes.length ap (fY p of ap k).2.length (p.at' k) k
  rw [List.mem_append,List.mem_cons]
  by_cases hk:a=k
  ·subst hk;exact .inr (.inr hx)
  ·exact .inl (GU k (by omega) hx)
theorem MK {l:List cF} {f:List Nat} (hf:f.length=l.length) (a:Nat):∀ n,a+n≤l.length→sH l f a≤sH l f (a+n)
 | 0,_=>Nat.le_refl _
 | n+1,h=>by
  have ih:=MK hf a n (by omega)
  obtain ⟨x,hx⟩:=bC (l:=l) (j:=a+n) (by omega)
  have:=yB hf hx
  rw [← Nat.add_assoc,this];omega
theorem aAg.ne {i:dW} {k:Nat} {ap s:Int} {st:Tc.St} {r:List Bool} {of:List Int} {f:List Nat} (ht:kZ i) (hk:k < i.methods.length) (h:aAg i k ap st r of s f):0 < (hwK i k ap st r of f).length:=by
 have hok:kK (gX i k st r):=rD ht hk h.wk h.rc
 have ha:=MM (xS (applet:=ap) hok (R:=18) rfl h.gd.ofOk).1 h.fo h.re
 have hz:r.getD 0 false=true:=by rcases h.rc.z with hz|hz;exact hz;cases hz
 have hl0:0 < (i.meth k).code.length:=by have:=sY hz;have:=h.rc.rl;omega
 obtain ⟨t0,ht0,htl⟩:=xI (i:=i) (m:=i.meth k) (st:=st) (r:=r) (i.meth k).code.length 0 hl0 hz
 have htick:=(zY i (i.meth k) st r).2.2.2 0 t0 ht0 (by omega)
 rw [Int.toNat_natCast] at htick
 have hlt:=(List.getElem?_eq_some_iff.1 htick).1
 have hat:(gX i k st r).at' t0=.tick:=by
  show (nE i (i.meth k) st r).getD t0 .tick=_
  rw [List.getD_eq_getElem?_getD,htick];rfl
 have hm:cF.one ⟨44,0,0,0,0,0⟩∈mK (gX i k st r) of ap:=by
  refine GU (a:=t0) _ hlt ?_
  rw [hat]
  simp [oM,mL]
 obtain ⟨q,hq⟩:=List.getElem?_of_mem hm
 have hql:=(List.getElem?_eq_some_iff.1 hq).1
 have h1:=yB h.fo.len hq
 have h2:=MK h.fo.len (q+1) ((mK (gX i k st r) of ap).length - (q+1)) (by omega)
 rw [show q+1+((mK (gX i k st r) of ap).length - (q+1))=(mK (gX i k st r) of ap).length by omega] at h2
 have h3:=ha.2.2.1
 have h4:cF.size (.one ⟨44,0,0,0,0,0⟩) (f.getD q 0)=2:=rfl
 unfold hwK
 omega
theorem AJ.det {i:dW} {k:Nat} {st:Tc.St} {r r':List Bool} (hw:∀ q,r.getD q false=st.h q) (hw':∀ q,r'.getD q false=st.h q) (h:AJ i (i.meth k) st [] r) (h':AJ i (i.meth k) st [] r'):r'=r:=by
 apply List.ext_getElem?
 intro q
 have e:=(hw' q).trans (hw q).symm
 rw [List.getD_eq_getElem?_getD,List.getD_eq_getElem?_getD] at e
 have l1:=h.rl;have l2:=h'.rl
 by_cases hq:q < r.length
 ·have hq':q < r'.length:=by omega
  rw [List.getElem?_eq_getElem hq,List.getElem?_eq_getElem hq'] at e ⊢
  simpa using e
 ·rw [List.getElem?_eq_none (by omega),List.getElem?_eq_none (by omega)]
def mS:fU:=⟨[],0,[],[⟨39,0,0⟩]⟩
def iS:dW:=⟨⟨#[97]⟩,[],[],[mS],[]⟩
theorem HP:kZ iS:=by
 refine ⟨by simp [dW.right,rQ,rU,fU.right,jN.right,lim,dW.meth,iS,mS],fun m hm=>?_⟩
 have:m=mS:=by simpa [iS] using hm
 subst this
 refine ⟨⟨[[]],[true],[false]⟩,.inr ⟨by simp [mS,fA],?_⟩⟩
 exact .go (pc:=0) (s':=⟨[[]],[true],[false]⟩) rfl rfl (.done rfl)
theorem bHv (hT:rS w):kN w iS:=⟨fun w' hx=>
 have h:VL ⟨#[97]⟩ [⟨#[97]⟩,⟨#[]⟩] [0,1]=true:=by kernel_rfl
 ⟨LK (hT.ext hx) (xD h),GL (hT.ext hx) (xD h) (by kernel_rfl)⟩,fun x hx=>by simp [iS] at hx⟩
theorem UN (hk:∀ p w',kL w' p iS→aF w w'→K (p.val iS) w'):aB prog 34 #[] w K:=by
 apply bFr
 unfold ZP
 refine AP qU fun w0 hB x0=>?_
 have hB:bO w0 w.heap.size (List.replicate 5 aZ |>.set 0 (.string ByteArray.empty)) 27:=hB
 refine pP MH [(0,i64 39)] rfl rfl ?_
 refine zI underlying36 tZ rfl (by decide) [.agg #[i64 39,i64 0,i64 0]] rfl rfl (by intro v hv;rw [List.mem_singleton] at hv;subst hv;rfl) (by decide) (by decide) fun cv w1 hc1 x1=>?_
 obtain ⟨ca,cc,rfl⟩:=(aA.of_own hc1).shape
 refine pP WX [(3,_)] rfl rfl ?_
 refine zI underlying25 xN rfl (by decide) [.agg #[aZ,i64 0,aZ,.slice ca 1 cc]] rfl rfl (by intro v hv;rw [List.mem_singleton] at hv;subst hv;rfl) (by decide) (by decide) fun mv w2 hm2 x2=>?_
 obtain ⟨ma,mc,rfl⟩:=(aA.of_own hm2).shape
 refine pP aZf [(0,.string ⟨#[97]⟩),(3,_)] rfl rfl ?_
 have x02:=x1.trans x2
 have hlt:=hB.lt
 have s1:=x1.size
 refine zS qU (hB.ext x02) (l:=[.string ⟨#[97]⟩,aZ,aZ,.slice ma 1 mc,aZ]) rfl rfl rfl rfl fun w3 hB3 hc=>?_
 have f3:=rR hc
 have hm3:=f3.own hm2 fun q hq hS=>by have:=(hm2.lt q hq).1;have hS:q=w.heap.size:=hS;omega
 have hc3:=f3.own (x2.own hc1) fun q hq hS=>by have:=(hc1.lt q hq).1;have hS:q=w.heap.size:=hS;omega
 refine ⟨_,pZ underlying27 rfl qU hB3 rfl,⟨_,rfl⟩,hk ⟨aZ,aZ,.slice ma 1 mc,aZ⟩ w3 ⟨aA.nil _ _,⟨[],aA.nil _ _,fun k x hk=>by simp [iS] at hk⟩,?_,aA.nil _ _⟩ (hc.ext _ (x0.trans x02) (Nat.le_refl _))⟩
 refine ⟨[aZ,i64 0,aZ,.slice ca 1 cc],aA.of_own hm3,fun k x hk=>?_⟩
 match k,hk with
 | 0,hk=>cases hk;exact ⟨_,rfl,aZ,aZ,_,rfl,aA.nil _ _,aA.nil _ _,aA.of_own hc3⟩
 | k+1,hk=>simp [iS] at hk
theorem aPh (hT:rS w) (hk:∀ w',aF w w'→K (.bool true) w'):aB prog 15 #[] w K:=by
 apply bGe
 unfold aAc
 have rgS:dW.rg iS:=by simp [dW.rg,iS,mS,jN.rg]
 have hb:tB iS.methods=608:=rfl
 refine UN fun p w1 hA x1=>?_
 refine zH (p:=p) (i:=iS) (ap:=0) (a0:=8) hA (bHv (hT.ext x1)) rgS (by decide) (by decide) (by decide) (fun w2 hn _=>absurd HP hn) (fun w2 _ hn _=>absurd (by rw [hb];decide) hn) fun v l w2 ht _ hl hll hok x2=>?_
 have hll:l.length=1:=hll
 obtain ⟨x,rfl⟩:∃ x,l=[x]:=by
  match l,hll with
  | [x],_=>exact ⟨x,rfl⟩
 obtain ⟨hat,hcd⟩:=hok 0 x rfl
 have hat:x.at_=8:=hat
 have hfit:=(hcd.fits HP (by decide)).2.2
 have hc1:(iS.meth (0:Nat)).code.length=1:=rfl
 rw [hc1] at hfit
 obtain ⟨st,r,of,s,f,hcK,_,hhw,_⟩:=hcd
 have hne:=hcK.ne HP (by decide)
 rw [← hhw] at hne
 have hend:nU 8 [x]=HN 8 x.hw.length:=rfl
 have hup:=RF 8 x.hw.length
 refine yG.2 (yF.2 (yE.2 ?_))
 refine UN fun p3 w3 hA3 x3=>?_
 refine WP (p:=p3) (i:=iS) hA3 HP fun w4 x4=>?_
 have x24:=x3.trans x4
 rw [hb]
 have hl4:=hl.ext x24
 refine aK.2 ?_
 rw [decide_eq_true (by rfl)]
 simp only [aS,reduceIte,decide_true]
 refine yO tF hl4 ?_
 refine aK.2 ?_
 rw [decide_eq_true (by rfl)]
 simp only [aS,reduceIte]
 refine sQ tF qJ aH hl4 (i:=0) (e:=x) rfl fun row hrow=>⟨i64 x.at_,by rw [hrow.1];rfl,by decide,?_⟩
 refine aK.2 ?_
 rw [decide_eq_true hat]
 simp only [aS,reduceIte]
 refine sQ tF oH aGi hl4 (i:=0) (e:=x) rfl fun row hrow=>⟨x.hv,by rw [hrow.1];rfl,by decide,?_⟩
 refine gG aDf hrow.2.1 (iT.2 ?_)
 rw [decide_eq_true (by omega)]
 simp only [aS,reduceIte]
 refine (aZh (by decide)).2 (aK.2 ?_)
 rw [hend,Int.tmod_eq_emod_of_nonneg (by omega),decide_eq_true hup.2.2]
 simp only [aS,reduceIte]
 refine sQ tF oH aGi hl4 (i:=0) (e:=x) rfl fun row hrow=>⟨x.hv,by rw [hrow.1];rfl,by decide,?_⟩
 refine gG aDf hrow.2.1 (oO.2 (aU.2 (kO.2 ?_)))
 rw [show IntKind.i64.wrap (2*(x.hw.length:Int))=2*x.hw.length from aC (by omega) (by omega),aC (by omega) (by omega),decide_eq_true (by omega)]
 simp only [aS,reduceIte]
 rw [decide_eq_true (by omega)]
 exact hk w4 ((x1.trans x2).trans x24)
section
variable {S:World→Prop} {L:Value→Prop}
theorem bJf {α:Type} {T:World→List Value→α→Prop} {sz:Nat} {t x:TypeId} {v:Value} {l:List α} {i:Nat} {e:α} (h:XA prog t sz) (ht:∃ d z by_,Program.underlying prog x=some d∧lQ d=true∧dA prog x z sz by_) (hs:bV T sz w v l) (hx:∀ w',S w'→aF w w') (hi:l[i]?=some e) (hT:∀ w row e,T w row e→row.length=sz)
  (hk:∀ row,T w row e→L (.agg row.toArray)):aE prog S (Instr.indexAt t v (i64 i)) fun p=>aE prog S (Instr.loadAt x p) L:=by
 obtain ⟨cs,h1,h2⟩:=hs
 obtain ⟨row,h3,h4⟩:=h2 i e hi
 have hlt:i < l.length:=(List.getElem?_eq_some_iff.1 hi).1
 obtain ⟨e,z,b',hte,hinf⟩:=h
 obtain ⟨d,z',by_,g2,g3,g4⟩:=ht
 obtain ⟨b,off,cap,rfl,hc⟩:=h1.there (by omega)
 have hl:=hT _ _ _ h4
 refine aE.ok (fun w' _=>jP hte hinf (by omega) (by omega)) (aE.ok (fun w' hw=>mP g2 g3 g4 hl fun j hj=>?_) (hk row h4))
 obtain ⟨u,hu⟩:∃ u,row[j]?=some u:=⟨_,List.getElem?_eq_getElem hj⟩
 rw [hu]
 refine (hx w' hw).cell ?_
 rw [← h3,List.getElem?_take,if_pos (by omega),List.getElem?_drop] at hu
 simpa [Nat.add_assoc] using hc _ _ hu
theorem JS {α:Type} {T:World→List Value→α→Prop} {sz:Nat} {t s f o ft:Nat} {v:Value} {l:List α} {i:Nat} {e:α} (h:XA prog t sz) (hf:FA prog s f o) (hl:L1 prog ft) (hs:bV T sz w v l) (hx:∀ w',S w'→aF w w') (hi:l[i]?=some e)
  (hk:∀ row,T w row e→∃ u,row[o]?=some u∧o < sz∧L u):aE prog S (Instr.indexAt t v (i64 i)) fun p=>aE prog S (Instr.fieldAt s p f) fun q=>aE prog S (Instr.loadAt ft q) L:=by
 obtain ⟨cs,h1,h2⟩:=hs
 obtain ⟨row,h3,h4⟩:=h2 i e hi
 have hlt:i < l.length:=(List.getElem?_eq_some_iff.1 hi).1
 obtain ⟨u,hu,ho,hL⟩:=hk row h4
 obtain ⟨e,z,b',hte,hinf⟩:=h
 obtain ⟨d,hd,ha⟩:=hl
 obtain ⟨b,off,cap,rfl,hc⟩:=h1.there (by omega)
 refine aE.ok (fun w' _=>jP hte hinf (by omega) (by omega)) (aE.ok (fun w' _=>hf.ex w' b _) (aE.ok (fun w' hw=>jA hd ha ((hx w' hw).cell ?_)) hL))
 rw [← h3,List.getElem?_take,if_pos ho,List.getElem?_drop] at hu
 simpa [Nat.add_assoc] using hc _ _ hu
end
end Go.Proofs.YtjcmcfidblhnnaaGreatDoor
namespace Go.Tc
theorem aPs {n:Nat} {s s':St} {to:Int} {stack:List Int} (h:mX n s to stack=some s'):∀ k,s'.h k=true→s.h k=true∨k=to.toNat:=fun k hk=>by
 unfold mX at h
 split at h
 ·cases h
 split at h
 ·obtain ⟨j,_,h⟩:=Option.bind_eq_some_iff.1 h
  split at h
  iterate 2
   ·cases h;exact .inl hk
 ·cases h
  simp only [St.h] at hk ⊢
  rw [kV] at hk
  split at hk
  ·rename_i hc;exact .inr hc.1
  ·exact .inl hk
theorem WA {n:Nat} {stack:List Int}:∀ {l:List Int} {s s':St},lG n stack l s=some s'→∀ k,s'.h k=true→s.h k=true∨∃ to∈l,k=to.toNat
 | [],s,s',h,k,hk=>by cases h;exact .inl hk
 | to::l,s,s',h,k,hk=>by
  simp only [lG,Option.bind_eq_some_iff] at h
  obtain ⟨s1,h1,h2⟩:=h
  rcases WA h2 k hk with h3|⟨t,ht,he⟩
  ·rcases aPs h1 k h3 with h4|h4
   ·exact .inl h4
   ·exact .inr ⟨to,List.mem_cons_self,h4⟩
  ·exact .inr ⟨t,List.mem_cons_of_mem _ ht,he⟩
theorem nV.least {i:dW} {m:fU} {C:Nat→Prop} (hx:∀ x∈m.code,zN i m x) (hc:∀ k,C k→∀ to∈fD (m.ins k) k,C to.toNat) {s:St} {r:Option St} (h:nV i m s r):∀ s',r=some s'→WF m s→XM i m s→(∀ k,s.h k=true→C k)→∀ k,s'.h k=true→C k:=by
 induction h with
 | done h1=>intro s' he _ _ hC;cases he;exact hC
 | fail _ _=>intro s' he;cases he
 | @go s s1 pc r h1 h2 _ ih=>
  intro s' he hw hi hC
  obtain ⟨a,b,_⟩:=AV hx hw hi h1 h2
  refine ih s' he a b fun k hk=>?_
  have ht:s.t pc=true:=(rG h1).1
  have hp:s.h pc=true:=by
   cases hh:s.h pc with
   | true=>rfl
   | false=>rw [(hw.no pc hh).2] at ht;cases ht
  obtain ⟨stack,_,h3⟩:=Option.bind_eq_some_iff.1 h2
  rcases WA h3 k hk with h4|⟨to,h4,rfl⟩
  ·exact hC k h4
  ·exact hc pc (hC pc hp) to h4
theorem oZ.least {i:dW} {m:fU} {C:Nat→Prop} {s:St} (hi:i.right) (hm:m.right) (h:oZ i m (some s)) (h0:C 0) (hc:∀ k,C k→∀ to∈fD (m.ins k) k,C to.toNat):∀ k,s.h k=true→C k:=by
 rcases h with ⟨_,h⟩|⟨h1,h2⟩
 ·cases h
 have hx:∀ x∈m.code,zN i m x:=fun x hx=>⟨hi,hm,hm.2.2.2.2 x hx,h1 x hx⟩
 obtain ⟨a,b⟩:=xR (i:=i) hm.2.2.2.1.1
 refine h2.least hx hc s rfl a b fun k hk=>?_
 simp only [St.h,St.first] at hk
 rw [kV] at hk
 split at hk
 ·rename_i hh;rw [hh.1];exact h0
 ·rw [List.getD_eq_getElem?_getD,List.getElem?_replicate] at hk
  split at hk<;>simp at hk
end Go.Tc
namespace Go.Proofs.YtjcmcfidblhnnaaGreatDoor
open Tryz
open Go.Vc Go.Tc
variable {w:World} {K:Value→World→Prop}
theorem aEm {i:dW} {m:fU} {st:Tc.St} {r:List Bool} (hi:i.right) (hm:m.right) (hw:oZ i m (some st)) (R:AJ i m st [] r) (k:Nat):r.getD k false=st.h k:=by
 have h0:r.getD 0 false=true:=by rcases R.z with hz|hz;exact hz;cases hz
 cases hh:st.h k with
 | true=>exact hw.least hi hm (C:=fun k=>r.getD k false=true) h0 (fun k hk to ht=>by rcases R.cl k hk to ht with h1|h1;exact h1;cases h1) k hh
 | false=>
  cases hr:r.getD k false with
  | false=>rfl
  | true=>rw [R.rs k hr] at hh;cases hh
theorem UR {i:dW} {k:Nat} {st st':Tc.St} {r r':List Bool} (ht:kZ i) (hk:k < i.methods.length) (hw:oZ i (i.meth k) (some st)) (hr:AJ i (i.meth k) st [] r) (hw':oZ i (i.meth k) (some st')) (hr':AJ i (i.meth k) st' [] r'):st'=st∧r'=r:=by
 have hmi:=gP (i:=i) (a:=(k:Int)) (by omega) (by omega)
 rw [Int.toNat_natCast] at hmi
 have mr:(i.meth k).right:=ht.1.2.2.1.2.1 _ (List.mem_of_getElem? hmi)
 have e:=hw.det hw'
 cases e
 exact ⟨rfl,AJ.det (aEm ht.1 mr hw hr) (aEm ht.1 mr hw hr') hr hr'⟩
theorem ET.det {i:dW} {k:Nat} {ap ap':Int} {x y:EU} (ht:kZ i) (hk:k < i.methods.length) (h:ET i k ap x) (h':ET i k ap' y):y.fr=x.fr∧y.tab=x.tab:=by
 obtain ⟨st,r,of,s,f,hc,h1,_,h2⟩:=h
 obtain ⟨st',r',of',s',f',hc',h1',_,h2'⟩:=h'
 obtain ⟨rfl,rfl⟩:=UR ht hk hc.wk hc.rc hc'.wk hc'.rc
 obtain ⟨rfl,rfl⟩:=hc.al.det hc'.al
 exact ⟨by rw [h1,h1'],by rw [h2,h2']⟩
set_option maxHeartbeats 4000000 in
theorem bAo {rv:Value} {rl:List Rw} {a b:Int} (hr:jD w rv rl) (hb:pY w) (hT:rS w) (rn:rl.length≤5000000000000) :
  aB prog 5 #[rv,i64 a,i64 b] w fun v w'=>v=.bool true∧aF w w':=by
 apply bIt
 suffices key:∀ R:Value→World→Prop,(∀ w',aF w w'→R (.bool true) w')→TY rv (i64 a) (i64 b) w R from key _ fun _ hx=>⟨rfl,hx⟩
 intro R hR
 unfold TY
 refine jT bGw [rv] rfl rfl (by simp) (by simp [hr.one]) fun v1 w1 ho1 x1=>?_
 refine aCt (ll:=[rl]) ⟨[rv],aA.of_own ho1,fun k l hkl=>?_⟩ (hb.ext x1) (hT.ext x1) fun v2 l w2 hl hl3 _ x2=>?_
 ·match k,hkl with
  | 0,hkl=>cases hkl;exact ⟨rv,rfl,hr.ext x1,rn⟩
  | k+1,hkl=>simp at hkl
 have x02:=x1.trans x2
 refine gR (by decide) (by decide) fun q hq0 hq1=>oO.2 ?_
 rw [aC (by omega) (by omega)]
 refine ⟨fun v w'=>∃ j:Nat,v=i64 j∧j≤l.length∧aF w2 w',fun v _=>l.length - (RowKit.intOf v).toNat,⟨0,rfl,Nat.zero_le _,aF.refl _⟩,?_⟩
 rintro _ w3 ⟨j,rfl,hj,x3⟩ _
 refine yO UE (hl.ext x3) (aY.2 (aD (fun hlt=>?_) fun hge=>?_))
 case refine_2=>exact aPh (hT.ext (x02.trans x3)) fun w4 x4=>hR _ ((x02.trans x3).trans x4)
 obtain ⟨x,hx⟩:=bC (l:=l) (j:=j) (by omega)
 obtain ⟨p,i⟩:=x
 refine ldS UE lF (hl.ext x3) hx TQ fun row ⟨hrow,hA,ht⟩=>?_
 subst hrow
 have hA:Apl w3 p i:=hA
 have ht:kZ i:=ht
 have hcl:=xZ (rV ht) i.methods.length
 rw [List.take_length] at hcl
 have ml:i.methods.length=3:=hA.ml
 refine zH (p:=p) (i:=i) (ap:=0) (a0:=0) hA.at_ hA.nm hA.rg (by decide) (by decide) (by decide) (fun _ hn _=>absurd ht hn) (fun _ _ hn _=>absurd (by omega) hn) fun va la w4 _ _ hla hlal hoka x4=>?_
 refine yG.2 (yF.2 (yE.2 ?_))
 have D4:aF w4 w4.drew:=(aF.refl _).drew
 have x24:=x3.trans (x4.trans D4)
 refine aM.mk' (fun w'=>aF w4.drew w') (aF.refl _) ?_
 refine bJf UE lF (hl.ext x24) (fun _ h=>h) hx TQ fun row ⟨hrow,hA',_⟩=>?_
 subst hrow
 refine gR (by decide) (by decide) fun ap hp0 hp1=>⟨aF.refl _,?_⟩
 refine zH (p:=p) (i:=i) (ap:=ap) (a0:=4*q) hA'.at_ hA'.nm hA'.rg ⟨hp0,hp1⟩ ⟨by omega,by omega⟩ (by omega) (fun _ hn _=>absurd ht hn) (fun _ _ hn _=>absurd (by omega) hn) fun vb lb w5 _ _ hlb hlbl hokb x5=>⟨x5,?_⟩
 refine aE.ok (fun _ _=>UY) (aE.ok (fun _ _=>UX) (aE.ok (fun _ _=>UW) ?_))
 have ea:=JB ht hoka (by omega) la.length (Nat.le_refl _)
 have eb:=JB ht hokb (by omega) lb.length (Nat.le_refl _)
 rw [List.take_length] at ea eb
 have hla5:=hla.ext (D4.trans x5)
 have x25:=x24.trans x5
 simp only [aS,not_true_eq_false,ne_eq,reduceIte,Bool.false_eq_true,decide_false]
 refine yO tF hla5 (yO tF hlb (dB.2 ?_))
 rw [show decide ((la.length:Int)≠lb.length)=false from decide_eq_false fun h=>h (by omega)]
 simp only [aS,reduceIte,Bool.false_eq_true]
 rw [show decide (nU 0 la < 0)=false from decide_eq_false (by omega)]
 simp only [aS,reduceIte,Bool.false_eq_true]
 rw [show decide (nU (4*q) lb < 4*q)=false from decide_eq_false (by omega)]
 refine aP.2 ?_
 refine ⟨fun v w'=>∃ k:Nat,v=i64 k∧k≤i.methods.length∧aF w5 w',fun v _=>i.methods.length - (RowKit.intOf v).toNat,⟨0,rfl,Nat.zero_le _,aF.refl _⟩,?_⟩
 rintro _ w6 ⟨k,rfl,hk,x6⟩ _
 refine yO tF (hla5.ext x6) (aY.2 (aD (fun hlt2=>?_) fun hge2=>?_))
 case refine_2=>
  refine aU.2 ?_
  rw [aC (by omega) (by omega),aR]
  exact ⟨⟨j+1,rfl,by omega,x25.trans x6⟩,by simp only [aL];omega⟩
 obtain ⟨x,hxk⟩:=bC (l:=la) (j:=k) (by omega)
 obtain ⟨y,hyk⟩:=bC (l:=lb) (j:=k) (by omega)
 have hkm:k < i.methods.length:=by omega
 have hxo:=(hoka k x hxk).2
 obtain ⟨hfr,htab⟩:=hxo.det ht hkm (hokb k y hyk).2
 refine ldS UE lF (hl.ext (x25.trans x6)) hx TQ fun row ⟨hrow,hA6,_⟩=>?_
 subst hrow
 refine bAx (p:=p) (i:=i) hA6.at_ hA6.nm hA6.rg (fun st r nv sv w7 _ _ _ hw Rc hN hS x7=>?_) fun w7 hne x7=>absurd ⟨ht,by omega,by omega⟩ hne
 have hok:kK (gX i k st r):=rD ht hkm hw Rc
 have hxt:x.tab=hY (gX i k st r):=by
  obtain ⟨st',r',of',s',f',hc,_,_,h2⟩:=hxo
  obtain ⟨rfl,rfl⟩:=UR ht hkm hw Rc hc.wk hc.rc
  exact h2
 obtain ⟨xs,ho3,hx3⟩:=hN
 obtain ⟨na,nc,rfl⟩:=ho3.shape
 refine yG.2 (yF.2 (yE.2 ?_))
 refine sI aDx rfl rfl fun w8 hp8 x8=>?_
 have hp8:bO w8 w7.heap.size [i64 (gX i k st r).params,i64 (gX i k st r).regs,.slice na (nE i (i.meth k) st r).length nc] 33:=hp8
 have D8:aF w8 w8.drew:=(aF.refl _).drew
 have x68:=x7.trans (x8.trans D8)
 have x58:=x6.trans x68
 refine aM.mk' (fun w'=>aF w8.drew w') (aF.refl _) ?_
 refine aE.ok (fun _ _=>uZ) ?_
 simp only [Bool.not_true,aS,reduceIte,Bool.false_eq_true,Bool.not_true]
 have hla8:=hla5.ext x58
 have hlb8:=hlb.ext x58
 refine JS tF pI aH hla8 (fun _ h=>h) hxk fun row hrow=>⟨i64 x.fr,by rw [hrow.1];rfl,by decide,?_⟩
 refine JS tF pI aH hlb8 (fun _ h=>h) hyk fun row hrow=>⟨i64 y.fr,by rw [hrow.1];rfl,by decide,?_⟩
 refine aE.ok (fun _ _=>rM) ?_
 rw [show decide (x.fr≠y.fr)=false from decide_eq_false fun h=>h hfr.symm]
 simp only [aS,reduceIte,Bool.false_eq_true]
 refine JS tF oG kE hla8 (fun _ h=>h) hxk fun row hrow=>⟨x.tv,by rw [hrow.1];rfl,by decide,?_⟩
 obtain ⟨_,tvs,htvs,_⟩:=hrow.2
 refine rA mW htvs ?_
 refine JS tF oG kE hlb8 (fun _ h=>h) hyk fun row hrow=>⟨y.tv,by rw [hrow.1];rfl,by decide,?_⟩
 obtain ⟨_,tvs2,htvs2,_⟩:=hrow.2
 refine rA mW htvs2 ?_
 refine aE.ok (fun _ _=>rM) ?_
 rw [show decide ((x.tab.length:Int)≠y.tab.length)=false from decide_eq_false fun h=>h (by rw [htab])]
 refine aP.2 ?_
 refine ⟨fun bp ev w'=>∃ gB iv ta tc s ys,bp=.pointer (some ⟨gB,0,none⟩)∧ev=i64 0∧bO w' gB [iv,.slice ta (hY (gX i k st r)).length tc,i64 (4*s)] 68∧aA w' (.slice ta (hY (gX i k st r)).length tc) 1 (hY (gX i k st r)).length ys∧aF w8.drew w',
  aYi (T:=fun _ _=>True) hok rfl (by decide) rfl (hp8.ext D8).boxed ((ho3.ext x8).ext D8) (fun q n hq=>?_) fun of s gB iv ta tc ys w' _ _ c _ e _ x=>⟨gB,iv,ta,tc,s,ys,rfl,rfl,c,aA.of_own e,x⟩,?_⟩
 ·obtain ⟨u,h1,h2⟩:=hx3 q n hq
  exact ⟨u,h1,(h2.ext x8).ext D8,trivial⟩
 rintro _ _ w9 ⟨gB,iv,ta,tc,s,ys,rfl,rfl,hB9,hs9,x9⟩ _
 have D9:aF w9 w9.drew:=(aF.refl _).drew
 refine aM.mk' (fun w'=>aF w9.drew w') (aF.refl _) ?_
 refine aE.ok (fun _ _=>rM) ?_
 rw [show decide ((0:Int)≠0)=false from rfl]
 simp only [aS,reduceIte,Bool.false_eq_true]
 refine jM (fun w' hx=>((hB9.ext D9).boxed).ext hx) mV kE rfl (rA mW hs9 ?_)
 refine JS tF oG kE (hla8.ext (x9.trans D9)) (fun _ h=>h) hxk fun row hrow=>⟨x.tv,by rw [hrow.1];rfl,by decide,?_⟩
 obtain ⟨_,tvs3,htvs3,_⟩:=hrow.2
 refine rA mW htvs3 ?_
 refine aE.ok (fun _ _=>rM) ?_
 rw [show decide (((hY (gX i k st r)).length:Int)≠x.tab.length)=false from decide_eq_false fun h=>h (by rw [hxt])]
 refine aP.2 (aU.2 ?_)
 rw [aC (by omega) (by omega),aR]
 exact ⟨⟨k+1,rfl,by omega,x58.trans (x9.trans D9)⟩,by simp only [aL];omega⟩
end Go.Proofs.YtjcmcfidblhnnaaGreatDoor
namespace Go.Vc
open Go.ChangeShapes Go.WideShapes Go.ChangeAt Go.RowKit
variable {H:Type} {enc:TypeId × Value→H} {P:Program}
theorem KQ {f:Func} {s:ChangeSpec} {apart fresh handsOn again:Bool} {W W':World} {args:Array Value} {v:Value} {ds gs:List (DataW H)} {pa pv:List MemPlace}
  (hW:DataW.Whole enc P f.params.toList s.vars apart W args.toList ds gs (pa++pv)) (hx:aF W W')
  (hr:∀ b sp hd,DataW.TrodAll enc P W' b sp hd f.resultTypes.toList (v.resultList f.resultTypes.size) (s.fn H (ds++gs)).results [])
  (ha:∀ sp:Nat→Bool,(∀ p∈pa++pv,sp p.block=true)→DataW.TrodAll enc P W' 0 sp true f.params.toList args.toList (s.fn H (ds++gs)).args pa)
  (hv:∀ sp:Nat→Bool,(∀ p∈pa++pv,sp p.block=true)→DataW.TrodVars enc P W' sp s.vars (s.fn H (ds++gs)).vars pv)
  (hok:∀ (j:Nat) (t:TypeId) (r:Value),f.resultTypes[j]?=some t→(v.resultList f.resultTypes.size)[j]?=some r→Value.okWide P W' .any 0 t r) :
  s.post enc P f apart fresh handsOn again W args v W':=by
 have hlt:=hW.lt
 have hall:∀ p∈pa++pv,(fun b=>decide (b < W.heap.size)) p.block=true:=fun p hp=>decide_eq_true (hlt p hp)
 have hk:=hx.below.frame (·∈pa++pv)
 refine ⟨ds,gs,pa++pv,[],pa,pv,hW,hr _ _ _,ha _ hall,hv _ hall,World.keptBut_mono (fun p hp=>⟨hp,.inr (by simpa using hp)⟩) hk,fun _=>?_⟩
 obtain ⟨_,_,_,_,_,hz,hn⟩:=hW
 have h2:=trodAll_append (ha (fun _=>true) fun _ _=>rfl) (hr 0 (fun _=>true) true)
 refine ⟨hok,_,_,pa++pv,⟨pa,pv,(by simpa using h2),hv _ fun _ _=>rfl,rfl,fun b off hp=>?_,hn⟩,fun p hp _=>hp⟩
 rw [hx.below.frozen (hlt _ hp)]
 exact hz b off hp
theorem HC (hl:laidOutB P=true) {W W':World} (hx:aF W W') {sp:Nat→Bool}:∀ {ts:List TypeId} {vs:List Value} {ds:List (DataW H)} {p:List MemPlace},(ts.all fun t=>P.readableRec t&&decide (t < P.types.size))=true →
  DataW.TrodAll enc P W 0 (fun _=>true) true ts vs ds p→(∀ x∈p,x.block < W.heap.size)→(∀ x∈p,sp x.block=true)→DataW.TrodAll enc P W' 0 sp true ts vs ds p
 | [],vs,ds,p,_,h,_,_=>by
  obtain ⟨rfl,rfl,rfl⟩:=trodAll_nil h
  exact trodAll_mk0
 | t::ts,vs,ds,p,hr,h,hlt,hs=>by
  simp only [List.all_cons,Bool.and_eq_true,decide_eq_true_eq] at hr
  obtain ⟨v,vs',d,ds',p1,p2,rfl,rfl,rfl,h1,h2⟩:=trodAll_cons h
  exact trodAll_cons_mk (WideElems.Trod_stays hl hr.1.1 hr.1.2 h1 (fun x hx'=>hx.below.same (hlt x (by simp [hx']))) fun x hx'=>hs x (by simp [hx']))
   (HC hl hx (by simpa using hr.2) h2 (fun x hx'=>hlt x (by simp [hx'])) fun x hx'=>hs x (by simp [hx']))
end Go.Vc
namespace Go.Vc
open Go.ChangeShapes
theorem zD {P:Program} {W:World} {x:String} {ds:List (DataW Unit)} {g t e m:Nat} (hg:P.globalNamed x=some g) (ht:(P.globals[g]?).map (·.type)=some t) (hu:P.underlying t=some (.array m e)) {i:Nat} (hi:i < m) :
  ∀ {laid:List (String × DataW Unit)} {ps:List MemPlace},DataW.LaidVars P W laid ps→(x,.agg ds)∈laid→∃ (fuel:Nat) (q:List MemPlace) (cs:List Value) (d:DataW Unit),ds[i]?=some d∧DataW.trod (fun _=>()) P W 0 (fun _=>true) false fuel e ((cs.drop (i*P.cellsOf e)).take (P.cellsOf e))=some (d,q)∧∀ j:Nat,W.cell? ⟨g,j,none⟩=cs[j]?
 | [],_,_,hm=>by cases hm
 | (n',d')::r,ps,h,hm=>by
  obtain ⟨g',t',cs,fuel,p,q,h1,h2,h3,h4,h5,_⟩:=h
  rcases List.mem_cons.1 hm with e1|e1
  ·cases e1
   obtain rfl:=Option.some.inj (hg.symm.trans h1)
   obtain rfl:=Option.some.inj (ht.symm.trans h2)
   obtain ⟨xs,m',_,ex,_,hxl,hel⟩:=DataW.trod_array hu h4
   have hE:=hel i hi
   rw [List.getElem?_eq_getElem (by omega)] at hE
   refine ⟨m',(xs[i]'(by omega)).2,cs.toList,(xs[i]'(by omega)).1,?_,hE,fun j=>by rw [World.var?_cell hg h3 j,← Array.getElem?_toList]⟩
   have:ds=xs.map (·.1):=by have:=congrArg Prod.fst ex;simpa using this
   rw [this,List.getElem?_map,List.getElem?_eq_getElem (by omega)];rfl
  ·exact zD hg ht hu hi h5 e1
theorem LE {P:Program} {W:World} {x:String} {ds:List (DataW Unit)} {g t e m:Nat} {k:IntKind} {laid:List (String × DataW Unit)} {ps:List MemPlace} (hg:P.globalNamed x=some g) (ht:(P.globals[g]?).map (·.type)=some t) (hu:P.underlying t=some (.array m e)) (he:P.underlying e=some (.int k)) (c1:P.cellsOf e=1)
  (h:DataW.LaidVars P W laid ps) (hm:(x,.agg ds)∈laid) {i:Nat} (hi:i < m):∃ z,ds[i]?=some (.lit (.int k z))∧W.cell? ⟨g,i,none⟩=some (.int k z):=by
 obtain ⟨fuel,q,cs,d,h1,h2,h3⟩:=zD hg ht hu hi h hm
 rw [c1,Nat.mul_one] at h2
 obtain ⟨z,e1,e2,_⟩:=DataW.trod_int he h2
 cases e2
 refine ⟨z,h1,?_⟩
 rw [h3 i]
 have h0:((cs.drop i).take 1)[0]?=some (.int k z):=by rw [e1];rfl
 simpa using h0
theorem LF {P:Program} {W:World} {x:String} {ds:List (DataW Unit)} {g t e m c f o u:Nat} {fs:Array Field} {k:IntKind} {laid:List (String × DataW Unit)} {ps:List MemPlace} (hg:P.globalNamed x=some g) (ht:(P.globals[g]?).map (·.type)=some t) (hu:P.underlying t=some (.array m e)) (he:P.underlying e=some (.struct fs)) (hc:P.cellsOf e=c)
  (hf:(fs[f]?).map (fun y=>(y.type,y.offset))=some (u,o)) (hk:P.underlying u=some (.int k)) (c1:P.cellsOf u=1) (ho:o < c)
  (h:DataW.LaidVars P W laid ps) (hm:(x,.agg ds)∈laid) {i:Nat} (hi:i < m):∃ l z,ds[i]?=some (.agg l)∧l[f]?=some (.lit (.int k z))∧W.cell? ⟨g,i*c+o,none⟩=some (.int k z):=by
 obtain ⟨fuel,q,cs,d,h1,h2,h3⟩:=zD hg ht hu hi h hm
 rw [hc] at h2
 obtain ⟨xs,n,_,ex,_,hxl,hel⟩:=DataW.trod_struct he h2
 obtain ⟨fd,hfd,hfe⟩:=Option.map_eq_some_iff.1 hf
 have h4:=hel f fd hfd
 have hlt:f < fs.size:=(Array.getElem?_eq_some_iff.1 hfd).1
 simp only [Prod.mk.injEq] at hfe
 obtain ⟨rfl,rfl⟩:=hfe
 rw [c1,List.getElem?_eq_getElem (by omega)] at h4
 obtain ⟨z,e1,e2,_⟩:=DataW.trod_int hk h4
 have e3:d=.agg (xs.map (·.1)):=congrArg Prod.fst ex
 refine ⟨_,z,by rw [h1,e3],by rw [List.getElem?_map,List.getElem?_eq_getElem (by omega)];simp [e2],?_⟩
 rw [h3]
 have h0:((((cs.drop (i*c)).take c).drop fd.offset).take 1)[0]?=some (.int k z):=by rw [e1];rfl
 simpa [List.getElem?_take,List.getElem?_drop,ho] using h0
end Go.Vc
