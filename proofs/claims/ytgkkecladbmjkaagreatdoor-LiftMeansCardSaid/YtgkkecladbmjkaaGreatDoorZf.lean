/- What instructions of word make: the program's and the document's. -/
import Derived.Test.YtgkkecladbmjkaaGreatDoorZe
import Derived.Laws.StructEq
set_option maxHeartbeats 4000000
set_option linter.unusedSimpArgs false
namespace Go.Proofs.YtgkkecladbmjkaaGreatDoor
open Tryz
open Go.Vc Go.Tc
theorem aJn (b:Int):0<=c31 b/\c31 b<=31:=by
 have h:(BitVec.ofInt IntKind.i32.bits b &&& BitVec.ofInt IntKind.i32.bits 31).toNat<=31:=by
  rw [BitVec.toNat_and];exact Nat.le_trans Nat.and_le_right (by decide)
 unfold c31;generalize (BitVec.ofInt IntKind.i32.bits b &&& BitVec.ofInt IntKind.i32.bits 31).toNat=n at h;simp only [IntKind.wrap_i32];omega
theorem aTf (n:Int):IntKind.u64.wrap n=n % 18446744073709551616:=by simp [IntKind.wrap,IntKind.bits,IntKind.signed]
theorem aKc (n:Int):IntKind.u32.wrap n=n % 4294967296:=by simp [IntKind.wrap,IntKind.bits,IntKind.signed]
theorem aIt {d:Int} (h:-4294967296 < d/\d < 4294967296):IntKind.i32.wrap ((IntKind.u64.wrap d).fdiv (2 ^ (min (63:Int).toNat IntKind.u64.bits)))=if d < 0 then 1 else 0:=by
 have e2:((2:Int) ^ (min (63:Int).toNat IntKind.u64.bits))=9223372036854775808:=by decide
 rw [aTf,e2,Int.fdiv_eq_ediv_of_nonneg _ (by decide)];simp only [IntKind.wrap_i32];split<;>omega
theorem DB {a:Int} (_:kY a):(BitVec.ofInt IntKind.i32.bits a).toNat=(a % 4294967296).toNat:=by
 rw [BitVec.toNat_ofInt];rfl
theorem qZ {a:Int} (h:kY a):IntKind.i32.wrap (BitVec.ofInt IntKind.i32.bits a).toNat=a:=by
 rw [DB h];unfold kY at h;simp only [IntKind.wrap_i32];omega
theorem EO {c:Int} (h:kY c):AC c=if c=0 then 0 else 1:=by
 have h':=h;unfold kY at h';unfold AC aKl;have e31:IntKind.i32.wrap (BitVec.ofInt IntKind.i32.bits 31 &&& BitVec.ofInt IntKind.i32.bits 31).toNat=31:=by decide
 rw [e31];have e2:((2:Int) ^ (min (31:Int).toNat IntKind.u32.bits))=2147483648:=by decide
 rw [e2,aKc];have hn:=DB (rU (0 - c));have ha:=DB h;have l1:(BitVec.ofInt IntKind.i32.bits c).toNat<=(BitVec.ofInt IntKind.i32.bits c ||| BitVec.ofInt IntKind.i32.bits (IntKind.i32.wrap (0 - c))).toNat:=by rw [BitVec.toNat_or];exact Nat.left_le_or
 have l2:(BitVec.ofInt IntKind.i32.bits (IntKind.i32.wrap (0 - c))).toNat<=(BitVec.ofInt IntKind.i32.bits c ||| BitVec.ofInt IntKind.i32.bits (IntKind.i32.wrap (0 - c))).toNat:=by rw [BitVec.toNat_or];exact Nat.right_le_or
 have l3:(BitVec.ofInt IntKind.i32.bits c ||| BitVec.ofInt IntKind.i32.bits (IntKind.i32.wrap (0 - c))).toNat < 4294967296:=(BitVec.ofInt IntKind.i32.bits c ||| BitVec.ofInt IntKind.i32.bits (IntKind.i32.wrap (0 - c))).isLt;by_cases h0:c=0
 ·subst h0;decide
 rw [if_neg h0];rw [ha] at l1;rw [hn] at l2;generalize hX:(BitVec.ofInt IntKind.i32.bits c ||| BitVec.ofInt IntKind.i32.bits (IntKind.i32.wrap (0 - c))).toNat=X at *;have e0:IntKind.i32.wrap (0 - c)=(0 - c+2147483648) % 4294967296 - 2147483648:=by simp only [IntKind.wrap_i32]
 rw [e0] at l2
 have hX2:2147483648<=X:=by
  by_cases hc:0 < c
  ·have:((0 - c+2147483648) % 4294967296 - 2147483648) % 4294967296=4294967296 - c:=by omega
   rw [this] at l2;omega
  ·have:c % 4294967296=4294967296+c:=by omega
   rw [this] at l1;omega
 clear l1 l2 hX hn ha e0
 have e1:IntKind.i32.wrap (X:Int) % 4294967296=X:=by
  simp only [IntKind.wrap_i32];omega
 rw [e1,Int.fdiv_eq_ediv_of_nonneg _ (by decide)];simp only [IntKind.wrap_i32];omega
theorem aPs {a b:Int} (ha:kY a) (hb:kY b):IntKind.i32.wrap (BitVec.ofInt IntKind.i32.bits a ^^^ BitVec.ofInt IntKind.i32.bits b).toNat=0↔a=b:=by
 constructor
 ·intro h;have hlt:(BitVec.ofInt IntKind.i32.bits a ^^^ BitVec.ofInt IntKind.i32.bits b).toNat < 4294967296:=(BitVec.ofInt IntKind.i32.bits a ^^^ BitVec.ofInt IntKind.i32.bits b).isLt
  have h0:(BitVec.ofInt IntKind.i32.bits a ^^^ BitVec.ofInt IntKind.i32.bits b).toNat=0:=by
   generalize (BitVec.ofInt IntKind.i32.bits a ^^^ BitVec.ofInt IntKind.i32.bits b).toNat=n at *;simp only [IntKind.wrap_i32] at h;omega
  have h1:BitVec.ofInt IntKind.i32.bits a ^^^ BitVec.ofInt IntKind.i32.bits b=0:=BitVec.eq_of_toNat_eq (by rw [h0];rfl)
  have h2:BitVec.ofInt IntKind.i32.bits a=BitVec.ofInt IntKind.i32.bits b:=by
   have:=congrArg (· ^^^ BitVec.ofInt IntKind.i32.bits b) h1
   simpa [BitVec.xor_assoc] using this
  rw [<- qZ ha,<- qZ hb,h2]
 ·rintro rfl;rw [BitVec.xor_self];decide
theorem aMm {a b:Int} (ha:kY a) (hb:kY b):IntKind.i32.wrap (1 - AC (IntKind.i32.wrap (BitVec.ofInt IntKind.i32.bits a ^^^ BitVec.ofInt IntKind.i32.bits b).toNat))=if a=b then 1 else 0:=by
 rw [EO (rU _)];by_cases h:a=b
 ·rw [if_pos h,if_pos ((aPs ha hb).2 h)];decide
 ·rw [if_neg h,if_neg (λe=>h ((aPs ha hb).1 e))];decide
theorem WQ {c a b:Int} (hc:kY c) (ha:kY a) (hb:kY b) :
  IntKind.i32.wrap (BitVec.ofInt IntKind.i32.bits (IntKind.i32.wrap (BitVec.ofInt IntKind.i32.bits a &&& BitVec.ofInt IntKind.i32.bits (IntKind.i32.wrap (0 - AC c))).toNat) ||| BitVec.ofInt IntKind.i32.bits (IntKind.i32.wrap (BitVec.ofInt IntKind.i32.bits b &&& ~~~ BitVec.ofInt IntKind.i32.bits (IntKind.i32.wrap (0 - AC c))).toNat)).toNat=sB c a b:=by
 rw [EO hc];unfold sB;have z0:BitVec.ofInt IntKind.i32.bits 0=0#IntKind.i32.bits:=rfl;by_cases h:c=0
 ·rw [if_pos h,if_pos h];have e0:IntKind.i32.wrap (0 - 0)=0:=by decide
  rw [e0];have e1:BitVec.ofInt IntKind.i32.bits a &&& BitVec.ofInt IntKind.i32.bits 0=BitVec.ofInt IntKind.i32.bits 0:=by rw [z0];exact BitVec.and_zero
  have e2:BitVec.ofInt IntKind.i32.bits b &&& ~~~ BitVec.ofInt IntKind.i32.bits 0=BitVec.ofInt IntKind.i32.bits b:=by
   have h9:(~~~ BitVec.ofInt IntKind.i32.bits 0)=BitVec.allOnes IntKind.i32.bits:=by rfl
   rw [h9];exact BitVec.and_allOnes
  rw [e1,e2,qZ hb];have e3:IntKind.i32.wrap (BitVec.ofInt IntKind.i32.bits 0).toNat=0:=by decide
  rw [e3,z0];have e4:(0#IntKind.i32.bits ||| BitVec.ofInt IntKind.i32.bits b)=BitVec.ofInt IntKind.i32.bits b:=BitVec.zero_or;rw [e4,qZ hb]
 ·rw [if_neg h,if_neg h];have e0:IntKind.i32.wrap (0 - 1)=-1:=by decide
  rw [e0];have m1:BitVec.ofInt IntKind.i32.bits (-1)=BitVec.allOnes IntKind.i32.bits:=by rfl
  have e1:BitVec.ofInt IntKind.i32.bits a &&& BitVec.ofInt IntKind.i32.bits (-1)=BitVec.ofInt IntKind.i32.bits a:=by rw [m1];exact BitVec.and_allOnes
  have e2:BitVec.ofInt IntKind.i32.bits b &&& ~~~ BitVec.ofInt IntKind.i32.bits (-1)=0#IntKind.i32.bits:=by
   have h9:(~~~ BitVec.ofInt IntKind.i32.bits (-1))=0#IntKind.i32.bits:=by rfl
   rw [h9];exact BitVec.and_zero
  rw [e1,e2,qZ ha];have e3:IntKind.i32.wrap (0#IntKind.i32.bits).toNat=0:=by rfl
  rw [e3,z0];have e4:(BitVec.ofInt IntKind.i32.bits a ||| 0#IntKind.i32.bits)=BitVec.ofInt IntKind.i32.bits a:=BitVec.or_zero;rw [e4,qZ ha]
section
variable {a b c:Int} {w:O}
theorem aQe:aB prog 163 #[i32 a,i32 b] w λr w'=>r=i32 (nL 6 a b)/\w'=w:=aGq (by unfold KB;exact V.ok AO ⟨rfl,rfl⟩)
theorem aPw:aB prog 164 #[i32 a,i32 b] w λr w'=>r=i32 (nL 7 a b)/\w'=w:=aGp (by unfold KA;exact V.ok fJ ⟨rfl,rfl⟩)
theorem aQc:aB prog 165 #[i32 a,i32 b] w λr w'=>r=i32 (nL 8 a b)/\w'=w:=aGo (by unfold JZ;exact V.ok WE ⟨rfl,rfl⟩)
theorem aQd:aB prog 166 #[i32 a,i32 b] w λr w'=>r=i32 (nL 9 a b)/\w'=w:=aGn (by unfold JY;exact V.ok FE ⟨rfl,rfl⟩)
theorem wOr:aB prog 167 #[i32 a,i32 b] w λr w'=>r=i32 (nL 10 a b)/\w'=w:=aGm (by unfold JX;exact V.ok aKo ⟨rfl,rfl⟩)
theorem aPv:aB prog 168 #[i32 a,i32 b] w λr w'=>r=i32 (nL 11 a b)/\w'=w:=aGl (by unfold JW;exact V.ok aIv ⟨rfl,rfl⟩)
theorem aPy:aB prog 169 #[i32 a,i32 b] w λr w'=>r=i32 (nL 12 a b)/\w'=w:=aGk (by unfold JV;exact V.ok FE (V.ok (aQp (aJn b).1) ⟨rfl,rfl⟩))
theorem aPx:aB prog 170 #[i32 a,i32 b] w λr w'=>r=i32 (nL 13 a b)/\w'=w:=(VH a b w).mono λ_ _ h=>h
theorem aPz:aB prog 171 #[i32 a,i32 b] w λr w'=>r=i32 (nL 14 a b)/\w'=w:=aGi (by unfold JT;exact V.ok FE (V.ok (OX (aJn b).1) ⟨rfl,rfl⟩))
theorem wEq (ha:kY a) (hb:kY b):aB prog 172 #[i32 a,i32 b] w λr w'=>r=i32 (nL 19 a b)/\w'=w:=aGh (by
 unfold JS;refine V.ok aIv ?_;refine (OT _ _).mono λr w' ⟨hr,hw⟩=>?_;subst hr;have hw:=hw.symm;subst hw;refine V.ok fJ ⟨?_,rfl⟩;rw [aMm ha hb];rfl)
theorem wLt (ha:kY a) (hb:kY b):aB prog 173 #[i32 a,i32 b] w λr w'=>r=i32 (nL 20 a b)/\w'=w:=aGg (by
 unfold JR;refine V.ok (jK underlying21 underlying2) (V.ok (jK underlying21 underlying2) (V.ok fJ (V.ok (jK underlying2 underlying298) (V.ok (OX (by decide)) (V.ok (jK underlying298 underlying21) ⟨?_,rfl⟩)))));unfold kY at ha hb;rw [iF (n:=a) (by omega) (by omega),iF (n:=b) (by omega) (by omega),aU (by omega),aIt (by omega)];show i32 _=i32 (if a < b then 1 else 0)
 congr 1
 split<;>split<;>omega)
theorem UU (_:kY a) (_:kY b):aB prog 174 #[i32 a,i32 b] w λr w'=>r=i32 (nL 21 a b)/\w'=w:=aGf (by
 unfold JQ;refine V.ok (jK underlying21 underlying201) (V.ok (jK underlying201 underlying2) (V.ok (jK underlying21 underlying201) (V.ok (jK underlying201 underlying2) (V.ok fJ (V.ok (jK underlying2 underlying298) (V.ok (OX (by decide)) (V.ok (jK underlying298 underlying21) ⟨?_,rfl⟩)))))));have ea:=aKc a;have eb:=aKc b;show _=i32 (if IntKind.u32.wrap a < IntKind.u32.wrap b then 1 else 0);generalize IntKind.u32.wrap a=x at *;generalize IntKind.u32.wrap b=y at *;rw [iF (n:=x) (by omega) (by omega),iF (n:=y) (by omega) (by omega),aU (by omega),aIt (by omega)]
 congr 1
 split<;>split<;>omega)
theorem aQb:aB prog 175 #[i32 a] w λr w'=>r=i32 (unF 15 a)/\w'=w:=aGe (by unfold JP;exact V.ok WD ⟨rfl,rfl⟩)
theorem aQa:aB prog 176 #[i32 a] w λr w'=>r=i32 (unF 16 a)/\w'=w:=aGd (by unfold JO;exact V.ok aQu ⟨rfl,rfl⟩)
theorem aIp (hc:kY c) (ha:kY a) (hb:kY b):aB prog 129 #[i32 c,i32 a,i32 b] w λr w'=>r=i32 (sB c a b)/\w'=w:=aHs (by
 unfold LB;refine (OT _ _).mono λr w' ⟨hr,hw⟩=>?_;subst hr;have hw:=hw.symm;subst hw;refine V.ok WD (V.ok FE (V.ok FD (V.ok aKo ⟨?_,rfl⟩)));rw [WQ hc ha hb])
theorem BI {op:Int} (h:fP op):op=6\/op=7\/op=8\/op=9\/op=10\/op=11\/op=12\/op=13\/op=14\/op=19\/op=20\/op=21:=by unfold fP at h;omega
theorem UG {op:Int} (h:fP op) (ha:kY a) (hb:kY b):aB prog 194 #[i64 op,i32 a,i32 b] w λr w'=>r=i32 (nL op a b)/\w'=w:=by
 apply aFy;suffices key:∀ R:Z->O->Prop,R (i32 (nL op a b)) w->zD (i64 op) (i32 a) (i32 b) w R from key _ ⟨rfl,rfl⟩;intro R hR;unfold zD;rcases BI h with rfl|rfl|rfl|rfl|rfl|rfl|rfl|rfl|rfl|rfl|rfl|rfl
 all_goals simp only [aO,Int.reduceEq,decide_true,decide_false,aS,aD]
 ·exact aQe.mono λr w' ⟨hr,hw⟩=>hr▸hw▸hR
 ·exact aPw.mono λr w' ⟨hr,hw⟩=>hr▸hw▸hR
 ·exact aQc.mono λr w' ⟨hr,hw⟩=>hr▸hw▸hR
 ·exact aQd.mono λr w' ⟨hr,hw⟩=>hr▸hw▸hR
 ·exact wOr.mono λr w' ⟨hr,hw⟩=>hr▸hw▸hR
 ·exact aPv.mono λr w' ⟨hr,hw⟩=>hr▸hw▸hR
 ·exact aPy.mono λr w' ⟨hr,hw⟩=>hr▸hw▸hR
 ·exact aPx.mono λr w' ⟨hr,hw⟩=>hr▸hw▸hR
 ·exact aPz.mono λr w' ⟨hr,hw⟩=>hr▸hw▸hR
 ·exact (wEq ha hb).mono λr w' ⟨hr,hw⟩=>hr▸hw▸hR
 ·exact (wLt ha hb).mono λr w' ⟨hr,hw⟩=>hr▸hw▸hR
 ·exact (UU ha hb).mono λr w' ⟨hr,hw⟩=>hr▸hw▸hR
end
end Go.Proofs.YtgkkecladbmjkaaGreatDoor
namespace Go.Vc
section
variable {P:Program} {w:O} {K:Z->O->Prop} {S:O->Prop} {L:Z->Prop}
theorem dW.seg {w:O} {b:Nat} {cs:List Z} {e:TypeId} (h:dW w b cs e):oQ w b 0 cs:=
 ⟨cs.toArray,e,(0,0),h,by simp,.inl rfl,λj v hj=>by simpa using hj⟩
end
section
variable {P:Program} {w:O} {K:Z->O->Prop} {k:IntKind} {t:TypeId} {a b:Int}
end
section
variable {P:Program} {w:O} {K:Z->O->Prop} {S:O->Prop} {L:Z->Prop}
theorem yFS {s f j ft:Nat} (hf:FA P s f j) (hl:L1 P ft) {b o:Nat} {cs:List Z} (hs:∀ w',S w'->oQ w' b o cs) {u:Z} (hu:cs[j]?=some u) (hk:L u) :
  aC P S (Instr.fieldAt s (.pointer (some ⟨b,o,none⟩)) f) λq=>aC P S (Instr.loadAt ft q) L:=by
 obtain ⟨d,hd,ha⟩:=hl;exact aC.ok (λw' _=>hf.ex w' b o) (aC.ok (λw' hw=>kH hd ha ((hs w' hw).cell hu)) hk)
theorem yFF {s f j s2 f2 j2 ft:Nat} (hf:FA P s f j) (hf2:FA P s2 f2 j2) (hl:L1 P ft) {b o:Nat} {cs:List Z} (hs:∀ w',S w'->oQ w' b o cs) {u:Z} (hu:cs[j+j2]?=some u) (hk:L u) :
  aC P S (Instr.fieldAt s (.pointer (some ⟨b,o,none⟩)) f) λq=>aC P S (Instr.fieldAt s2 q f2) λq=>aC P S (Instr.loadAt ft q) L:=by
 obtain ⟨d,hd,ha⟩:=hl;refine aC.ok (λw' _=>hf.ex w' b o) (aC.ok (λw' _=>hf2.ex w' b (o+j)) (aC.ok (λw' hw=>kH hd ha ?_) hk));have:=(hs w' hw).cell hu
 rwa [<- Nat.add_assoc] at this
theorem sZ {x:Nat} {z:Z} {by_:Nat} (hx:fH P x z 1 by_) {b o j:Nat} {cs:List Z} (hs:oQ w b o cs) (hj:j < cs.length) {u:Z} (hu:gO u=true) {K':O->Prop} (hk:K' (w.setCell ⟨b,o+j,none⟩ u)) :
  U P (Instr.storeAt x (.pointer (some ⟨b,o+j,none⟩)) u) w λ_ w2=>K' w2:=
 U.ok (mW hx hu (hs.cell (List.getElem?_eq_getElem hj)) (hs.frozen hj)) hk
theorem fdA {s f j:Nat} (hf:FA P s f j) {b o:Nat} (hk:K (.pointer (some ⟨b,o+j,none⟩)) w):V P (Instr.fieldAt s (.pointer (some ⟨b,o,none⟩)) f) w K:=V.ok (hf.ex w b o) hk
theorem yFA {s f j:Nat} (hf:FA P s f j) {b o:Nat} (hk:L (.pointer (some ⟨b,o+j,none⟩))):aC P S (Instr.fieldAt s (.pointer (some ⟨b,o,none⟩)) f) L:=aC.ok (λw' _=>hf.ex w' b o) hk
theorem FL {B e sz n a:Nat} {g cap:Nat} {xs:List Z} (h:w.ownsRow B e sz (.slice (some ⟨g,0,none⟩) n cap) n xs) (ha:a<=n):w.ownsRow B e sz (.slice (some ⟨g,0,none⟩) a cap) a (xs.take (a*sz)):=by
 obtain ⟨hl,h⟩:=h;rcases h with ⟨he,_⟩|⟨g',cap',cur,he,h1,h2,h3,h4,h5,h6⟩
 ·cases he
 ·cases he;have hle:a*sz<=n*sz:=Nat.mul_le_mul_right _ ha;refine ⟨by simp;omega,.inr ⟨g,cap,cur,rfl,h1,h2,by omega,h4,h5,?_⟩⟩;rw [<- h6,List.take_take,Nat.min_eq_left hle]
end
section
variable {P:Program} {w:O} {S:O->Prop} {L:Z->Prop}
theorem yFE {s f j ft:Nat} (hf:FA P s f j) (hl:L1 P ft) {b o:Nat} {u:Z} (hs:∀ w',S w'->∃ cs,oQ w' b o cs/\cs[j]?=some u) (hk:L u) :
  aC P S (Instr.fieldAt s (.pointer (some ⟨b,o,none⟩)) f) λq=>aC P S (Instr.loadAt ft q) L:=by
 obtain ⟨d,hd,ha⟩:=hl;exact aC.ok (λw' _=>hf.ex w' b o) (aC.ok (λw' hw=>by obtain ⟨cs,h1,h2⟩:=hs w' hw;exact kH hd ha (h1.cell h2)) hk)
end
def vO (IB:Nat->Prop) (w:O) (R:O->Prop):Prop:=∀ w',Fr (λi=>¬ IB i) w w'->R w'
section
variable {IB JB:Nat->Prop} {w w':O} {R Q:O->Prop} {S:Nat->Prop}
theorem vO.now (h:vO IB w R):R w:=h w (Fr.refl _ _)
theorem vO.fr (h:vO IB w R) (f:Fr S w w') (hd:∀ i,IB i->¬ S i):vO IB w' R:=λw'' g=>h w'' ((f.mono λi hs hi=>hd i hi hs).trans g λ_ _ h=>h)
theorem vO.ext (h:vO IB w R) (hx:aE w w'):vO IB w' R:=h.fr (Fr.of_ext (S:=λ_=>False) hx) λ_ _ h=>h
theorem vO.mono (h:vO IB w R) (hs:∀ i,i < w.heap.size->IB i->JB i):vO JB w R:=λw' f=>h w' ⟨f.os,f.tape,f.output,f.size,λi hi hn=>f.block i hi λhj=>hn λhI=>hj (hs i hi hI)⟩
theorem vO.imp (h:vO IB w R) (k:∀ w',R w'->Q w'):vO IB w Q:=λw' f=>k w' (h w' f)
theorem vO.lt (h:vO IB w R):vO (λi=>IB i/\i < w.heap.size) w R:=h.mono λ_ hi h=>⟨h,hi⟩
end
theorem aKt {P:Program} {w:O} {t e:TypeId} {z:Z} {by_:Nat} (ht:P.underlying t=some (.slice e)) (hi:fH P e z 1 by_) {v:Z} {n a:Nat} {xs:List Z} (ho:w.ownsRow 0 e 1 v n xs) (ha:a<=n) :
  ∃ v',(∀ w',(Instr.sliceAt t v none (some (.int .i64 (a:Int))) none).run P w'=.ok v' w')/\v'.ownBlock=v.ownBlock/\∀ w2:O,w2.ownsRow 0 e 1 v n xs->w2.ownsRow 0 e 1 v' a (xs.take a):=by
 rcases ho.2 with ⟨rfl,h0⟩|⟨g,cap,cur,rfl,h1,h2,h3,h4,h5,h6⟩
 ·have ea:a=0:=by omega
  subst ea;refine ⟨.slice none 0 0,λw'=>?_,rfl,λw2 _=>?_⟩
  ·simp [Instr.sliceAt,Instr.slice,run_underlying ht,gQ hi,Instr.sliceBounds,Instr.sliceBound,asIntOf]
  ·rw [List.take_zero];exact World.ownsRow_nil _ _ _ _
 ·refine ⟨.slice (some ⟨g,0,none⟩) a cap,λw'=>?_,rfl,λw2 h=>?_⟩
  ·have hc:a<=cap:=by omega
   simp [Instr.sliceAt,Instr.slice,run_underlying ht,gQ hi,Instr.sliceBounds,Instr.sliceBound,asIntOf,hc,jQ]
  ·have:=FL h ha
   rwa [Nat.mul_one] at this
end Go.Vc
namespace Go.Proofs.YtgkkecladbmjkaaGreatDoor
open Tryz
open Go.Vc Go.Tc
structure FP where
 fb:Nat
 (lv sv pv lc cv:Z)
def pf (q:FP):Z:=.pointer (some ⟨q.fb,0,none⟩)
def UF (q:FP) (me:gA) (f:kC):List Z:=[i64 (f.who:Int),i64 (f.mth:Int),i64 (f.pc:Int),q.pv,i64 me.result,q.lc,q.cv,q.lv,q.sv]
structure pD (w:O) (q:FP) (me:gA) (f:kC):Prop where
 box:oQ w q.fb 0 (UF q me f)
 loc:w.ownsRow 0 21 1 q.lv f.loc.length (f.loc.map i32)
 st:w.ownsRow 0 21 1 q.sv f.st.length (f.st.map i32)
 code:w.ownsRow 0 70 3 q.cv me.code.length (iJ me.code)
 db:∀ i,q.lv.ownBlock=some i\/q.sv.ownBlock=some i\/q.cv.ownBlock=some i->i≠q.fb
 dl:∀ i,q.lv.ownBlock=some i->q.sv.ownBlock≠some i
 dc:∀ i,q.cv.ownBlock=some i->q.lv.ownBlock≠some i/\q.sv.ownBlock≠some i
def FM (q:FP) (i:Nat):Prop:=i=q.fb\/q.lv.ownBlock=some i\/q.sv.ownBlock=some i
structure uP (q q':FP) (w w':O):Prop where
 same:q'={ q with sv:=q'.sv }
 sv:∀ i,q'.sv.ownBlock=some i->q.sv.ownBlock=some i\/w.heap.size<=i
 fr:Fr (FM q) w w'
variable {q q1:FP} {me:gA} {f f':kC} {w w' w1:O}
theorem uP.of_ext (hx:aE w w'):uP q q w w':=⟨rfl,λ_ h=>.inl h,Fr.of_ext hx⟩
theorem uP.fm {q':FP} (h:uP q q' w w') {i:Nat} (hi:FM q' i):FM q i\/w.heap.size<=i:=by
 obtain ⟨fb,lv,sv,pv,lc,cv⟩:=q;have e:=h.same;rcases hi with hi|hi|hi
 ·rw [e] at hi;exact .inl (.inl hi)
 ·rw [e] at hi;exact .inl (.inr (.inl hi))
 ·rcases h.sv i hi with h1|h1
  ·exact .inl (.inr (.inr h1))
  ·exact .inr h1
theorem uP.trans {q':FP} (h:uP q q1 w w1) (k:uP q1 q' w1 w'):uP q q' w w':=by
 refine ⟨?_,λi hi=>?_,h.fr.trans k.fr λi hi hm=>?_⟩
 ·rw [k.same,h.same]
 ·rcases k.sv i hi with h1|h1
  ·exact h.sv i h1
  ·exact .inr (Nat.le_trans h.fr.size h1)
 ·rcases h.fm hm with h1|h1
  ·exact h1
  ·omega
def ZZ (q:FP) (me:gA) (f':kC) (w w':O):Prop:=∃ q',pD w' q' me f'/\uP q q' w w'
theorem pD.hi (h:pD w q me f):∀ i,FM q i\/q.cv.ownBlock=some i->i < w.heap.size:=by
 rintro i ((rfl|hi|hi)|hi)
 ·exact h.box.lt
 ·exact (h.loc.lt i hi).2
 ·exact (h.st.lt i hi).2
 ·exact (h.code.lt i hi).2
theorem pD.fr {S:Nat->Prop} (h:pD w q me f) (g:Fr S w w') (hn:∀ i,FM q i\/q.cv.ownBlock=some i->¬ S i):pD w' q me f:=
 ⟨g.seg h.box (hn _ (.inl (.inl rfl))),g.own h.loc λi hi=>hn i (.inl (.inr (.inl hi))),g.own h.st λi hi=>hn i (.inl (.inr (.inr hi))),g.own h.code λi hi=>hn i (.inr hi),h.db,h.dl,h.dc⟩
theorem pD.ext (h:pD w q me f) (hx:aE w w'):pD w' q me f:=h.fr (Fr.of_ext (S:=λ_=>False) hx) λ_ _ h=>h
theorem pD.setS (h:pD w q me f) {w1:O} {v:Z} {s:List Int} (g:Fr (λi=>q.sv.ownBlock=some i) w w1) (ho:w1.ownsRow 0 21 1 v s.length (s.map i32)) (hl:∀ i,v.ownBlock=some i->q.sv.ownBlock=some i\/w.heap.size<=i) :
  pD (w1.setCell ⟨q.fb,0+8,none⟩ v) { q with sv:=v } me { f with st:=s }/\uP q { q with sv:=v } w (w1.setCell ⟨q.fb,0+8,none⟩ v):=by
 have f2:Fr (λi=>i=q.fb) w1 (w1.setCell ⟨q.fb,0+8,none⟩ v):=Fr.of_set rfl;have hsb:∀ i,q.sv.ownBlock=some i->i≠q.fb:=λi hi=>h.db i (.inr (.inl hi));have hfb:=h.box.lt
 have hv:∀ i,v.ownBlock=some i->i≠q.fb:=λi hi=>by
  rcases hl i hi with h1|h1
  ·exact hsb i h1
  ·omega
 have box1:=(g.seg h.box λhs=>hsb _ hs rfl).set (j:=8) (by simp [UF]) v;have F:Fr (FM q) w (w1.setCell ⟨q.fb,0+8,none⟩ v):=(g.or f2).mono λi hi=>hi.elim (λh=>.inr (.inr h)) .inl;have ol:=h.loc.lt;have oc:=h.code.lt;refine ⟨⟨box1,f2.own (g.own h.loc λi hi=>h.dl i hi) λi hi hs=>h.db i (.inl hi) hs,f2.own ho λi hi=>hv i hi,f2.own (g.own h.code λi hi=>(h.dc i hi).2) λi hi hs=>h.db i (.inr (.inr hi)) hs,?_,?_,?_⟩,rfl,hl,F⟩
 ·rintro i (hi|hi|hi)
  ·exact h.db i (.inl hi)
  ·exact hv i hi
  ·exact h.db i (.inr (.inr hi))
 ·intro i hi hv';rcases hl i hv' with h1|h1
  ·exact h.dl i hi h1
  ·have:=(ol i hi).2;omega
 ·intro i hi;refine ⟨(h.dc i hi).1,λhv'=>?_⟩;rcases hl i hv' with h1|h1
  ·exact (h.dc i hi).2 h1
  ·have:=(oc i hi).2;omega
theorem ZZ.of_ext {f':kC} (hx:aE w w1) (h:ZZ q me f' w1 w'):ZZ q me f' w w':=by
 obtain ⟨q',h1,h2⟩:=h;exact ⟨q',h1,(uP.of_ext hx).trans h2⟩
theorem aBj (h:pD w q me f) (hl:f.st.length<=1000) {n:Int}:aB prog 134 #[pf q,i32 n] w λ_ w'=>ZZ q me { f with st:=f.st++[n] } w w':=by
 apply aHq;unfold KZ;refine ⟨.inl ⟨_,rfl⟩,?_⟩;refine nC bI iM h.box rfl ?_;refine iT wM [i32 n] rfl rfl (by simp) rfl λv1 w1 ho1 x1=>?_;have h1:=h.ext x1;refine apL wM h1.st ho1 (by decide) (by rfl) (by omega) (by unfold maxLen;omega) (Nat.zero_le _) λg' cap' w2 ho2 hg2 hlies=>?_;have f2:Fr (λi=>q.sv.ownBlock=some i) w1 w2:=Fr.of_grown hg2 λk hk=>hk;refine ⟨.inl ⟨_,rfl⟩,?_⟩;refine fdA bI ?_;have hb2:=f2.seg h1.box λhs=>h.db _ (.inr (.inl hs)) rfl;refine sZ BM hb2 (show 8 < 9 by decide) rfl ?_
 obtain ⟨h3,s3⟩:=h1.setS (v:=.slice (some ⟨g',0,none⟩) (f.st.length+1) cap') (s:=f.st++[n]) f2 (by simpa using ho2) λi hi=>by
  have:g'=i:=by simpa [Value.ownBlock] using hi
  subst this;rcases hlies with hl|hl
  ·exact .inl hl
  ·exact .inr (by omega)
 exact ZZ.of_ext x1 ⟨_,h3,s3⟩
theorem MQ (h:pD w q me f) (hl:f.st.length<=1000) {k:Nat} (hk:k<=f.st.length):aB prog 91 #[pf q,i64 (k:Int)] w λr w'=>w'.ownsRow w.heap.size 21 1 r k ((jE k f.st).map i32)/\ZZ q me { f with st:=kX k f.st } w w':=by
 apply aNz;unfold QX;refine ⟨.inl ⟨_,rfl⟩,?_⟩;refine nC bI iM h.box rfl (hU kE (aA.of_own h.st) ?_);refine iL.2 ?_;rw [aU (by omega)];have ea:(f.st.length:Int) - (k:Int)=((f.st.length - k:Nat):Int):=by omega
 rw [ea];generalize hat:f.st.length - k=at';refine ⟨.inl ⟨_,rfl⟩,?_⟩;refine nC bI iM h.box rfl ?_;obtain ⟨v',hrun,hsl⟩:=MK underlying37 oY (aA.of_own h.st) (lo:=some (.int .i64 (at':Int))) (hi':=none) (a:=at') (b:=f.st.length) (.inr rfl) (.inl ⟨rfl,rfl⟩) (by omega) (Nat.le_refl _);refine V.ok (hrun _) ?_;have etk:jE k f.st=f.st.drop at':=by unfold jE;rw [hat]
 have eun:kX k f.st=f.st.take at':=by unfold kX;rw [hat]
 have hsv:aA w v' 1 k ((f.st.drop at').map i32):=by
  have:=hsl w (aA.of_own h.st);rw [show f.st.length - at'=k by omega] at this;rw [List.map_drop];have e2:((f.st.map i32).drop at').take k=(f.st.map i32).drop at':=List.take_of_length_le (by simp;omega)
  rwa [e2] at this
 rw [etk,eun];refine aB.mono (R:=λr w'=>w'.ownsRow w.heap.size 21 1 r k ((f.st.drop at').map i32)/\aE w w') ?_ λr w1 ⟨hr1,x1⟩=>?_
 ·apply aAb;unfold ED;exact yJ (R:=λr w'=>w'.ownsRow w.heap.size 21 1 r k ((f.st.drop at').map i32)/\aE w w') wM hsv (List.all_eq_true.2 λv hv=>by obtain ⟨x,_,rfl⟩:=List.mem_map.1 hv;rfl) (by omega) λv' w' g1 g2=>⟨g1,g2⟩
 have h1:=h.ext x1;refine ⟨.inl ⟨_,rfl⟩,?_⟩;refine nC bI iM h1.box rfl ?_;obtain ⟨v2,hr2,hb2,ho2⟩:=aKt underlying37 oY h1.st (a:=at') (by omega);refine V.ok (hr2 _) ?_;refine ⟨.inl ⟨_,rfl⟩,?_⟩;refine fdA bI ?_;have ho:=ho2 _ h1.st;refine sZ BM h1.box (show 8 < 9 by decide) (jR ho) ?_;have eta:(f.st.take at').length=at':=by simp;omega
 obtain ⟨h3,s3⟩:=h1.setS (v:=v2) (s:=f.st.take at') (Fr.refl _ _) (by rw [eta,List.map_take];exact ho) λi hi=>.inl (hb2▸hi);refine ⟨s3.fr.own hr1 λi hi hm=>?_,ZZ.of_ext x1 ⟨_,h3,s3⟩⟩;have:=(hr1.lt i hi).1;have:=h.hi i (.inl hm);omega
theorem xH (h:pD w q me f) (hl:f.st.length<=1000) (hk:1<=f.st.length):aB prog 135 #[pf q] w λr w'=>r=i32 (cT (jE 1 f.st) 0)/\ZZ q me { f with st:=kX 1 f.st } w w':=by
 apply aHp;unfold KY;refine (MQ h hl (k:=1) hk).mono λr w1 ⟨hs,hm⟩=>?_;obtain ⟨a,ha⟩:∃ a,jE 1 f.st=[a]:=List.length_eq_one_iff.1 (rA hk);rw [ha] at hs ⊢;exact kP kE eY (aA.of_own hs) (by omega) (by omega) rfl ⟨rfl,hm⟩
def FR (op:Int) (t:List Int):Int:=if op=15\/op=16\/op=26 then unF op (cT t 0) else if op=22 then sB (cT t 0) (cT t 1) (cT t 2) else nL op (cT t 0) (cT t 1)
def tI (op:Int):Nat:=if op=15\/op=16\/op=26 then 1 else if op=22 then 3 else 2
theorem TG {op:Int} (ho:fP op\/op=15\/op=16\/op=26\/op=22) (h:pD w q me f) (hl:f.st.length<=1000) (hk:tI op<=f.st.length) (h32:kD f.st) :
  aB prog 138 #[pf q,i64 op] w λr w'=>r=i32 (FR op (jE (tI op) f.st))/\ZZ q me { f with st:=kX (tI op) f.st } w w':=by
 apply aHn;suffices key:∀ R:Z->O->Prop,(∀ w',ZZ q me { f with st:=kX (tI op) f.st } w w'->R (i32 (FR op (jE (tI op) f.st))) w')->zH (pf q) (i64 op) w R from key _ λw' h1=>⟨rfl,h1⟩;intro R hR;have ht:=(PX h32 (tI op)).1;unfold zH;by_cases h15:op=15
 ·subst h15;simp only [aO,Int.reduceEq,decide_true,decide_false,aS,aD];refine (xH h hl hk).mono λr w1 ⟨hr,hg⟩=>?_;subst hr;exact aQb.mono λr w' ⟨hr,hw⟩=>hr▸hw▸hR _ hg
 by_cases h16:op=16
 ·subst h16;simp only [aO,Int.reduceEq,decide_true,decide_false,aS,aD];refine (xH h hl hk).mono λr w1 ⟨hr,hg⟩=>?_;subst hr;exact aQa.mono λr w' ⟨hr,hw⟩=>hr▸hw▸hR _ hg
 by_cases h26:op=26
 ·subst h26;simp only [aO,Int.reduceEq,decide_true,decide_false,aS,aD];refine (xH h hl hk).mono λr w1 ⟨hr,hg⟩=>?_;subst hr;refine (wEq (rM ht 0) (by unfold kY;omega)).mono λr w' ⟨hr,hw⟩=>?_;have hw:=hw.symm;subst hw;subst hr;exact hR _ hg
 by_cases h22:op=22
 ·subst h22;simp only [aO,Int.reduceEq,decide_true,decide_false,aS,aD];refine (MQ h hl (k:=3) hk).mono λr w1 ⟨ho,hg⟩=>?_;have ht3:(jE 3 f.st).length=3:=rA hk;have e22:tI 22=3:=rfl;rw [e22] at hR ht
  obtain ⟨x,y,z,hxyz⟩:∃ x y z,jE 3 f.st=[x,y,z]:=by
   match jE 3 f.st,ht3 with
   | [x,y,z],_=>exact ⟨x,y,z,rfl⟩
  rw [hxyz] at ho hR ht;have hs:=aA.of_own ho;have D1:aE w1 w1.drew:=(aE.refl _).drew;refine aJ.mk' (λw'=>aE w1 w') D1 ?_;refine lT kE eY hs (λw' hw=>hw) (by omega) (by omega) (u:=i32 x) rfl ?_;refine lT kE eY hs (λw' hw=>hw) (by omega) (by omega) (u:=i32 y) rfl ?_;refine lT kE eY hs (λw' hw=>hw) (by omega) (by omega) (u:=i32 z) rfl ?_;refine (aIp (ht x (by simp)) (ht y (by simp)) (ht z (by simp))).mono λr w' ⟨hr,hw⟩=>?_;have hw:=hw.symm;subst hw;subst hr;obtain ⟨q',h1,h2⟩:=hg;exact ⟨D1,hR _ ⟨q',h1.ext D1,h2.trans (uP.of_ext D1)⟩⟩
 have hb:fP op:=ho.resolve_right (by omega);have e2:tI op=2:=by unfold tI;rw [if_neg (by omega),if_neg h22]
 rw [e2] at hR ht hk;simp only [aO,h15,h16,h26,h22,decide_false,aD];refine (MQ h hl (k:=2) hk).mono λr w1 ⟨ho,hg⟩=>?_;have ht2:(jE 2 f.st).length=2:=rA hk
 obtain ⟨x,y,hxy⟩:∃ x y,jE 2 f.st=[x,y]:=by
  match jE 2 f.st,ht2 with
  | [x,y],_=>exact ⟨x,y,rfl⟩
 rw [hxy] at ho hR ht;have eN:FR op [x,y]=nL op x y:=by unfold FR;rw [if_neg (by omega),if_neg h22];rfl
 rw [eN] at hR;have hs:=aA.of_own ho;have D1:aE w1 w1.drew:=(aE.refl _).drew;refine aJ.mk' (λw'=>aE w1 w') D1 ?_;refine lT kE eY hs (λw' hw=>hw) (by omega) (by omega) (u:=i32 x) rfl ?_;refine lT kE eY hs (λw' hw=>hw) (by omega) (by omega) (u:=i32 y) rfl ?_;refine (UG hb (ht x (by simp)) (ht y (by simp))).mono λr w' ⟨hr,hw⟩=>?_;have hw:=hw.symm;subst hw;subst hr;obtain ⟨q',h1,h2⟩:=hg;exact ⟨D1,hR _ ⟨q',h1.ext D1,h2.trans (uP.of_ext D1)⟩⟩
end Go.Proofs.YtgkkecladbmjkaaGreatDoor
namespace Go.Vc
theorem NT {P:Program} {w:O} {t e by_ sz:Nat} {z:Z} (ht:P.underlying t=some (.slice e)) (hi:fH P e z sz by_) (hz:(z.cells.size == sz)=true) (hsz:0 < sz) (hb0:∀ w,(Instr.buildSlice t 0 #[]).run P w=.ok (.slice (some ⟨w.heap.size,0,none⟩) 0 0) (w.alloc (.cells #[] e)))
  {v:Z} {n:Nat} {cs:List Z} (hs:aA w v sz n cs) (h1:cs.all gO=true) (hb:n*by_<=140737488355328) (hm:n<=maxLen) {x y:Operand} {R:Z->O->Prop} (hk:∀ v' w',w'.ownsRow w.heap.size e sz v' n cs->aE w w'->R v' w') :
  V P (do eqGuard .eql t x y v (Value.slice none 0 0);binOp .eql t v (Value.slice none 0 0)) w λt4 w1=>
   aH t4 (R (Value.slice none 0 0) w1) (V P (Instr.buildSlice t 0 #[]) w1 λt5 w2=>V P (Builtin.append_ #[t,t] t #[t5,v]) w2 λt7 w3=>R t7 w3):=by
 rcases hs.2 with ⟨rfl,h0⟩|⟨b,off,cap,rfl,hc1,hc2,hc⟩
 ·refine V.ok (nQ ht) (aS.2 (hk _ _ ?_ (aE.refl w)));have hl:=hs.1;rw [h0,Nat.zero_mul] at hl;rw [List.eq_nil_of_length_eq_zero hl,h0];exact World.ownsRow_nil _ _ _ _
 ·refine V.ok (nQ ht) (aD.2 (V.ok (hb0 w) ?_));have hb1:dW (w.alloc (.cells (([]:List Z)).toArray e)) w.heap.size [] e:=by unfold dW;rw [heap_alloc_new]
  have x1:aE w (w.alloc (.cells (([]:List Z)).toArray e)):=(aE.refl _).alloc _;have e0:(([]:List Z)).toArray=#[]:=rfl;rw [e0] at hb1 x1;generalize w.alloc (.cells #[] e)=w1 at hb1 x1 ⊢;have ho1:w1.ownsRow w.heap.size e sz (.slice (some ⟨w.heap.size,0,none⟩) 0 0) 0 []:=rB hb1 (by simp) (Nat.le_refl _) (by unfold maxLen;omega);refine apA ht hi hz hsz ho1 (hs.ext x1) h1 (by simpa using hb) (by omega) x1.size λv2 w2 ho2 hg=>?_;rw [Nat.zero_add,List.nil_append] at ho2;exact hk v2 w2 ho2 (x1.grown hg λk hk=>(ho1.lt k hk).1)
end Go.Vc
namespace Go.Proofs.YtgkkecladbmjkaaGreatDoor
open Tryz
open Go.Vc Go.Tc
theorem aJj {l:List Int} {j:Nat} (h:j < l.length):(l.map i32)[j]?=some (i32 (l.getD j 0)):=by
 rw [List.getElem?_map,List.getD_eq_getElem?_getD,List.getElem?_eq_getElem h];rfl
structure rK (w:O) (fv:Z) (fo:Nat) (vs:List Z) (fd:List (List Int)):Prop where
 eq:∃ cap,fv=.slice (some ⟨fo,0,none⟩) fd.length cap
 out:oQ w fo 0 vs
 len:vs.length=fd.length
 row:∀ (k:Nat) v d,vs[k]?=some v->fd[k]?=some d->w.ownsRow 0 21 1 v d.length (d.map i32)
 dj:∀ (j k:Nat) u v i,vs[j]?=some u->vs[k]?=some v->u.ownBlock=some i->v.ownBlock=some i->j=k
 ne:∀ v∈vs,v.ownBlock≠some fo
variable {w w':O} {fv:Z} {fo:Nat} {vs:List Z} {fd:List (List Int)}
def FdM (vs:List Z) (i:Nat):Prop:=∃ v∈vs,v.ownBlock=some i
theorem rK.fr {S:Nat->Prop} (h:rK w fv fo vs fd) (f:Fr S w w') (hn:¬ S fo) (hm:∀ i,FdM vs i->¬ S i):rK w' fv fo vs fd:=
 ⟨h.eq,f.seg h.out hn,h.len,λk v d hk hd=>f.own (h.row k v d hk hd) λi hi=>hm i ⟨v,List.mem_of_getElem? hk,hi⟩,h.dj,h.ne⟩
theorem rK.get (h:rK w fv fo vs fd) {k:Nat} (hk:k < fd.length):∃ v,vs[k]?=some v/\w.ownsRow 0 21 1 v (fd.getD k []).length ((fd.getD k []).map i32):=by
 obtain ⟨v,hv⟩:=fQ (l:=vs) (j:=k) (by have:=h.len;omega);refine ⟨v,hv,h.row k v _ hv ?_⟩;rw [List.getD_eq_getElem?_getD,List.getElem?_eq_getElem hk];rfl
theorem rK.set (h:rK w fv fo vs fd) {k j:Nat} {n:Int} {v:Z} {w1:O} (hv:vs[k]?=some v) (hk:k < fd.length) (ho:w1.ownsRow 0 21 1 v (fd.getD k []).length (((fd.getD k []).map i32).set j (i32 n))) (f:Fr (λi=>v.ownBlock=some i) w w1) :
  rK w1 fv fo vs (fd.set k ((fd.getD k []).set j n)):=by
 refine ⟨by simpa using h.eq,f.seg h.out λhs=>h.ne v (List.mem_of_getElem? hv) hs,by simpa using h.len,λq u d hq hd=>?_,h.dj,h.ne⟩;by_cases hqk:k=q
 ·subst hqk;rw [List.getElem?_set_self hk] at hd;cases hd;rw [hv] at hq;cases hq;rw [List.length_set,List.map_set];exact ho
 ·rw [List.getElem?_set_ne hqk] at hd;exact f.own (h.row q u d hq hd) λi hi hs=>hqk (h.dj k q v u i hv hq hs hi)
section
variable {rb hb:Nat} {iv pub sec:Z}
theorem yF (hr:oQ w rb 0 [.pointer (some ⟨hb,0,none⟩),iv,fv,pub,sec]) (h:rK w fv fo vs fd) {k j:Nat} (hk:k < fd.length) (hj:j < (fd.getD k []).length) :
  aB prog 37 #[.pointer (some ⟨rb,0,none⟩),i64 (k:Int),i64 (j:Int)] w λr w'=>r=.tuple #[i32 ((fd.getD k []).getD j 0),.bool true]/\w'=w:=by
 obtain ⟨cap,hfv⟩:=h.eq;subst hfv;obtain ⟨v,hv,ho⟩:=h.get hk;apply aAc;unfold wI;refine bP.2 ?_;simp only [show ¬ ((k:Int) < 0) by omega,mK,bR,reduceIte,Bool.false_eq_true,decide_false];refine ⟨.inl ⟨_,rfl⟩,?_⟩;refine nC bE eF hr rfl (HB.2 (jU.2 ?_));simp only [show ¬ ((k:Int)>=((fd.length:Nat):Int)) by omega,bP,mK,bR,reduceIte,Bool.false_eq_true,decide_false];simp only [show ¬ ((j:Int) < 0) by omega,mK,reduceIte,Bool.false_eq_true,decide_false];refine ⟨.inl ⟨_,rfl⟩,?_⟩;refine nC bE eF hr rfl ?_;refine aCe CE iM h.out (by omega) (by omega) (u:=v) (by simpa using hv) ?_;refine hU kE (aA.of_own ho) (jU.2 ?_);simp only [show ¬ ((j:Int)>=(((fd.getD k []).length:Nat):Int)) by omega,aD,decide_false];refine ⟨.inl ⟨_,rfl⟩,?_⟩;refine nC bE eF hr rfl ?_;refine aCe CE iM h.out (by omega) (by omega) (u:=v) (by simpa using hv) ?_;refine kP kE eY (aA.of_own ho) (by omega) (by omega) (u:=i32 ((fd.getD k []).getD j 0)) ?_ ⟨rfl,rfl⟩;rw [Int.toNat_natCast];exact aJj hj
theorem YM (hr:oQ w rb 0 [.pointer (some ⟨hb,0,none⟩),iv,fv,pub,sec]) (h:rK w fv fo vs fd) {k j:Int} (hn:¬ (0<=k/\k < fd.length/\0<=j/\j < (fd.getD k.toNat []).length)) :
  aB prog 37 #[.pointer (some ⟨rb,0,none⟩),i64 k,i64 j] w λr w'=>r=.tuple #[i32 0,.bool false]/\w'=w:=by
 obtain ⟨cap,hfv⟩:=h.eq;subst hfv;apply aAc;suffices key:∀ R:Z->O->Prop,R (.tuple #[i32 0,.bool false]) w->wI (.pointer (some ⟨rb,0,none⟩)) (i64 k) (i64 j) w R from key _ ⟨rfl,rfl⟩;intro R hR;unfold wI;refine bP.2 ?_;by_cases h1:k < 0
 ·simp only [h1,yE,bR,aS,reduceIte,decide_true];exact hR
 simp only [h1,mK,bR,reduceIte,Bool.false_eq_true,decide_false];refine ⟨.inl ⟨_,rfl⟩,?_⟩;refine nC bE eF hr rfl (HB.2 (jU.2 ?_));by_cases h2:k>=((fd.length:Nat):Int)
 ·simp only [h2,yE,bR,aS,reduceIte,decide_true];exact hR
 simp only [h2,bP,mK,bR,reduceIte,Bool.false_eq_true,decide_false];by_cases h3:j < 0
 ·simp only [h3,yE,aS,reduceIte,decide_true];exact hR
 simp only [h3,mK,reduceIte,Bool.false_eq_true,decide_false];obtain ⟨k,rfl⟩:∃ m:Nat,k=m:=⟨k.toNat,by omega⟩;obtain ⟨v,hv,ho⟩:=h.get (k:=k) (by omega);refine ⟨.inl ⟨_,rfl⟩,?_⟩;refine nC bE eF hr rfl ?_;refine aCe CE iM h.out (by omega) (by omega) (u:=v) (by simpa using hv) ?_;refine hU kE (aA.of_own ho) (jU.2 ?_);rw [Int.toNat_natCast] at hn;simp only [show j>=(((fd.getD k []).length:Nat):Int) by omega,aS,decide_true];exact hR
theorem EP (hr:oQ w rb 0 [.pointer (some ⟨hb,0,none⟩),iv,fv,pub,sec]) (h:rK w fv fo vs fd) {k j:Nat} (hk:k < fd.length) (hj:j < (fd.getD k []).length) {n:Int} :
  aB prog 137 #[.pointer (some ⟨rb,0,none⟩),i64 (k:Int),i64 (j:Int),i32 n] w λr w'=>r=.bool true/\rK w' fv fo vs (fd.set k ((fd.getD k []).set j n))/\Fr (FdM vs) w w':=by
 have h0:=h;obtain ⟨cap,hfv⟩:=h.eq;subst hfv;obtain ⟨v,hv,ho⟩:=h.get hk;apply aHo;unfold KX;refine (yF hr h hk hj).mono λr w' ⟨hr',hw⟩=>?_;subst hr';have hw:=hw.symm;subst hw;refine gM.2 (gL.2 (gG.2 (aD.2 ⟨.inl ⟨_,rfl⟩,?_⟩)));refine nC bE eF hr rfl ?_;refine aCe CE iM h.out (by omega) (by omega) (u:=v) (by simpa using hv) ?_;refine stO kE oY ho (by omega) (by omega) rfl λw2 ho2 hg=>?_;have f:Fr (λi=>v.ownBlock=some i) w w2:=Fr.of_grown hg λk hk=>hk;exact ⟨rfl,h.set hv hk (by simpa using ho2) f,f.mono λi hi=>⟨v,List.mem_of_getElem? hv,hi⟩⟩
end
def yQ (w:O) (row:List Z) (i:dN):Prop:=∃ p:fZ,row=p.cells i/\gZ w p i
theorem yQ.len {w:O} {row:List Z} {i:dN} (h:yQ w row i):row.length=5:=by obtain ⟨p,rfl,_⟩:=h;rfl
def nW (w:O) (v:Z) (l:List dN):Prop:=eA yQ 5 w v l
theorem yQ.ext {w w':O} {row:List Z} {i:dN} (h:yQ w row i) (hx:aE w w'):yQ w' row i:=by obtain ⟨p,h1,h2⟩:=h;exact ⟨p,h1,h2.ext hx⟩
theorem nW.ext {w w':O} {v:Z} {l:List dN} (h:nW w v l) (hx:aE w w'):nW w' v l:=eA.ext (λh k=>h.ext k) h hx
def yO (B:Nat) (w:O) (row:List Z) (m:gA):Prop:=∃ pv lv cv,row=[pv,i64 m.result,lv,cv]/\w.ownsRow B 3 1 pv m.params.length (m.params.map i64)/\w.ownsRow B 3 1 lv m.locals.length (m.locals.map i64)/\w.ownsRow B 70 3 cv m.code.length (iJ m.code)
def yP (B:Nat) (w:O) (row:List Z) (x:uO):Prop:=∃ pv,row=[.string x.name,i64 x.exp,pv,i64 x.result]/\w.ownsRow B 3 1 pv x.params.length (x.params.map i64)
def OD {α:Type} (T:List Z->α->Prop) (sz:Nat) (cs:List Z) (l:List α):Prop:=∀ (k:Nat) x,l[k]?=some x->T ((cs.drop (k*sz)).take sz) x
structure qG (B:Nat) (w:O) (p:fZ) (i:dN):Prop where
 fl:w.ownsRow B 3 1 p.fv i.fields.length (i.fields.map i64)
 ex:w.ownsRow B 3 1 p.xv i.exports.length (i.exports.map i64)
 im:∃ cs,w.ownsRow B 180 4 p.iv i.imports.length cs/\OD (yP B w) 4 cs i.imports
 mt:∃ cs,w.ownsRow B 74 4 p.mv i.methods.length cs/\OD (yO B w) 4 cs i.methods
theorem yO.at_ {B:Nat} {row:List Z} {m:gA} (h:yO B w row m):iO w row m:=by
 obtain ⟨pv,lv,cv,h1,h2,h3,h4⟩:=h;exact ⟨pv,lv,cv,h1,aA.of_own h2,aA.of_own h3,aA.of_own h4⟩
theorem yP.at_ {B:Nat} {row:List Z} {m:uO} (h:yP B w row m):oH w row m:=by
 obtain ⟨pv,h1,h2⟩:=h;exact ⟨pv,h1,aA.of_own h2⟩
theorem qG.at_ {B:Nat} {p:fZ} {i:dN} (h:qG B w p i):gZ w p i:=by
 obtain ⟨h1,h2,⟨c1,h3,h4⟩,c2,h5,h6⟩:=h;exact ⟨aA.of_own h1,⟨c1,aA.of_own h3,λk x hx=>⟨_,rfl,(h4 k x hx).at_⟩⟩,⟨c2,aA.of_own h5,λk x hx=>⟨_,rfl,(h6 k x hx).at_⟩⟩,aA.of_own h2⟩
theorem yO.fr {B:Nat} {row:List Z} {m:gA} {S:Nat->Prop} (h:yO B w row m) (f:Fr S w w') (hS:∀ i,B<=i->¬ S i):yO B w' row m:=by
 obtain ⟨pv,lv,cv,h1,h2,h3,h4⟩:=h;exact ⟨pv,lv,cv,h1,f.own h2 λi hi=>hS i (h2.lt i hi).1,f.own h3 λi hi=>hS i (h3.lt i hi).1,f.own h4 λi hi=>hS i (h4.lt i hi).1⟩
theorem yP.fr {B:Nat} {row:List Z} {m:uO} {S:Nat->Prop} (h:yP B w row m) (f:Fr S w w') (hS:∀ i,B<=i->¬ S i):yP B w' row m:=by
 obtain ⟨pv,h1,h2⟩:=h;exact ⟨pv,h1,f.own h2 λi hi=>hS i (h2.lt i hi).1⟩
theorem qG.fr {B:Nat} {p:fZ} {i:dN} {S:Nat->Prop} (h:qG B w p i) (f:Fr S w w') (hS:∀ i,B<=i->¬ S i):qG B w' p i:=by
 obtain ⟨h1,h2,⟨c1,h3,h4⟩,c2,h5,h6⟩:=h;exact ⟨f.own h1 λi hi=>hS i (h1.lt i hi).1,f.own h2 λi hi=>hS i (h2.lt i hi).1,⟨c1,f.own h3 λi hi=>hS i (h3.lt i hi).1,λk x hx=>(h4 k x hx).fr f hS⟩,c2,f.own h5 λi hi=>hS i (h5.lt i hi).1,λk x hx=>(h6 k x hx).fr f hS⟩
theorem qG.dep {B:Nat} {p:fZ} {i:dN} (h:qG B w p i):vO (λi=>B<=i) w λw'=>qG B w' p i:=λ_ f=>h.fr f λ_ hi hn=>hn hi
end Go.Proofs.YtgkkecladbmjkaaGreatDoor
namespace Go.Proofs.YtgkkecladbmjkaaGreatDoor
open Tryz
open Go.Vc Go.Tc
variable {w w':O}
variable {B B' n sz:Nat} {cs:List Z} {m:gA}
theorem EN {α:Type} {T:List Z->α->Prop} {l:List α} (hl:cs.length=l.length*sz) (hsz:0 < sz) (hr:OD T sz cs l) (h1:∀ row x,T row x->row.all gO=true):cs.all gO=true:=by
 rw [List.all_eq_true];intro v hv;obtain ⟨j,hj⟩:=List.getElem?_of_mem hv;have hlt:=(List.getElem?_eq_some_iff.1 hj).1;have hk:j / sz < l.length:=by rw [Nat.div_lt_iff_lt_mul hsz];omega
 obtain ⟨x,hx⟩:=fQ (l:=l) (j:=j / sz) hk;have hrow:=h1 _ _ (hr _ _ hx);rw [List.all_eq_true] at hrow;refine hrow v (List.mem_of_getElem? (i:=j % sz) ?_);rw [List.getElem?_take,if_pos (Nat.mod_lt _ hsz),List.getElem?_drop,Nat.mul_comm,Nat.div_add_mod];exact hj
theorem CL {v:Z} (h:aA w v sz n cs):gO v=true:=by
 obtain ⟨a,c,rfl⟩:=h.shape;rfl
theorem iO.one {row:List Z} (h:iO w row m):row.all gO=true:=by
 obtain ⟨pv,lv,cv,rfl,h1,h2,h3⟩:=h;simp [CL h1,CL h2,CL h3];rfl
theorem oH.one {row:List Z} {m:uO} (h:oH w row m):row.all gO=true:=by
 obtain ⟨pv,rfl,h1⟩:=h;simp [CL h1];exact ⟨rfl,rfl,rfl⟩
theorem XX (l:List Int):(l.map i64).all gO=true:=List.all_eq_true.2 λv hv=>by obtain ⟨x,_,rfl⟩:=List.mem_map.1 hv;rfl
theorem pB {v:Z} {l:List Int} (h:aQ w v l) (hl:l.length<=1000000):aB prog 122 #[v] w λr w'=>w'.ownsRow w.heap.size 3 1 r l.length (l.map i64)/\aE w w':=by
 apply EH;unfold tY;exact yJ (R:=λr w'=>w'.ownsRow w.heap.size 3 1 r l.length (l.map i64)/\aE w w') aZ h (XX l) (by omega) λv' w' g1 g2=>⟨g1,g2⟩
theorem UD {v:Z} {l:List gN} (h:lG w v l) (hl:l.length<=1000000):aB prog 125 #[v] w λr w'=>w'.ownsRow w.heap.size 70 3 r l.length (iJ l)/\aE w w':=by
 apply aHw;unfold LD;exact NT (R:=λr w'=>w'.ownsRow w.heap.size 70 3 r l.length (iJ l)/\aE w w') underlying71 mE rfl (by omega) (λw=>by kernel_rfl) h (XZ l) (by omega) (by unfold maxLen;omega) λv' w' g1 g2=>⟨g1,g2⟩
theorem UB {v:Z} (h:aA w v 4 n cs) (h1:cs.all gO=true) (hl:n<=1000000):aB prog 123 #[v] w λr w'=>w'.ownsRow w.heap.size 180 4 r n cs/\aE w w':=by
 apply aHy;unfold LG;exact NT (R:=λr w'=>w'.ownsRow w.heap.size 180 4 r n cs/\aE w w') underlying43 qS rfl (by omega) (λw=>by kernel_rfl) h h1 (by omega) (by unfold maxLen;omega) λv' w' g1 g2=>⟨g1,g2⟩
theorem UC {v:Z} (h:aA w v 4 n cs) (h1:cs.all gO=true) (hl:n<=1000000):aB prog 124 #[v] w λr w'=>w'.ownsRow w.heap.size 74 4 r n cs/\aE w w':=by
 apply aHx;unfold LF;exact NT (R:=λr w'=>w'.ownsRow w.heap.size 74 4 r n cs/\aE w w') underlying44 nD rfl (by omega) (λw=>by kernel_rfl) h h1 (by omega) (by unfold maxLen;omega) λv' w' g1 g2=>⟨g1,g2⟩
def aSh {α:Type} (T U:List Z->α->Prop) (j sz:Nat) (cs:List Z) (l:List α):Prop:=∀ (k:Nat) x,l[k]?=some x->(k < j->U ((cs.drop (k*sz)).take sz) x)/\(j<=k->T ((cs.drop (k*sz)).take sz) x)
theorem yO.mono {row:List Z} (h:yO B w row m) (hB:B'<=B):yO B' w row m:=by
 obtain ⟨pv,lv,cv,h1,h2,h3,h4⟩:=h;exact ⟨pv,lv,cv,h1,aX h2 hB,aX h3 hB,aX h4 hB⟩
theorem yP.mono {row:List Z} {m:uO} (h:yP B w row m) (hB:B'<=B):yP B' w row m:=by
 obtain ⟨pv,h1,h2⟩:=h;exact ⟨pv,h1,aX h2 hB⟩
theorem nX {e:Nat} {v:Z} {xs:List Z} (h:w.ownsRow B e sz v n xs) (hn:0 < n):∃ g cap,v=.slice (some ⟨g,0,none⟩) n cap:=by
 rcases h.2 with ⟨_,h0⟩|⟨g,cap,cur,e,_⟩
 ·omega
 ·exact ⟨g,cap,e⟩
theorem BP {p:fZ} {i:dN} (h:gZ w p i) (hi:i.right):aB prog 78 #[p.val i] w λr w'=>∃ p':fZ,r=p'.val i/\qG w.heap.size w' p' i/\aE w w':=by
 obtain ⟨⟨fk,fl⟩,⟨iml,imr⟩,⟨⟨_,mtl⟩,mtr,_⟩,exl,_⟩:=hi;apply aOg;suffices key:∀ R:Z->O->Prop,(∀ p' w',qG w.heap.size w' p' i->aE w w'->R (p'.val i) w')->EA (p.val i) w R from key _ λp' w' h1 h2=>⟨p',rfl,h1,h2⟩;intro R hR;unfold EA;refine QG λw1 hb1 x1=>?_;refine alK mF λw2 hz2 x2=>?_;have hb1:dW w1 w.heap.size [.string i.name,p.fv,p.iv,p.mv,p.xv] 46:=hb1;have hb2:=hb1.ext x2;have s1:=x1.size;have s2:=x2.size;have l1:=hb1.lt;have l2:=hz2.lt;have x02:=x1.trans x2;generalize hb:w.heap.size=b at *;generalize hc:w1.heap.size=c at *;have D2:aE w2 w2.drew:=(aE.refl _).drew;refine aJ.mk' (λw'=>aE w2 w') D2 ?_;refine gY (λw' hw=>(hb2.ext hw).boxed) eE bJ rfl ?_;refine gY (λw' hw=>(hb2.ext hw).boxed) fA bJ rfl ?_;refine (pB (h.fl.ext (x02.trans D2)) (by omega)).mono λfv4 w4 ⟨of4,x4⟩=>?_;have x24:=D2.trans x4;refine ⟨x24,?_⟩;refine aC.ok (λw' _=>SW) ?_;refine (pB (h.ex.ext (x02.trans x24)) (by omega)).mono λxv5 w5 ⟨ox5,x5⟩=>?_;have x25:=x24.trans x5;refine ⟨x25,?_⟩;have hb5:=hb2.ext x25;have of5:=x5.own of4;have s4:=x4.size;have s5:=x5.size;have sD:=D2.size;refine MA jM hb5 rfl (by simp) (jR of5) ?_;have hb6:=hb5.set 1 fv4;have f6:Fr (λi=>i=b) w5 (w5.setCell ⟨b,1,none⟩ fv4):=Fr.of_set rfl;generalize w5.setCell ⟨b,1,none⟩ fv4=w6 at hb6 f6 ⊢
 refine ⟨(λw'=>w'=w6),rfl,?_⟩;refine aC.ok (λw' _=>SS) ?_;refine MA jM hb6 rfl (by simp) (jR ox5) ?_;have hb7:=hb6.set 4 xv5;have f7:Fr (λi=>i=b) w5 (w6.setCell ⟨b,4,none⟩ xv5):=f6.set rfl;generalize w6.setCell ⟨b,4,none⟩ xv5=w7 at hb7 f7 ⊢;have hb7:dW w7 b [.string i.name,fv4,p.iv,p.mv,xv5] 46:=hb7;have of7:=f7.own of5 λk hk he=>by have:=(of5.lt k hk).1;omega
 have ox7:=f7.own ox5 λk hk he=>by have:=(ox5.lt k hk).1;omega
 have x07:aE w w7:=f7.ext (x02.trans x25) λk hk=>by omega
 have hz7:=f7.blk (hz2.ext x25) (by omega);have s7:=f7.size;clear hb6 f6 f7 hb5 of5 ox5 of4 hb2 hz2;have D7:aE w7 w7.drew:=(aE.refl _).drew;obtain ⟨ci,hci,hri⟩:=h.im;obtain ⟨cm,hcm,hrm⟩:=h.mt;have hri':OD (oH w) 4 ci i.imports:=λk x hx=>by obtain ⟨row,e,hrow⟩:=hri k x hx;rw [e];exact hrow
 have hrm':OD (iO w) 4 cm i.methods:=λk x hx=>by obtain ⟨row,e,hrow⟩:=hrm k x hx;rw [e];exact hrow
 refine aJ.mk' (λw'=>aE w7 w') D7 ?_;refine gY (λw' hw=>(hb7.ext hw).boxed) dI iB rfl ?_;refine gY (λw' hw=>(hb7.ext hw).boxed) bF fS rfl ?_;refine (UB (hci.ext (x07.trans D7)) (EN hci.1 (by decide) hri' λrow x hx=>hx.one) (by omega)).mono λiv8 w8 ⟨oi8,x8⟩=>?_;have x78:=D7.trans x8;refine ⟨x78,?_⟩;refine aC.ok (λw' _=>SV) ?_;refine (UC (hcm.ext ((x07.trans D7).trans x8)) (EN hcm.1 (by decide) hrm' λrow x hx=>hx.one) (by omega)).mono λmv9 w9 ⟨om9,x9⟩=>?_;have x79:=x78.trans x9;refine ⟨x79,?_⟩;have hb9:=hb7.ext x79;have oi9:=x9.own oi8;have sD7:=D7.size;have s8:=x8.size;have s9:=x9.size;refine MA PW hb9 rfl (by simp) (jR oi9) ?_;have hb10:=hb9.set 2 iv8;have f10:Fr (λi=>i=b) w9 (w9.setCell ⟨b,2,none⟩ iv8):=Fr.of_set rfl;generalize w9.setCell ⟨b,2,none⟩ iv8=w10 at hb10 f10 ⊢;refine ⟨(λw'=>w'=w10),rfl,?_⟩;refine aC.ok (λw' _=>SU) ?_;refine MA PV hb10 rfl (by simp) (jR om9) ?_;have hb11:=hb10.set 3 mv9;have f11:Fr (λi=>i=b) w9 (w10.setCell ⟨b,3,none⟩ mv9):=f10.set rfl;generalize w10.setCell ⟨b,3,none⟩ mv9=w11 at hb11 f11 ⊢;have hb11:dW w11 b [.string i.name,fv4,iv8,mv9,xv5] 46:=hb11;have oi11:=f11.own oi9 λk hk he=>by have:=(oi9.lt k hk).1;omega
 have om11:=f11.own om9 λk hk he=>by have:=(om9.lt k hk).1;omega
 have x011:aE w w11:=f11.ext (x07.trans x79) λk hk=>by omega
 have of11:=f11.own (x79.own of7) λk hk he=>by have:=(of7.lt k hk).1;omega
 have ox11:=f11.own (x79.own ox7) λk hk he=>by have:=(ox7.lt k hk).1;omega
 have hz11:=f11.blk (hz7.ext x79) (by omega);have s11:=f11.size;have li:∀ k,iv8.ownBlock=some k->c < k/\k < w11.heap.size:=λk hk=>by have:=(oi8.lt k hk).1;have:=(oi11.lt k hk).2;omega
 have lm:∀ k,mv9.ownBlock=some k->c < k/\k < w11.heap.size:=λk hk=>by have:=(om9.lt k hk).1;have:=(om11.lt k hk).2;omega
 have hne:∀ k,iv8.ownBlock=some k->mv9.ownBlock≠some k:=λk hk hm=>by have:=(om9.lt k hm).1;have:=(oi8.lt k hk).2;omega
 have hfi:∀ k,fv4.ownBlock=some k->c < k/\iv8.ownBlock≠some k/\mv9.ownBlock≠some k:=λk hk=>by
  have a1:=of7.lt k hk;exact ⟨by omega,λhe=>by have:=(oi8.lt k he).1;omega,λhe=>by have:=(om9.lt k he).1;omega⟩
 have hxi:∀ k,xv5.ownBlock=some k->c < k/\iv8.ownBlock≠some k/\mv9.ownBlock≠some k:=λk hk=>by
  have a1:=ox7.lt k hk;exact ⟨by omega,λhe=>by have:=(oi8.lt k he).1;omega,λhe=>by have:=(om9.lt k he).1;omega⟩
 clear oi9 om9 hb9 hb10 f10 f11 hb7 hz7 of7 ox7 oi8 x78 x79 x8 x9;refine bQ hb11.boxed dI iB rfl (hU lH (aA.of_own oi11) ?_);have oib:=aX oi11 (show 0<=_ from Nat.zero_le _);have omb:=aX om11 (show 0<=_ from Nat.zero_le _)
 refine ⟨λv w'=>∃ (j:Nat) (cs:List Z),v=i64 j/\j<=i.imports.length/\Fr (λk=>iv8.ownBlock=some k) w11 w'/\w'.ownsRow 0 180 4 iv8 i.imports.length cs/\aSh (oH w) (yP w11.heap.size w') j 4 cs i.imports,
  λv _=>i.imports.length - (RowKit.intOf v).toNat,⟨0,ci,rfl,Nat.zero_le _,Fr.refl _ _,oib,λk x hx=>⟨λhk=>absurd hk (Nat.not_lt_zero _),λ_=>hri' k x hx⟩⟩,?_⟩
 rintro _ wa ⟨j,cs,rfl,hj,fa,oa,ra⟩ _;have hba:=fa.blk hb11 λhe=>by have:=li b he;omega
 have x0a:aE w wa:=fa.ext x011 λk hk=>by have:=li k hk;omega
 refine bP.2 (aK (λhlt=>?_) λhge=>?_)
 ·have hj':j < i.imports.length:=by omega
  obtain ⟨g,cap,hg⟩:=nX oa (by omega);obtain ⟨x,hx⟩:=fQ hj';obtain ⟨pv,hrow,hpv⟩:=(ra j x hx).2 (Nat.le_refl _);have Da:aE wa wa.drew:=(aE.refl _).drew;have hlx:=(imr x (List.mem_of_getElem? hx)).2.1.2
  have hcell:∀ (o:Nat) u,o < 4->[Value.string x.name,i64 x.exp,pv,i64 x.result][o]?=some u->cs[j*4+o]?=some u:=λo u ho hu=>by
   rw [<- hrow,List.getElem?_take,if_pos ho,List.getElem?_drop] at hu;exact hu
  subst hg;refine aJ.mk' (λw'=>aE wa w') Da ?_;refine gY (λw' hw=>(hba.ext hw).boxed) dI iB rfl ?_;refine gY (λw' hw=>(hba.ext hw).boxed) dI iB rfl ?_;refine aC.ok (λw' _=>OZ (by omega) (by omega)) ?_;refine aC.ok (λw' _=>xD) ?_;refine aC.ok (λw' hw=>tE (v:=pv) ?_) ?_
  ·have:=(hw.own oa).cells (g:=g) rfl (j*4+2) pv (hcell 2 pv (by decide) rfl);rw [jQ] at this;rw [Int.toNat_natCast];simpa [Nat.add_assoc] using this
  refine (pB (hpv.ext (x0a.trans Da)) (by omega)).mono λpv2 wb ⟨ob,xb⟩=>?_;have xab:=Da.trans xb;refine ⟨xab,?_⟩;refine aC.ok (λw' _=>OZ (by omega) (by omega)) ?_;refine aC.ok (λw' _=>xD) ?_;rw [Int.toNat_natCast];have hsa:=fa.size;have hsD:=Da.size;refine VE underlying43 qS bA jM (xab.own oa) hj' (by decide) (jR ob) λwc _ oc fc=>?_;refine mJ (by omega) ?_;have hgl:=li g rfl;refine ⟨⟨j+1,_,rfl,by omega,(fa.trans (Fr.of_ext (S:=λ_=>False) xab) λ_ _ h=>h.elim).trans (fc.mono λk hk=>by show Value.ownBlock _=_;rw [hk];rfl) λ_ _ h=>h,oc,λk y hy=>?_⟩,by simp only [aW];omega⟩
  have hr4:=vQ (q:=j) (o:=2) (v:=pv2) (show (cs.drop (k*4)).take 4=(cs.drop (k*4)).take 4 from rfl) (by
   have hkl:=(List.getElem?_eq_some_iff.1 hy).1;have:=oa.1;rw [List.length_take,List.length_drop];omega) (by decide)
  by_cases hkj:k=j
  ·subst hkj;rw [hx] at hy;cases hy;refine ⟨λ_=>?_,λhh=>by omega⟩;rw [hr4,if_pos rfl,hrow];exact ⟨pv2,rfl,aX (fc.own ob λq hq he=>by have:=(ob.lt q hq).1;omega) (by omega)⟩
  ·rw [hr4,if_neg hkj];refine ⟨λhh=>?_,λhh=>(ra k y hy).2 (by omega)⟩;exact (((ra k y hy).1 (by omega)).fr (Fr.of_ext (S:=λ_=>False) xab) λ_ _ h=>h.elim).fr fc λq hq he=>by omega
 have hjn:j=i.imports.length:=by omega
 have ra:OD (yP w11.heap.size wa) 4 cs i.imports:=λk x hx=>(ra k x hx).1 (by have:=(List.getElem?_eq_some_iff.1 hx).1;omega);have oma:=fa.own omb λk hk he=>hne k he hk;have hsa:=fa.size;refine bQ hba.boxed bF fS rfl (hU iA (aA.of_own oma) ?_)
 refine ⟨λv w'=>∃ (j:Nat) (cs:List Z),v=i64 j/\j<=i.methods.length/\Fr (λk=>mv9.ownBlock=some k) wa w'/\w'.ownsRow 0 74 4 mv9 i.methods.length cs/\aSh (iO w) (yO wa.heap.size w') j 4 cs i.methods,
  λv _=>i.methods.length - (RowKit.intOf v).toNat,⟨0,cm,rfl,Nat.zero_le _,Fr.refl _ _,oma,λk x hx=>⟨λhk=>absurd hk (Nat.not_lt_zero _),λ_=>hrm' k x hx⟩⟩,?_⟩
 rintro _ wd ⟨jm,cs2,rfl,hjm,fd,od,rd⟩ _;have hbd:=fd.blk hba λhe=>by have:=lm b he;omega
 have x0d:aE w wd:=fd.ext x0a λk hk=>by have:=lm k hk;omega
 refine bP.2 (aK (λhlt=>?_) λhge=>?_)
 ·have hj':jm < i.methods.length:=by omega
  obtain ⟨g,cap,hg⟩:=nX od (by omega);obtain ⟨x,hx⟩:=fQ hj';obtain ⟨pv,lv,cv,hrow,hpv,hlv,hcv⟩:=(rd jm x hx).2 (Nat.le_refl _);have hmr:=mtr x (List.mem_of_getElem? hx);obtain ⟨⟨_,hp1⟩,_,⟨_,hp2⟩,⟨_,hp3⟩,_⟩:=hmr
  have hcell:∀ (o:Nat) u,o < 4->[pv,i64 x.result,lv,cv][o]?=some u->cs2[jm*4+o]?=some u:=λo u ho hu=>by
   rw [<- hrow,List.getElem?_take,if_pos ho,List.getElem?_drop] at hu;exact hu
  subst hg;have hgl:=lm g rfl;refine bQ hbd.boxed bF fS rfl ?_;refine V.ok (aBh (by omega) (by omega)) ?_;rw [Int.toNat_natCast];have Dd:aE wd wd.drew:=(aE.refl _).drew
  have hld:∀ (o:Nat) u,o < 4->[pv,i64 x.result,lv,cv][o]?=some u->∀ w',aE wd w'->w'.cell? ⟨g,0+jm*4+o,none⟩=some u:=λo u ho hu w' hw=>by
   have:=(hw.own od).cells (g:=g) rfl (jm*4+o) u (hcell o u ho hu);rw [jQ] at this;simpa [Nat.add_assoc] using this
  refine aJ.mk' (λw'=>aE wd w') Dd ⟨.inl ⟨_,rfl⟩,?_⟩;refine aC.ok (λw' _=>AM) ?_;refine aC.ok (λw' hw=>tE (hld 0 pv (by decide) rfl w' hw)) ⟨.inl ⟨_,rfl⟩,?_⟩;refine aC.ok (λw' _=>AL) ?_;refine aC.ok (λw' hw=>tE (hld 2 lv (by decide) rfl w' hw)) ⟨.inl ⟨_,rfl⟩,?_⟩;refine aC.ok (λw' _=>AK) ?_;refine aC.ok (λw' hw=>aBg (hld 3 cv (by decide) rfl w' hw)) ?_;refine (pB (hpv.ext (x0d.trans Dd)) (by omega)).mono λpv2 w21 ⟨op21,x21⟩=>?_;have e21:=Dd.trans x21;refine ⟨e21,?_⟩;refine (pB (hlv.ext (x0d.trans e21)) (by omega)).mono λlv2 w22 ⟨ol22,x22⟩=>?_;have e22:=e21.trans x22;refine ⟨e22,?_⟩;refine (UD (hcv.ext (x0d.trans e22)) (by omega)).mono λcv2 w23 ⟨oc23,x23⟩=>?_;have e23:=e22.trans x23;refine ⟨e23,.inl ⟨_,rfl⟩,?_⟩;have hsd:=fd.size;have hsD:=Dd.size;have hs21:=x21.size;have hs22:=x22.size;have hs23:=x23.size;refine aC.ok (λw' _=>AM) ?_;refine VE (o:=0) underlying44 nD dR jM (e23.own od) hj' (by decide) (jR op21) λwc1 _ oc1 fc1=>?_;refine ⟨(λ_=>True),trivial,.inl ⟨_,rfl⟩,?_⟩;refine aC.ok (λw' _=>AL) ?_;refine VE (o:=2) underlying44 nD gI jM oc1 hj' (by decide) (jR ol22) λwc2 _ oc2 fc2=>?_;refine ⟨(λ_=>True),trivial,.inl ⟨_,rfl⟩,?_⟩;refine aC.ok (λw' _=>AK) ?_;refine VE (o:=3) underlying44 nD dU vD oc2 hj' (by decide) (jR oc23) λwc3 _ oc3 fc3=>?_
  refine mJ (by omega) ?_;have fc:Fr (λk=>k=g) w23 wc3:=(fc1.trans fc2 λ_ _ h=>h).trans fc3 λ_ _ h=>h;have fdc:Fr (λk=>(Value.slice (some ⟨g,0,none⟩) i.methods.length cap).ownBlock=some k) wa wc3:=(fd.trans (Fr.of_ext (S:=λ_=>False) e23) λ_ _ h=>h.elim).trans (fc.mono λk hk=>by show Value.ownBlock _=_;rw [hk];rfl) λ_ _ h=>h;refine ⟨⟨jm+1,_,rfl,by omega,fdc,oc3,λk y hy=>?_⟩,by simp only [aW];omega⟩;have hkl:=(List.getElem?_eq_some_iff.1 hy).1;have hl0:=od.1;have hr1:=vQ (q:=jm) (o:=0) (v:=pv2) (show (cs2.drop (k*4)).take 4=(cs2.drop (k*4)).take 4 from rfl) (by rw [List.length_take,List.length_drop];omega) (by decide);have hr2:=vQ (q:=jm) (o:=2) (v:=lv2) (show ((cs2.set (jm*4+0) pv2).drop (k*4)).take 4=((cs2.set (jm*4+0) pv2).drop (k*4)).take 4 from rfl) (by rw [List.length_take,List.length_drop,List.length_set];omega) (by decide);have hr3:=vQ (q:=jm) (o:=3) (v:=cv2) (show (((cs2.set (jm*4+0) pv2).set (jm*4+2) lv2).drop (k*4)).take 4=(((cs2.set (jm*4+0) pv2).set (jm*4+2) lv2).drop (k*4)).take 4 from rfl) (by rw [List.length_take,List.length_drop,List.length_set,List.length_set];omega) (by decide);by_cases hkj:k=jm
  ·subst hkj;rw [hx] at hy;cases hy;refine ⟨λ_=>?_,λhh=>by omega⟩;rw [hr3,if_pos rfl,hr2,if_pos rfl,hr1,if_pos rfl,hrow];refine ⟨pv2,lv2,cv2,rfl,aX (fc.own (x23.own (x22.own op21)) λq hq he=>by have:=(op21.lt q hq).1;omega) (by omega),aX (fc.own (x23.own ol22) λq hq he=>by have:=(ol22.lt q hq).1;omega) (by omega),aX (fc.own oc23 λq hq he=>by have:=(oc23.lt q hq).1;omega) (by omega)⟩
  ·rw [hr3,if_neg hkj,hr2,if_neg hkj,hr1,if_neg hkj];refine ⟨λhh=>?_,λhh=>(rd k y hy).2 (by omega)⟩;exact (((rd k y hy).1 (by omega)).fr (Fr.of_ext (S:=λ_=>False) e23) λ_ _ h=>h.elim).fr fc λq hq he=>by omega
 have hjn2:jm=i.methods.length:=by omega
 have rd:OD (yO wa.heap.size wd) 4 cs2 i.methods:=λk x hx=>(rd k x hx).1 (by have:=(List.getElem?_eq_some_iff.1 hx).1;omega);refine lF hbd.boxed kF rfl ?_;have hzd:=fd.blk (fa.blk hz11 λhe=>by have:=li c he;omega) λhe=>by have:=lm c he;omega
 have ofd:=fd.own (fa.own of11 λk hk=>(hfi k hk).2.1) λk hk=>(hfi k hk).2.2;have oxd:=fd.own (fa.own ox11 λk hk=>(hxi k hk).2.1) λk hk=>(hxi k hk).2.2;have oid:=fd.own oa λk hk=>hne k hk;refine stA mF hzd (l:=[.string i.name,fv4,iv8,mv9,xv5]) rfl rfl rfl (by simp [jR ofd,jR oid,jR od,jR oxd];rfl) λw9 h9 hch=>?_;have f9:=qW hch;refine ⟨_,xC underlying46 rfl mF h9 rfl,⟨_,rfl⟩,?_⟩
 have up:∀ {B e sz n:Nat} {v:Z} {xs:List Z},wd.ownsRow B e sz v n xs->(∀ k,v.ownBlock=some k->c < k)->w9.ownsRow b e sz v n xs:=λ{B e sz n v xs} ho hk=>by
  have h1:=f9.own ho λk hk' he=>by have:=hk k hk';omega
  refine ⟨h1.1,?_⟩;rcases h1.2 with h2|⟨g,cap,cur,rfl,_,rest⟩
  ·exact .inl h2
  ·exact .inr ⟨g,cap,cur,rfl,by have:=hk g rfl;omega,rest⟩
 have hsd:=fd.size;have f9':∀ B,w11.heap.size<=B->∀ q,B<=q->¬ q=c:=λB hB q hq he=>by omega
 refine hR ⟨fv4,iv8,mv9,xv5⟩ w9 ⟨up ofd λk hk=>(hfi k hk).1,up oxd λk hk=>(hxi k hk).1,⟨cs,up oid λk hk=>(li k hk).1,λk x hx=>?_⟩,⟨cs2,up od λk hk=>(lm k hk).1,λk x hx=>?_⟩⟩ ?_
 ·exact (((ra k x hx).fr fd λq hq he=>by have:=lm q he;omega).fr f9 (f9' _ (Nat.le_refl _))).mono (by omega)
 ·exact ((rd k x hx).fr f9 (f9' _ hsa)).mono (by omega)
 ·exact f9.ext x0d λk hk=>by omega
end Go.Proofs.YtgkkecladbmjkaaGreatDoor
namespace Go.Proofs.YtgkkecladbmjkaaGreatDoor
open Tryz
open Go.Vc Go.Tc
variable {w w':O} {K:Z->O->Prop}
theorem qG.mono {B B':Nat} {p:fZ} {i:dN} (h:qG B w p i) (hB:B'<=B):qG B' w p i:=by
 obtain ⟨h1,h2,⟨c1,h3,h4⟩,c2,h5,h6⟩:=h;exact ⟨aX h1 hB,aX h2 hB,⟨c1,aX h3 hB,λk x hx=>(h4 k x hx).mono hB⟩,c2,aX h5 hB,λk x hx=>(h6 k x hx).mono hB⟩
theorem qG.one {B:Nat} {p:fZ} {i:dN} (h:qG B w p i):(p.cells i).all gO=true:=by
 obtain ⟨h1,h2,⟨c1,h3,_⟩,c2,h5,_⟩:=h;simp [fZ.cells,jR h1,jR h2,jR h3,jR h5];rfl
theorem TU (w:O) (row:List Z) (m:dN) (h:yQ w row m):row.length=5:=h.len
theorem NL {l:List dN} {k:Nat} (hk:k < l.length):l[k]?=some (fG l k):=by
 unfold fG;rw [List.getD_eq_getElem?_getD,List.getElem?_eq_getElem hk];rfl
section
variable {rb:Nat} {hv iv fv pub sec:Z} {l:List dN}
theorem YF (hr:oQ w rb 0 [hv,iv,fv,pub,sec]) (hi:nW w iv l) (hT:rL l) {k:Nat} (hk:k < l.length) :
  aB prog 88 #[.pointer (some ⟨rb,0,none⟩),i64 (k:Int)] w λr w'=>∃ p':fZ,r=.tuple #[p'.val (fG l k),.bool true]/\qG w.heap.size w' p' (fG l k)/\aE w w':=by
 apply aOa;unfold QY;refine alK mF λw1 hz x1=>?_;refine bP.2 ?_;simp only [show ¬ ((k:Int) < 0) by omega,mK,bR,reduceIte,Bool.false_eq_true,decide_false];refine ⟨.inl ⟨_,rfl⟩,?_⟩;refine nC bG gF (hr.ext x1) rfl (vS EL (hi.ext x1) (jU.2 ?_));simp only [show ¬ ((k:Int)>=((l.length:Nat):Int)) by omega,aD,decide_false];refine ⟨.inl ⟨_,rfl⟩,?_⟩;refine nC bG gF (hr.ext x1) rfl ?_;refine XP (i:=k) EL kF (hi.ext x1) (NL hk) TU λrow hrow=>?_;obtain ⟨p,hp,hA⟩:=hrow;subst hp;refine (BP hA (hT _ (lY hk)).1).mono λr w2 ⟨p2,hr2,hO,x2⟩=>?_;subst hr2;have hzl:=hz.lt;have hO:=hO.mono (B':=w1.heap.size) (Nat.le_refl _);refine stA mF (hz.ext x2) (l:=p2.cells (fG l k)) rfl rfl rfl hO.one λw3 h3 hch=>?_;have f3:=qW hch;refine ⟨_,xC underlying46 rfl mF h3 rfl,⟨_,rfl⟩,p2,rfl,?_,?_⟩
 ·exact (hO.fr f3 λi hi he=>by omega).mono (by omega)
 ·exact f3.ext (x1.trans x2) λi hi=>by omega
end
end Go.Proofs.YtgkkecladbmjkaaGreatDoor
namespace Go.Proofs.YtgkkecladbmjkaaGreatDoor
open Tryz
open Go.Vc Go.Tc
def aSk (ar:List PA) (k v:Int):Prop:=v=0\/∃ (j:Nat) (x:PA),v=(j:Int)+1/\ar[j]?=some x/\x.label=k
structure LoV (ar:List PA) (k a b:Int):Prop where
 eq:k≠2->a=b
 ref:k=3\/k=4->aSk ar k a
def LoL (ar:List PA):List Int->List Int->List Int->Prop
 | [],[],[]=>True
 | k::K,a::s,b::t=>LoV ar k a b/\LoL ar K s t
 | _,_,_=>False
structure LoA (x y:PA):Prop where
 owner:y.owner=x.owner
 label:y.label=x.label
 life:y.life=x.life
 share:y.share=x.share
 len:y.data.length=x.data.length
 pub:x.label=3->y.data=x.data
structure aUm (ar ar':List PA):Prop where
 len:ar'.length=ar.length
 row:∀ (j:Nat) x y,ar[j]?=some x->ar'[j]?=some y->LoA x y
def aUn (ar ar':List PA):Prop:=∀ (j:Nat) x,ar[j]?=some x->∃ y,ar'[j]?=some y/\y.label=x.label
structure LoP (s s':PS):Prop where
 size:s'.size=s.size
 ar:aUm s.ar s'.ar
 tp:s'.tp=s.tp
 ts:s'.ts.length=s.ts.length
 tr:s'.tr=s.tr
structure aVf (x:gN) (s:PS) (K:List Int) (q q':HF):Prop where
 st:q'.2.1=q.2.1
 lo:LoP q.2.2 q'.2.2
 grow:aUn s.ar q.2.2.ar
 size:q.2.2.size=s.size
 val:q.2.1=36864->¬ pK x.op->∀ i m,LoV q.2.2.ar (cT (fU i m x K) 0) q.1 q'.1
structure LoF (l:List dN) (ar:List PA) (f g:kC) (K:List Int):Prop where
 who:g.who=f.who
 mth:g.mth=f.mth
 pc:g.pc=f.pc
 st:LoL ar K f.st g.st
 loc:LoL ar (f.me l).locs f.loc g.loc
def aSl (l:List dN) (ar:List PA) (f g:kC):Prop:=∃ K,oL (f.img l) (f.me l) f.pc K/\LoF l ar f g K
def aSn (l:List dN) (ar:List PA) (c f g:kC):Prop:=∃ K K1,oL (f.img l) (f.me l) f.pc K/\mU K (K1++jD (c.me l).result)/\lM K1/\LoF l ar f g K1
def aSm (l:List dN) (ar:List PA):kC->List kC->List kC->Prop
 | _,[],[]=>True
 | c,f::fs,g::gs=>aSn l ar c f g/\aSm l ar f fs gs
 | _,_,_=>False
def aUr (ar:List PA):Prop:=(∃ x,ar[0]?=some x/\x.label=3)/\∃ x,ar[1]?=some x/\x.label=4
structure LoR (l:List dN) (r r':Rm):Prop where
 ps:LoP r.ps r'.ps
 fd:∀ k,k < l.length->LoL r.ps.ar (fG l k).fields (r.fd.getD k []) (r'.fd.getD k [])
 base:aUr r.ps.ar
 sz:r.ps.size<=5000
structure LoM (l:List dN) (m n:PM):Prop where
 top:aSl l m.r.ps.ar m.f n.f
 ch:aSm l m.r.ps.ar m.f m.fs n.fs
 fuel:n.fuel=m.fuel
 r:LoR l m.r n.r
def aVi (l:List dN) (o o':Out):Prop:=(∃ m n,o=.run m/\o'=.run n/\LoM l m n)\/∃ s d q r r',o=.fin s d q r/\o'=.fin s d q r'/\LoP r.ps r'.ps
end Go.Proofs.YtgkkecladbmjkaaGreatDoor
namespace Go.Proofs.YtgkkecladbmjkaaGreatDoor
open Tryz
open Go.Vc
structure rR (p:RP) (w:O):Prop where
 room:oQ w p.rb 0 [.pointer (some ⟨p.hb,0,none⟩),p.iv,p.fv,p.pub,p.sec]
 h:qD w p.hb p.B p.size p.g p.cap p.ar
 qp:w.ownsRow p.B 5 1 p.pub p.tp.length (p.tp.map u8)
 qs:w.ownsRow p.B 5 1 p.sec p.ts.length (p.ts.map u8)
 lp:p.tp.length<=128
 ls:p.ts.length<=128
 ne:∀ x,p.pub.ownBlock=some x->p.sec.ownBlock≠some x
 np:∀ a∈p.ar,∀ x,a.dv.ownBlock=some x->p.pub.ownBlock≠some x
 ns:∀ a∈p.ar,∀ x,a.dv.ownBlock=some x->p.sec.ownBlock≠some x
 gp:p.pub.ownBlock≠some p.g
 gs:p.sec.ownBlock≠some p.g
 lt:p.rb≠p.hb
 fresh:∀ x,(x=p.rb\/x=p.hb)->x≠p.g/\(∀ a∈p.ar,a.dv.ownBlock≠some x)/\p.pub.ownBlock≠some x/\p.sec.ownBlock≠some x
 two:2<=p.ar.length
 sz:0<=p.size/\p.size<=1000
 bytes:∀ a∈p.ar,okB a.data
section
variable {p:RP} {w w':O}
theorem rR.trace (h:rR p w) {tb:Nat} (ht:dW w tb [.slice none 0 0] 125) (hn:¬ wH p tb):oF { p with tb:=tb,tv:=.slice none 0 0,tr:=[] } w:=by
 refine ⟨h.room,h.h,h.qp,h.qs,h.lp,h.ls,h.ne,h.np,h.ns,h.gp,h.gs,h.lt,h.fresh,ht,World.ownsRow_nil _ _ _ _,λe=>(by cases e),λi hi hm=>?_,h.two,h.sz,h.bytes⟩;rcases hi with hi|hi
 ·have hi:i=tb:=hi;subst hi;exact hn hm
 ·cases hi
theorem rR.fr {S:Nat->Prop} (h:rR p w) (f:Fr S w w') (hn:∀ i,wH p i->¬ S i):rR p w':=
 ⟨f.seg h.room (hn _ (.inl rfl)),h.h.frT f λi hs=>⟨λe=>hn i (.inr (.inl e)) hs,λe=>hn i (.inr (.inr (.inl e))) hs,λa ha e=>hn i (.inr (.inr (.inr (.inl ⟨a,ha,e⟩)))) hs⟩,
  f.own h.qp λi hi=>hn i (.inr (.inr (.inr (.inr (.inl hi))))),f.own h.qs λi hi=>hn i (.inr (.inr (.inr (.inr (.inr hi))))),h.lp,h.ls,h.ne,h.np,h.ns,h.gp,h.gs,h.lt,h.fresh,h.two,h.sz,h.bytes⟩
theorem rR.ext (h:rR p w) (hx:aE w w'):rR p w':=h.fr (Fr.of_ext (S:=λ_=>False) hx) λ_ _ h=>h
structure aWv (p p':RP) (w w':O):Prop where
 rb:p'.rb=p.rb
 hb:p'.hb=p.hb
 B:p'.B=p.B
 tb:p'.tb=p.tb
 size:p'.size=p.size
 iv:p'.iv=p.iv
 fv:p'.fv=p.fv
 mu:∀ i,wH p' i->wH p i\/w.heap.size<=i
 fr:Fr (wH p) w w'
end
end Go.Proofs.YtgkkecladbmjkaaGreatDoor
namespace Go.Proofs.YtgkkecladbmjkaaGreatDoor
open Tryz
open Go.Vc Go.Tc
inductive Lb
 | rm|im|fo|fd|mb|fr|ex
structure jX where
 rp:RP
 fo:Nat
 vs:List Z
 IB:Nat->Prop
 mb:Nat
def tZ (q:FP) (i:Nat):Prop:=FM q i\/q.cv.ownBlock=some i
def WR (p:jX) (q:FP) (X:Nat->Prop):Lb->Nat->Prop
 | .rm,i=>wH p.rp i\/HD p.rp i
 | .im,i=>p.IB i
 | .fo,i=>i=p.fo
 | .fd,i=>FdM p.vs i
 | .mb,i=>i=p.mb
 | .fr,i=>tZ q i
 | .ex,i=>X i
structure Sep (R:Lb->Nat->Prop) (n:Nat):Prop where
 dj:∀ a b i,R a i->R b i->a=b
 lt:∀ a i,R a i->i < n
theorem Sep.step {R R':Lb->Nat->Prop} {n n':Nat} (h:Sep R n) (hn:n<=n') (k:Lb) (h1:∀ a i,R' a i->R a i\/(a=k/\n<=i/\i < n')):Sep R' n':=by
 refine ⟨λa b i ha hb=>?_,λa i ha=>?_⟩
 ·rcases h1 a i ha with ha|⟨e1,h2,_⟩<;>rcases h1 b i hb with hb|⟨e2,h3,_⟩
  ·exact h.dj a b i ha hb
  ·have:=h.lt a i ha;omega
  ·have:=h.lt b i hb;omega
  ·rw [e1,e2]
 ·rcases h1 a i ha with ha|⟨_,_,h2⟩
  ·have:=h.lt a i ha;omega
  ·exact h2
structure Wh (l:List dN) (p:jX) (q:FP) (f:kC) (r:Rm) (X:Nat->Prop) (sl:Z) (fu st:Int) (w:O):Prop where
 room:oF p.rp w
 rps:p.rp.ps=r.ps
 fld:rK w p.rp.fv p.fo p.vs r.fd
 img:vO p.IB w λw'=>nW w' p.rp.iv l
 box:oQ w p.mb 0 [sS p.rp,OS p.rp,sl,i64 fu,i64 st]
 frm:pD w q (f.me l) f
 sep:Sep (WR p q X) w.heap.size
def WM (p:jX) (q:FP) (i:Nat):Prop:=(wH p.rp i\/HD p.rp i)\/FdM p.vs i\/i=p.mb\/FM q i
structure kW (p:jX) (q:FP) (p':jX) (q':FP) (w w':O):Prop where
 pe:p'={ p with rp:=p'.rp }
 rb:p'.rp.rb=p.rp.rb
 tb:p'.rp.tb=p.rp.tb
 iv:p'.rp.iv=p.rp.iv
 fv:p'.rp.fv=p.rp.fv
 mu:∀ i,wH p'.rp i\/HD p'.rp i->(wH p.rp i\/HD p.rp i)\/w.heap.size<=i
 qe:q'={ q with sv:=q'.sv }
 sv:∀ i,q'.sv.ownBlock=some i->q.sv.ownBlock=some i\/w.heap.size<=i
 fr:Fr (WM p q) w w'
section
variable {l:List dN} {p p1 p2:jX} {q q1 q2:FP} {f f':kC} {r r':Rm} {X:Nat->Prop} {sl:Z} {fu st:Int} {w w1 w':O}
theorem kW.of_ext (hx:aE w w'):kW p q p q w w':=⟨rfl,rfl,rfl,rfl,rfl,λ_ h=>.inl h,rfl,λ_ h=>.inl h,Fr.of_ext hx⟩
theorem kW.wm (s:kW p q p1 q1 w w1) {i:Nat} (h:WM p1 q1 i):WM p q i\/w.heap.size<=i:=by
 have e:=s.pe;have e2:=s.qe;rcases h with h|h|h|h
 ·rcases s.mu i h with h|h
  ·exact .inl (.inl h)
  ·exact .inr h
 ·rw [e] at h;exact .inl (.inr (.inl h))
 ·rw [e] at h;exact .inl (.inr (.inr (.inl h)))
 ·rcases h with h|h|h
  ·rw [e2] at h;exact .inl (.inr (.inr (.inr (.inl h))))
  ·rw [e2] at h;exact .inl (.inr (.inr (.inr (.inr (.inl h)))))
  ·rcases s.sv i h with h|h
   ·exact .inl (.inr (.inr (.inr (.inr (.inr h)))))
   ·exact .inr h
theorem kW.trans (s:kW p q p1 q1 w w1) (k:kW p1 q1 p2 q2 w1 w'):kW p q p2 q2 w w':=by
 refine ⟨?_,k.rb.trans s.rb,k.tb.trans s.tb,k.iv.trans s.iv,k.fv.trans s.fv,λi hi=>?_,?_,λi hi=>?_,s.fr.trans k.fr λi hi hm=>?_⟩
 ·rw [k.pe,s.pe]
 ·rcases k.mu i hi with h|h
  ·exact s.mu i h
  ·exact .inr (Nat.le_trans s.fr.size h)
 ·rw [k.qe,s.qe]
 ·rcases k.sv i hi with h|h
  ·exact s.sv i h
  ·exact .inr (Nat.le_trans s.fr.size h)
 ·rcases s.wm hm with h|h
  ·exact h
  ·omega
theorem kW.mb (s:kW p q p1 q1 w w1):p1.mb=p.mb:=by rw [s.pe]
theorem kW.fb (s:kW p q p1 q1 w w1):q1.fb=q.fb:=by rw [s.qe]
theorem kW.pf (s:kW p q p1 q1 w w1):Proofs.YtgkkecladbmjkaaGreatDoor.pf q1=Proofs.YtgkkecladbmjkaaGreatDoor.pf q:=by unfold Proofs.YtgkkecladbmjkaaGreatDoor.pf;rw [s.fb]
def pm (p:jX):Z:=.pointer (some ⟨p.mb,0,none⟩)
theorem kW.pm (s:kW p q p1 q1 w w1):Proofs.YtgkkecladbmjkaaGreatDoor.pm p1=Proofs.YtgkkecladbmjkaaGreatDoor.pm p:=by unfold Proofs.YtgkkecladbmjkaaGreatDoor.pm;rw [s.mb]
def kG (l:List dN) (p:jX) (q:FP) (f:kC) (r:Rm) (X:Nat->Prop) (sl:Z) (fu st:Int) (w w':O):Prop:=∃ p' q',Wh l p' q' f r X sl fu st w'/\kW p q p' q' w w'
theorem Wh.go (h:Wh l p q f r X sl fu st w):kG l p q f r X sl fu st w w:=⟨p,q,h,kW.of_ext (aE.refl _)⟩
theorem kG.after (s:kW p q p1 q1 w w1) (g:kG l p1 q1 f r X sl fu st w1 w'):kG l p q f r X sl fu st w w':=by
 obtain ⟨p',q',h1,h2⟩:=g;exact ⟨p',q',h1,s.trans h2⟩
theorem kG.of_ext (hx:aE w w1) (g:kG l p q f r X sl fu st w1 w'):kG l p q f r X sl fu st w w':=kG.after (kW.of_ext hx) g
theorem Wh.fr {S:Nat->Prop} (h:Wh l p q f r X sl fu st w) (g:Fr S w w') (hn:∀ a i,a≠Lb.ex->WR p q X a i->¬ S i):Wh l p q f r X sl fu st w':=by
 have rm:=λi hi=>hn .rm i (by intro e;cases e) hi;refine ⟨h.room.fr g λi hs=>⟨λhm=>rm i (.inl hm) hs,λhm=>rm i (.inr hm) hs⟩,h.rps,h.fld.fr g (hn .fo _ (by intro e;cases e) rfl) λi hi=>hn .fd i (by intro e;cases e) hi,h.img.fr g λi hi=>hn .im i (by intro e;cases e) hi,g.seg h.box (hn .mb _ (by intro e;cases e) rfl),h.frm.fr g λi hi=>hn .fr i (by intro e;cases e) hi,?_⟩;exact h.sep.step g.size .ex λa i ha=>.inl ha
theorem Wh.ext (h:Wh l p q f r X sl fu st w) (hx:aE w w'):Wh l p q f r X sl fu st w':=h.fr (Fr.of_ext (S:=λ_=>False) hx) λ_ _ _ _ h=>h
theorem Wh.other (h:Wh l p q f r X sl fu st w) {i:Nat} (hi:X i):¬ WM p q i:=by
 intro hm;rcases hm with hm|hm|hm|hm
 ·cases h.sep.dj .rm .ex i hm hi
 ·cases h.sep.dj .fd .ex i hm hi
 ·cases h.sep.dj .mb .ex i hm hi
 ·cases h.sep.dj .fr .ex i (.inl hm) hi
theorem Wh.frame (h:Wh l p q f r X sl fu st w) (g:ZZ q (f.me l) f' w w') (hw:f'.who=f.who) (hm:f'.mth=f.mth):kG l p q f' r X sl fu st w w':=by
 obtain ⟨q',h1,s⟩:=g;have eme:f'.me l=f.me l:=by unfold kC.me kC.img;rw [hw,hm]
 have F:=s.fr;have hn:∀ a i,a≠Lb.fr->WR p q X a i->¬ FM q i:=λa i ha hi hm=>ha (h.sep.dj a .fr i hi (.inl hm));have rm:=λi hi=>hn .rm i (by intro e;cases e) hi;refine ⟨p,q',⟨h.room.fr F λi hs=>⟨λhm=>rm i (.inl hm) hs,λhm=>rm i (.inr hm) hs⟩,h.rps,h.fld.fr F (hn .fo _ (by intro e;cases e) rfl) λi hi=>hn .fd i (by intro e;cases e) hi,h.img.fr F λi hi=>hn .im i (by intro e;cases e) hi,F.seg h.box (hn .mb _ (by intro e;cases e) rfl),eme▸h1,?_⟩,⟨rfl,rfl,rfl,rfl,rfl,λ_ h=>.inl h,s.same,s.sv,F.mono λi hi=>.inr (.inr (.inr hi))⟩⟩;refine h.sep.step F.size .fr λa i ha=>?_;cases a with
 | fr=>
  have hlt:=h1.hi i ha;rcases ha with ha|ha
  ·rcases s.fm ha with h2|h2
   ·exact .inl (.inl h2)
   ·exact .inr ⟨rfl,h2,hlt⟩
  ·rw [s.same] at ha;exact .inl (.inr ha)
 | _=>exact .inl ha
theorem Wh.roomS (h:Wh l p q f r X sl fu st w) {rp':RP} (ht:oF rp' w') (s:Stp p.rp rp' w w') (hps:rp'.ps=r'.ps) (hfd:r'.fd=r.fd):kG l p q f r' X sl fu st w w':=by
 have F:=s.fr;have hn:∀ a i,a≠Lb.rm->WR p q X a i->¬ (wH p.rp i\/HD p.rp i):=λa i ha hi hm=>ha (h.sep.dj a .rm i hi hm);have eR:sS rp'=sS p.rp:=by unfold sS;rw [s.rb]
 have eT:OS rp'=OS p.rp:=by unfold OS;rw [s.tb]
 refine ⟨{ p with rp:=rp' },q,⟨ht,hps,?_,?_,?_,h.frm.fr F λi hi=>hn .fr i (by intro e;cases e) hi,?_⟩,⟨rfl,s.rb,s.tb,s.iv,s.fv,λi hi=>?_,rfl,λ_ h=>.inl h,F.mono λi hi=>.inl hi⟩⟩
 ·show rK w' rp'.fv p.fo p.vs r'.fd;rw [s.fv,hfd];exact h.fld.fr F (hn .fo _ (by intro e;cases e) rfl) λi hi=>hn .fd i (by intro e;cases e) hi
 ·show vO p.IB w' λw''=>nW w'' rp'.iv l;rw [s.iv];exact h.img.fr F λi hi=>hn .im i (by intro e;cases e) hi
 ·show oQ w' p.mb 0 [sS rp',OS rp',sl,i64 fu,i64 st];rw [eR,eT];exact F.seg h.box (hn .mb _ (by intro e;cases e) rfl)
 ·refine h.sep.step F.size .rm λa i ha=>?_;cases a with
  | rm=>
   have hlt:=ht.hi i ha;rcases s.mu i ha with h2|h2|h2
   ·exact .inl (.inl h2)
   ·exact .inl (.inr h2)
   ·exact .inr ⟨rfl,h2,hlt⟩
  | _=>exact .inl ha
 ·rcases s.mu i hi with h2|h2|h2
  ·exact .inl (.inl h2)
  ·exact .inl (.inr h2)
  ·exact .inr h2
theorem Wh.fieldS (h:Wh l p q f r X sl fu st w) {fd:List (List Int)} (hf:rK w' p.rp.fv p.fo p.vs fd) (F:Fr (FdM p.vs) w w'):kG l p q f { r with fd:=fd } X sl fu st w w':=by
 have hn:∀ a i,a≠Lb.fd->WR p q X a i->¬ FdM p.vs i:=λa i ha hi hm=>ha (h.sep.dj a .fd i hi hm);have rm:=λi hi=>hn .rm i (by intro e;cases e) hi;refine ⟨p,q,⟨h.room.fr F λi hs=>⟨λhm=>rm i (.inl hm) hs,λhm=>rm i (.inr hm) hs⟩,h.rps,hf,h.img.fr F λi hi=>hn .im i (by intro e;cases e) hi,F.seg h.box (hn .mb _ (by intro e;cases e) rfl),h.frm.fr F λi hi=>hn .fr i (by intro e;cases e) hi,h.sep.step F.size .ex λa i ha=>.inl ha⟩,⟨rfl,rfl,rfl,rfl,rfl,λ_ h=>.inl h,rfl,λ_ h=>.inl h,F.mono λi hi=>.inr (.inl hi)⟩⟩
theorem Wh.cell (h:Wh l p q f r X sl fu st w) {sl':Z} {fu' st':Int} {j:Nat} {u:Z} (hj:j < 5) (he:[sS p.rp,OS p.rp,sl,i64 fu,i64 st].set j u=[sS p.rp,OS p.rp,sl',i64 fu',i64 st']):kG l p q f r X sl' fu' st' w (w.setCell ⟨p.mb,0+j,none⟩ u):=by
 have F:Fr (λi=>i=p.mb) w (w.setCell ⟨p.mb,0+j,none⟩ u):=Fr.of_set rfl;have hn:∀ a i,a≠Lb.mb->WR p q X a i->¬ i=p.mb:=λa i ha hi hm=>ha (h.sep.dj a .mb i hi hm);have rm:=λi hi=>hn .rm i (by intro e;cases e) hi;have hb:=h.box.set (j:=j) (by simpa using hj) u;rw [he] at hb;refine ⟨p,q,⟨h.room.fr F λi hs=>⟨λhm=>rm i (.inl hm) hs,λhm=>rm i (.inr hm) hs⟩,h.rps,h.fld.fr F (hn .fo _ (by intro e;cases e) rfl) λi hi=>hn .fd i (by intro e;cases e) hi,h.img.fr F λi hi=>hn .im i (by intro e;cases e) hi,hb,h.frm.fr F λi hi=>hn .fr i (by intro e;cases e) hi,h.sep.step F.size .ex λa i ha=>.inl ha⟩,⟨rfl,rfl,rfl,rfl,rfl,λ_ h=>.inl h,rfl,λ_ h=>.inl h,F.mono λi hi=>.inr (.inr (.inl hi))⟩⟩
theorem Wh.setPc (h:Wh l p q f r X sl fu st w) (pc:Nat):kG l p q { f with pc:=pc } r X sl fu st w (w.setCell ⟨q.fb,0+2,none⟩ (i64 (pc:Int))):=by
 have F:Fr (λi=>i=q.fb) w (w.setCell ⟨q.fb,0+2,none⟩ (i64 (pc:Int))):=Fr.of_set rfl;have hb:=h.frm.box.set (j:=2) (by simp [UF]) (i64 (pc:Int));have hd:=h.frm.db;refine h.frame ⟨q,⟨hb,F.own h.frm.loc λi hi=>hd i (.inl hi),F.own h.frm.st λi hi=>hd i (.inr (.inl hi)),F.own h.frm.code λi hi=>hd i (.inr (.inr hi)),h.frm.db,h.frm.dl,h.frm.dc⟩,rfl,λi hi=>.inl hi,F.mono λi hi=>.inl hi⟩ rfl rfl
theorem Wh.setLoc (h:Wh l p q f r X sl fu st w) {loc:List Int} (_:loc.length=f.loc.length) (ho:w'.ownsRow 0 21 1 q.lv loc.length (loc.map i32)) (F:Fr (λi=>q.lv.ownBlock=some i) w w'):kG l p q { f with loc:=loc } r X sl fu st w w':=by
 have hd:=h.frm.db;refine h.frame ⟨q,⟨F.seg h.frm.box λhs=>hd _ (.inl hs) rfl,ho,F.own h.frm.st λi hi hs=>h.frm.dl i hs hi,F.own h.frm.code λi hi=>(h.frm.dc i hi).1,h.frm.db,h.frm.dl,h.frm.dc⟩,rfl,λi hi=>.inl hi,F.mono λi hi=>.inr (.inl hi)⟩ rfl rfl
end
section
variable {l:List dN} {p p1:jX} {q q1:FP} {f f1:kC} {r:Rm} {X:Nat->Prop} {sl:Z} {fu st:Int} {w w1 w':O}
theorem oT (h:Wh l p q f r X sl fu st w) (hl:f.st.length<=1000) {n:Int}:aB prog 134 #[pf q,i32 n] w λ_ w'=>kG l p q { f with st:=f.st++[n] } r X sl fu st w w':=
 (aBj h.frm hl).mono λ_ _ g=>h.frame g rfl rfl
theorem WV (h:Wh l p q f r X sl fu st w) (hl:f.st.length<=1000) (hk:1<=f.st.length):aB prog 135 #[pf q] w λrv w'=>rv=i32 (cT (jE 1 f.st) 0)/\kG l p q { f with st:=kX 1 f.st } r X sl fu st w w':=
 (xH h.frm hl hk).mono λ_ _ g=>⟨g.1,h.frame g.2 rfl rfl⟩
theorem WX {op:Int} (ho:fP op\/op=15\/op=16\/op=26\/op=22) (h:Wh l p q f r X sl fu st w) (hl:f.st.length<=1000) (hk:tI op<=f.st.length) (h32:kD f.st) :
  aB prog 138 #[pf q,i64 op] w λrv w'=>rv=i32 (FR op (jE (tI op) f.st))/\kG l p q { f with st:=kX (tI op) f.st } r X sl fu st w w':=
 (TG ho h.frm hl hk h32).mono λ_ _ g=>⟨g.1,h.frame g.2 rfl rfl⟩
theorem pcW (h:Wh l p1 q1 f1 r X sl fu st w) (hq:q1.fb=q.fb) (hp:f1.pc<=100000) {R:Z->O->Prop} (hR:R (i64 ((f1.pc+1:Nat):Int)) w) :
  Go.Vc.aY (pf q)/\V prog (Instr.fieldAt 114 (pf q) 2) w λa w1=>V prog (Instr.loadAt 3 a) w1 λb w2=>V prog (binOp .add 3 b (i64 1)) w2 λc w3=>R c w3:=by
 have e:pf q=.pointer (some ⟨q1.fb,0,none⟩):=by unfold pf;rw [hq]
 rw [e];refine ⟨.inl ⟨_,rfl⟩,nC cB aF h.frm.box rfl (dS.2 ?_)⟩;rw [aU (by omega),eI];exact hR
def SG (l:List dN) (p:jX) (q:FP) (f:kC) (X:Nat->Prop) (sl:Z) (fu st:Int) (w w':O):Prop:=∃ st' r',kG l p q { f with st:=st' } r' X sl fu st w w'
theorem Wh.sg (h:Wh l p q f r X sl fu st w) (hx:aE w w'):SG l p q f X sl fu st w w':=⟨f.st,r,p,q,h.ext hx,kW.of_ext hx⟩
theorem kG.sg {st':List Int} {r':Rm} (g:kG l p q { f with st:=st' } r' X sl fu st w w'):SG l p q f X sl fu st w w':=⟨_,_,g⟩
theorem aCx {st':List Int} {me:gA} (hq:q1={ q with sv:=q1.sv }) {j:Nat} (hj:j < 8):(UF q1 me { f with st:=st' })[j]?=(UF q me f)[j]?:=by
 rw [hq];have:j=0\/j=1\/j=2\/j=3\/j=4\/j=5\/j=6\/j=7:=by omega
 rcases this with rfl|rfl|rfl|rfl|rfl|rfl|rfl|rfl<;>rfl
theorem yFr {S:O->Prop} {L:Z->Prop} (hS:∀ w',S w'->SG l p q f X sl fu st w w') {s i j ft:Nat} (hf:FA prog s i j) (hl:L1 prog ft) {u:Z} (hj:j < 8) (hu:(UF q (f.me l) f)[j]?=some u) (hk:L u) :
  aC prog S (Instr.fieldAt s (pf q) i) λa=>aC prog S (Instr.loadAt ft a) L:=
 yFE hf hl (λw' hw=>by
  obtain ⟨st',r',p1,q1,h1,s1⟩:=hS w' hw;exact ⟨_,by rw [<- s1.fb];exact h1.frm.box,by have e:=aCx (f:=f) (st':=st') (me:=f.me l) s1.qe hj;rw [hu] at e;exact e⟩) hk
theorem yMa {S:O->Prop} {L:Z->Prop} (hS:∀ w',S w'->SG l p q f X sl fu st w w') {s i j ft:Nat} (hf:FA prog s i j) (hl:L1 prog ft) {u:Z} (hu:[sS p.rp,OS p.rp,sl,i64 fu,i64 st][j]?=some u) (hk:L u) :
  aC prog S (Instr.fieldAt s (pm p) i) λa=>aC prog S (Instr.loadAt ft a) L:=
 yFE hf hl (λw' hw=>by
  obtain ⟨st',r',p1,q1,h1,s1⟩:=hS w' hw;refine ⟨_,by rw [<- s1.mb];exact h1.box,?_⟩;have e1:sS p1.rp=sS p.rp:=by unfold sS;rw [s1.rb]
  have e2:OS p1.rp=OS p.rp:=by unfold OS;rw [s1.tb]
  rw [e1,e2];exact hu) hk
theorem SG.blk (_:Wh l p q f r X sl fu st w) {g:Nat} {cs:List Z} {e:TypeId} (hb:dW w g cs e) (hn:¬ WM p q g) (s:SG l p q f X sl fu st w w'):dW w' g cs e:=by
 obtain ⟨_,_,p1,q1,_,s1⟩:=s;exact s1.fr.blk hb hn
theorem aSz {P:Program} {S:O->Prop} {t x:Nat} {z:Z} {by_:Nat} (h:XA P t 1) (hx:fH P x z 1 by_) {B e n:Nat} {v:Z} {xs:List Z} (ho:w.ownsRow B e 1 v n xs) {k:Nat} (hk:k < n) {u:Z} (hu:gO u=true) {K':O->Prop}
  (hK:∀ w',w'.ownsRow B e 1 v n (xs.set k u)->w.grownBy w' v.ownBlock->K' w'):aC P S (Instr.indexAt t v (i64 (k:Int))) λa=>U P (Instr.storeAt x a u) w λ_ w2=>K' w2:=by
 obtain ⟨e',z',b',ht,hi⟩:=h;have ho':=ho;rcases ho.2 with ⟨_,rfl⟩|⟨g,cap,cur,rfl,hB,_⟩
 ·omega
 refine aC.ok (λw' _=>iG ht hi (by omega) (by omega)) ?_;obtain ⟨s1,s2⟩:=ho'.stored k u;have hc:=ho'.cellAt k (by omega);have hlt:k < xs.length:=by have:=ho'.1;omega
 rw [List.getElem?_eq_getElem hlt] at hc;simp only [Nat.zero_add,Nat.mul_one,Int.toNat_natCast];exact U.ok (mW hx hu hc (ho'.frozenAt _)) (hK _ s1 s2)
theorem SI (s:List Int):kX 0 s=s:=by unfold kX;simp
theorem CY {l:List Int} {a:Int} (h0:0<=a) (h:a < (l.length:Int)):∃ k:Nat,a=k/\k < l.length:=⟨a.toNat,by omega,by omega⟩
theorem aKr (h:Wh l p q f r X sl fu st w) {x:gN} (hx:rT (f.img l) (f.me l) x) (hp:oG x.op) (hnt:(aI (f.img l) (f.me l) x).length<=f.st.length) (h8:f.st.length<=8) (h32:kD f.st) (hloc:f.loc.length=(f.me l).locs.length) (hwho:f.who < l.length) (hfd:UN l r.fd) (hpc:f.pc<=1000) :
  aB prog 96 #[pm p,pf q,.agg #[i64 x.op,i64 x.a,i64 x.b]] w λrv w'=>rv=i64 ((uW x f.pc (jE (aI (f.img l) (f.me l) x).length f.st):Nat):Int) /\
   kG l p q { f with st:=kX (aI (f.img l) (f.me l) x).length f.st++kT x f r.fd (jE (aI (f.img l) (f.me l) x).length f.st),loc:=oN x f.loc (jE (aI (f.img l) (f.me l) x).length f.st) } { r with fd:=QE x f.who r.fd (jE (aI (f.img l) (f.me l) x).length f.st) } X sl fu st w w':=by
 have hop:=WU hx.xr;have hnm:=hx.nm;have hxr:=hx.xr;obtain ⟨op,a,b⟩:=x;obtain ⟨p1,p2,p3,p4⟩:=hp;unfold kA at p4;dsimp only at *;apply aNw
 suffices key:∀ R:Z->O->Prop,(∀ rv w',rv=i64 ((uW ⟨op,a,b⟩ f.pc (jE (aI (f.img l) (f.me l) ⟨op,a,b⟩).length f.st):Nat):Int) ->
   kG l p q { f with st:=kX (aI (f.img l) (f.me l) ⟨op,a,b⟩).length f.st++kT ⟨op,a,b⟩ f r.fd (jE (aI (f.img l) (f.me l) ⟨op,a,b⟩).length f.st),loc:=oN ⟨op,a,b⟩ f.loc (jE (aI (f.img l) (f.me l) ⟨op,a,b⟩).length f.st) } { r with fd:=QE ⟨op,a,b⟩ f.who r.fd (jE (aI (f.img l) (f.me l) ⟨op,a,b⟩).length f.st) } X sl fu st w w'->R rv w') ->
   DW (pm p) (pf q) (.agg #[i64 op,i64 a,i64 b]) w R from key _ λrv w' h1 h2=>⟨h1,h2⟩
 intro R hR;unfold DW;refine QG λw1 hb x1=>?_;have hb:dW w1 w.heap.size [i64 op,i64 a,i64 b] 70:=hb;have hh:=h.ext x1;have hbl:=hb.lt
 have hbn:∀ {p1:jX} {q1:FP} {w2:O},Wh l p q f r X sl fu st w1->kW p q p1 q1 w1 w2->¬ WM p q w.heap.size:=λhw s hm=>by
  have:∀ i,WM p q i->i < w.heap.size:=λi hi=>by
   rcases hi with hi|hi|hi|hi
   ·exact h.sep.lt .rm i hi
   ·exact h.sep.lt .fd i hi
   ·exact h.sep.lt .mb i hi
   ·exact h.sep.lt .fr i (.inl hi)
  have:=this _ hm;omega
 refine bQ hb.boxed aT aF rfl ?_
 have fin:∀ {f1:kC} {r1:Rm} {w2:O} {t:Z},kG l p q f1 r1 X sl fu st w w2->f1.pc=f.pc->(t=i64 ((f.pc+1:Nat):Int)->kG l p q f1 r1 X sl fu st w w2->R t w2) ->
   (t=i64 ((f.pc+1:Nat):Int))->R t w2:=λg _ k e=>k e g
 have fin2:∀ {f1:kC} {r1:Rm} {w2:O} {R':Z->O->Prop},kG l p q f1 r1 X sl fu st w w2->f1.pc=f.pc->R' (i64 ((f.pc+1:Nat):Int)) w2 ->
   Go.Vc.aY (pf q)/\V prog (Instr.fieldAt 114 (pf q) 2) w2 λa w1=>V prog (Instr.loadAt 3 a) w1 λb w2=>V prog (binOp .add 3 b (i64 1)) w2 λc w3=>R' c w3:=by
  intro f1 r1 w2 R' ⟨p1,q1,h1,s⟩ e hR';refine pcW h1 s.fb (by omega) ?_;rw [e];exact hR'
 clear fin;rcases hop with rfl|rfl|rfl|rfl|rfl|hbin|rfl|rfl|rfl|rfl|rfl|rfl|rfl|rfl|rfl|rfl|rfl|rfl|rfl|rfl|rfl|rfl|rfl|rfl|rfl|rfl|rfl|rfl
 case _=>
  simp only [aO,Int.reduceEq,decide_true,decide_false,aS,aD];refine bQ hb.boxed aR aF rfl ?_;refine V.ok (jK underlying3 underlying21) ?_;have ha:-2147483648<=a/\a<=2147483647:=⟨hxr.2.1,hxr.2.2.1⟩;rw [show IntKind.i32.wrap a=a by simp only [IntKind.wrap_i32];omega];refine (oT hh (by omega)).mono λ_ w2 g=>?_;refine fin2 (kG.of_ext x1 g) rfl (hR _ _ rfl ?_);have e:kX 0 f.st=f.st:=SI _;show kG l p q { f with st:=kX 0 f.st++[a] } r X sl fu st w w2;rw [e];exact kG.of_ext x1 g
 case _=>
  have ha0:0<=a:=hxr.2.1;have hal:a < ((f.me l).locs.length:Int):=hnm;obtain ⟨k,rfl,hk⟩:=CY (l:=f.loc) ha0 (by omega);simp only [aO,Int.reduceEq,decide_true,decide_false,aS,aD];have D1:aE w1 w1.drew:=(aE.refl _).drew;refine aJ.mk' (SG l p q f X sl fu st w1) (hh.sg D1) ⟨.inl ⟨_,rfl⟩,?_⟩;refine yFr (λ_ h=>h) bN iM (by decide) (u:=q.lv) rfl ?_;refine gY (λw' hw=>(SG.blk hh hb (hbn hh (kW.of_ext (aE.refl _))) hw).boxed) aR aF rfl ?_;refine aTa kE eY (aA.of_own hh.frm.loc) (λw' hw=>?_) (by omega) (by omega) (u:=i32 (f.loc.getD k 0)) (by rw [Int.toNat_natCast];exact aJj hk) ?_
  ·obtain ⟨st',r',p1,q1,h1,s1⟩:=hw;have:=aA.of_own h1.frm.loc;rw [s1.qe] at this;exact this
  refine (oT (hh.ext D1) (by omega)).mono λ_ w2 g=>?_;have g:=kG.of_ext D1 g;refine ⟨g.sg,fin2 (kG.of_ext x1 g) rfl (hR _ _ rfl ?_)⟩;have e:kX 0 f.st=f.st:=SI _;show kG l p q { f with st:=kX 0 f.st++[f.loc.getD k 0] } r X sl fu st w w2;rw [e];exact kG.of_ext x1 g
 case _=>
  have ha0:0<=a:=hxr.2.1;have hal:a < ((f.me l).locs.length:Int):=hnm;obtain ⟨k,rfl,hk⟩:=CY (l:=f.loc) ha0 (by omega);have hnt:1<=f.st.length:=hnt;simp only [aO,Int.reduceEq,decide_true,decide_false,aS,aD];have D1:aE w1 w1.drew:=(aE.refl _).drew;refine aJ.mk' (SG l p q f X sl fu st w1) (hh.sg D1) ⟨.inl ⟨_,rfl⟩,?_⟩;refine yFr (λ_ h=>h) bN iM (by decide) (u:=q.lv) rfl ?_;refine gY (λw' hw=>(SG.blk hh hb (hbn hh (kW.of_ext (aE.refl _))) hw).boxed) aR aF rfl ?_;refine (WV (hh.ext D1) (by omega) hnt).mono λrv w2 ⟨hrv,g⟩=>?_;subst hrv;have g:=kG.of_ext D1 g;refine ⟨g.sg,?_⟩;obtain ⟨p2,q2,h2,s2⟩:=g;have hlo:=h2.frm.loc;have elv:q2.lv=q.lv:=by rw [s2.qe]
  rw [elv] at hlo;refine aSz kE oY hlo hk rfl λw3 ho3 hg3=>?_;have F3:Fr (λi=>q2.lv.ownBlock=some i) w2 w3:=by rw [elv];exact Fr.of_grown hg3 λk hk=>hk
  have g3:=h2.setLoc (loc:=f.loc.set k (cT (jE 1 f.st) 0)) (by simp) (by rw [elv,List.length_set,List.map_set];exact ho3) F3;have g3:=kG.of_ext x1 (kG.after s2 g3)
  exact fin2 g3 rfl (hR _ _ rfl (by
   show kG l p q { f with st:=kX 1 f.st++[],loc:=f.loc.set k (cT (jE 1 f.st) 0) } r X sl fu st w w3;rw [List.append_nil];exact g3))
 case _=>
  have hnt:1<=f.st.length:=hnt;simp only [aO,Int.reduceEq,decide_true,decide_false,aS,aD];refine (WV hh (by omega) hnt).mono λrv w2 ⟨hrv,g⟩=>?_;have g:=kG.of_ext x1 g
  exact fin2 g rfl (hR _ _ rfl (by
   show kG l p q { f with st:=kX 1 f.st++[] } r X sl fu st w w2;rw [List.append_nil];exact g))
 case _=>
  have hnt:1<=f.st.length:=hnt;simp only [aO,Int.reduceEq,decide_true,decide_false,aS,aD];refine (WV hh (by omega) hnt).mono λrv w2 ⟨hrv,p2,q2,h2,s2⟩=>?_;subst hrv;have hl2:(kX 1 f.st).length<=8:=by rw [mV];omega
  rw [<- s2.pf];refine (oT h2 (by show (kX 1 f.st).length<=_;omega)).mono λ_ w3 g3=>?_;obtain ⟨p3,q3,h3,s3⟩:=kG.after s2 g3;rw [s2.pf,<- s3.pf];refine (oT h3 (by show (kX 1 f.st++[_]).length<=_;rw [List.length_append];simp;omega)).mono λ_ w4 g4=>?_;have g4:=kG.of_ext x1 (kG.after s3 g4);rw [s3.pf]
  exact fin2 g4 rfl (hR _ _ rfl (by
   show kG l p q { f with st:=kX 1 f.st++[cT (jE 1 f.st) 0,cT (jE 1 f.st) 0] } r X sl fu st w w4;simpa [List.append_assoc] using g4))
 case _=>
  have hb':=hbin;unfold fP at hbin;simp only [aO,show ¬ op=23 by omega,show ¬ op=24 by omega,show ¬ op=1 by omega,show ¬ op=2 by omega,show ¬ op=3 by omega,show ¬ op=4 by omega,show ¬ op=5 by omega,show ¬ op=25 by omega,show ¬ op=35 by omega,show ¬ op=33 by omega,show ¬ op=34 by omega,decide_false,aD]
  have ea:aI (f.img l) (f.me l) ⟨op,a,b⟩=[-2,-2]:=by
   simp only [aI];rw [if_neg (by omega),if_neg (by omega),if_neg (by omega),if_neg (by omega),if_pos hb']
  have eN:tI op=2:=by unfold tI;rw [if_neg (by omega),if_neg (by omega)]
  rw [ea] at hnt hR;have hnt:2<=f.st.length:=hnt;refine bQ hb.boxed aT aF rfl ?_;refine (WX (.inl hb') hh (by omega) (by rw [eN];exact hnt) h32).mono λrv w2 ⟨hrv,p2,q2,h2,s2⟩=>?_;subst hrv;rw [eN] at h2;have hl2:(kX 2 f.st).length<=8:=by rw [mV];omega
  rw [<- s2.pf,eN];refine (oT h2 (by show (kX 2 f.st).length<=_;omega)).mono λ_ w3 g3=>?_;have g3:=kG.of_ext x1 (kG.after s2 g3);rw [s2.pf]
  have e1:kT ⟨op,a,b⟩ f r.fd (jE 2 f.st)=[FR op (jE 2 f.st)]:=by
   have:FR op (jE 2 f.st)=nL op (cT (jE 2 f.st) 0) (cT (jE 2 f.st) 1):=by unfold FR;rw [if_neg (by omega),if_neg (by omega)]
   rw [this];simp only [kT]
   repeat rw [if_neg (by omega)]
  have e2:uW ⟨op,a,b⟩ f.pc (jE 2 f.st)=f.pc+1:=by simp only [uW];rw [if_neg (by omega),if_neg (by omega)]
  have e3:oN ⟨op,a,b⟩ f.loc (jE 2 f.st)=f.loc:=by simp only [oN];rw [if_neg (by omega)]
  have e4:QE ⟨op,a,b⟩ f.who r.fd (jE 2 f.st)=r.fd:=by simp only [QE];rw [if_neg (by omega)]
  refine fin2 g3 rfl (hR _ _ ?_ ?_)
  ·rw [show ([-2,-2]:List Int).length=2 from rfl,e2]
  ·rw [show ([-2,-2]:List Int).length=2 from rfl,e1,e3,e4];exact g3
 case _=>
  have hnt:1<=f.st.length:=hnt;simp only [aO,Int.reduceEq,decide_false,aD];refine bQ hb.boxed aT aF rfl ?_;refine (WX (op:=15) (.inr (.inl rfl)) hh (by omega) hnt h32).mono λrv w2 ⟨hrv,p2,q2,h2,s2⟩=>?_;subst hrv;have hl2:(kX 1 f.st).length<=8:=by rw [mV];omega
  rw [<- s2.pf];refine (oT h2 (by show (kX 1 f.st).length<=_;omega)).mono λ_ w3 g3=>?_;have g3:=kG.of_ext x1 (kG.after s2 g3);rw [s2.pf];exact fin2 g3 rfl (hR _ _ rfl g3)
 case _=>
  have hnt:1<=f.st.length:=hnt;simp only [aO,Int.reduceEq,decide_false,aD];refine bQ hb.boxed aT aF rfl ?_;refine (WX (op:=16) (.inr (.inr (.inl rfl))) hh (by omega) hnt h32).mono λrv w2 ⟨hrv,p2,q2,h2,s2⟩=>?_;subst hrv;have hl2:(kX 1 f.st).length<=8:=by rw [mV];omega
  rw [<- s2.pf];refine (oT h2 (by show (kX 1 f.st).length<=_;omega)).mono λ_ w3 g3=>?_;have g3:=kG.of_ext x1 (kG.after s2 g3);rw [s2.pf];exact fin2 g3 rfl (hR _ _ rfl g3)
 case _=>omega
 case _=>omega
 case _=>
  have hnt:3<=f.st.length:=hnt;simp only [aO,Int.reduceEq,decide_false,aD];refine bQ hb.boxed aT aF rfl ?_;refine (WX (op:=22) (.inr (.inr (.inr (.inr rfl)))) hh (by omega) hnt h32).mono λrv w2 ⟨hrv,p2,q2,h2,s2⟩=>?_;subst hrv;have hl2:(kX 3 f.st).length<=8:=by rw [mV];omega
  rw [<- s2.pf];refine (oT h2 (by show (kX 3 f.st).length<=_;omega)).mono λ_ w3 g3=>?_;have g3:=kG.of_ext x1 (kG.after s2 g3);rw [s2.pf];exact fin2 g3 rfl (hR _ _ rfl g3)
 case _=>
  have ha0:0<=a:=hxr.2.1;simp only [aO,Int.reduceEq,decide_true,decide_false,aS,aD];refine bQ hb.boxed aR aF rfl (hR _ _ ?_ ?_)
  ·have e:uW ⟨23,a,b⟩ f.pc (jE 0 f.st)=a.toNat:=rfl;have:i64 a=i64 ((a.toNat:Nat):Int):=by congr 1;omega
   rw [this];rfl
  ·show kG l p q { f with st:=kX 0 f.st++[] } r X sl fu st w w1;rw [SI,List.append_nil];exact kG.of_ext x1 hh.go
 case _=>
  have ha0:0<=a:=hxr.2.1;have hnt:1<=f.st.length:=hnt;simp only [aO,Int.reduceEq,decide_true,decide_false,aS,aD];refine (WV hh (by omega) hnt).mono λrv w2 ⟨hrv,p2,q2,h2,s2⟩=>?_;subst hrv;have g:=kG.of_ext x1 (⟨p2,q2,h2,s2⟩:kG l p q { f with st:=kX 1 f.st } r X sl fu st w1 w2);have hg:kG l p q { f with st:=kX 1 f.st++[] } r X sl fu st w w2:=by rw [List.append_nil];exact g
  have hb2:=s2.fr.blk hb (hbn hh s2);refine dZ.2 (aK (λhne=>?_) λheq=>?_)
  ·refine bQ hb2.boxed aR aF rfl (hR _ _ ?_ hg)
   have e:uW ⟨24,a,b⟩ f.pc (jE 1 f.st)=a.toNat:=by
    simp only [uW];rw [if_neg (by decide),if_pos trivial,if_neg hne]
   show i64 a=i64 ((uW ⟨24,a,b⟩ f.pc (jE 1 f.st):Nat):Int);rw [e];congr 1;omega
  ·refine fin2 g rfl (hR _ _ ?_ hg)
   have e:uW ⟨24,a,b⟩ f.pc (jE 1 f.st)=f.pc+1:=by
    simp only [uW];rw [if_neg (by decide),if_pos trivial,if_pos (Classical.not_not.1 heq)]
   show i64 ((f.pc+1:Nat):Int)=i64 ((uW ⟨24,a,b⟩ f.pc (jE 1 f.st):Nat):Int);rw [e]
 case _=>
  simp only [aO,Int.reduceEq,decide_true,decide_false,aS,aD];refine (oT hh (by omega)).mono λ_ w2 g=>?_;refine fin2 (kG.of_ext x1 g) rfl (hR _ _ rfl ?_);have e:kX 0 f.st=f.st:=SI _;show kG l p q { f with st:=kX 0 f.st++[0] } r X sl fu st w w2;rw [e];exact kG.of_ext x1 g
 case _=>
  have hnt:1<=f.st.length:=hnt;simp only [aO,Int.reduceEq,decide_false,aD];refine bQ hb.boxed aT aF rfl ?_;refine (WX (op:=26) (.inr (.inr (.inr (.inl rfl)))) hh (by omega) hnt h32).mono λrv w2 ⟨hrv,p2,q2,h2,s2⟩=>?_;subst hrv;have hl2:(kX 1 f.st).length<=8:=by rw [mV];omega
  rw [<- s2.pf];refine (oT h2 (by show (kX 1 f.st).length<=_;omega)).mono λ_ w3 g3=>?_;have g3:=kG.of_ext x1 (kG.after s2 g3);rw [s2.pf];exact fin2 g3 rfl (hR _ _ rfl g3)
 case _=>omega
 case _=>omega
 case _=>omega
 case _=>omega
 case _=>omega
 case _=>omega
 case _=>
  have ha0:0<=a:=hxr.2.1;have hal:a < ((f.img l).fields.length:Int):=hnm;have hrow:=hfd.row _ hwho;have hrl:(r.fd.getD f.who []).length=(f.img l).fields.length:=hrow.1;obtain ⟨k,rfl,hk⟩:=CY (l:=r.fd.getD f.who []) ha0 (by omega);simp only [aO,Int.reduceEq,decide_true,decide_false,aS,aD];have D1:aE w1 w1.drew:=(aE.refl _).drew;refine aJ.mk' (SG l p q f X sl fu st w1) (hh.sg D1) ⟨.inl ⟨_,rfl⟩,?_⟩;refine yMa (λ_ h=>h) bO gV (u:=sS p.rp) rfl ⟨.inl ⟨_,rfl⟩,?_⟩;refine yFr (λ_ h=>h) bU aF (by decide) (u:=i64 (f.who:Int)) rfl ?_;refine gY (λw' hw=>(SG.blk hh hb (hbn hh (kW.of_ext (aE.refl _))) hw).boxed) aR aF rfl ?_;have hD:=hh.ext D1;refine (yF hD.room.room hD.fld (by have:=hfd.len;omega) hk).mono λrv w2 ⟨hrv,hw⟩=>?_;subst hrv;have hw:=hw.symm;subst hw;refine ⟨hh.sg D1,aC.ok (λw' _=>lS) (aC.ok (λw' _=>lR) ?_)⟩;refine (oT hD (by omega)).mono λ_ w2 g=>?_;have g:=kG.of_ext D1 g;refine fin2 (kG.of_ext x1 g) rfl (hR _ _ rfl ?_);have e:kX 0 f.st=f.st:=SI _;show kG l p q { f with st:=kX 0 f.st++[(r.fd.getD f.who []).getD k 0] } r X sl fu st w w2;rw [e];exact kG.of_ext x1 g
 case _=>
  have ha0:0<=a:=hxr.2.1;have hal:a < ((f.img l).fields.length:Int):=hnm;have hrow:=hfd.row _ hwho;have hrl:(r.fd.getD f.who []).length=(f.img l).fields.length:=hrow.1;obtain ⟨k,rfl,hk⟩:=CY (l:=r.fd.getD f.who []) ha0 (by omega);have hnt:1<=f.st.length:=hnt;simp only [aO,Int.reduceEq,decide_true,decide_false,aS,aD];have D1:aE w1 w1.drew:=(aE.refl _).drew;refine aJ.mk' (SG l p q f X sl fu st w1) (hh.sg D1) ⟨.inl ⟨_,rfl⟩,?_⟩;refine yMa (λ_ h=>h) bO gV (u:=sS p.rp) rfl ⟨.inl ⟨_,rfl⟩,?_⟩;refine yFr (λ_ h=>h) bU aF (by decide) (u:=i64 (f.who:Int)) rfl ?_;refine gY (λw' hw=>(SG.blk hh hb (hbn hh (kW.of_ext (aE.refl _))) hw).boxed) aR aF rfl ?_;refine (WV (hh.ext D1) (by omega) hnt).mono λrv w2 ⟨hrv,g⟩=>?_;subst hrv;have g:=kG.of_ext D1 g;refine ⟨g.sg,?_⟩;obtain ⟨p2,q2,h2,s2⟩:=g;have erm:sS p.rp=.pointer (some ⟨p2.rp.rb,0,none⟩):=by unfold sS;rw [s2.rb]
  rw [erm];refine (EP h2.room.room h2.fld (by have:=hfd.len;show f.who < r.fd.length;omega) hk).mono λrv w3 ⟨hrv,hf3,F3⟩=>?_;have g3:=kG.after s2 (h2.fieldS hf3 F3);refine ⟨g3.sg,fin2 (kG.of_ext x1 g3) rfl (hR _ _ rfl ?_)⟩;show kG l p q { f with st:=kX 1 f.st++[] } { r with fd:=r.fd.set f.who ((r.fd.getD f.who []).set k (cT (jE 1 f.st) 0)) } X sl fu st w w3;rw [List.append_nil];exact kG.of_ext x1 g3
 case _=>
  simp only [aO,Int.reduceEq,decide_true,decide_false,aS,aD];refine bQ hb.boxed aR aF rfl ?_;refine V.ok (jK underlying3 underlying21) ?_;have ha:1<=a/\a<=2:=⟨hxr.2.1,hxr.2.2.1⟩;rw [show IntKind.i32.wrap a=a by simp only [IntKind.wrap_i32];omega];refine (oT hh (by omega)).mono λ_ w2 g=>?_;refine fin2 (kG.of_ext x1 g) rfl (hR _ _ rfl ?_);have e:kX 0 f.st=f.st:=SI _;show kG l p q { f with st:=kX 0 f.st++[a] } r X sl fu st w w2;rw [e];exact kG.of_ext x1 g
 case _=>omega
 case _=>omega
 case _=>omega
 case _=>omega
end
def aVu (op:Int):Nat:=if op=27\/op=28 then 1 else if op=17\/op=18\/op=29 then 2 else if op=30\/op=36 then 3 else 5
section
variable {l:List dN} {p p1:jX} {q q1:FP} {f f1:kC} {r:Rm} {X:Nat->Prop} {sl:Z} {fu st:Int} {w w1 w':O}
theorem Wh.wm_lt (h:Wh l p q f r X sl fu st w):∀ i,WM p q i->i < w.heap.size:=λi hi=>by
 rcases hi with hi|hi|hi|hi
 ·exact h.sep.lt .rm i hi
 ·exact h.sep.lt .fd i hi
 ·exact h.sep.lt .mb i hi
 ·exact h.sep.lt .fr i (.inl hi)
end
section
variable {l:List dN} {p p1:jX} {q q1:FP} {f f1:kC} {r:Rm} {X:Nat->Prop} {sl:Z} {fu st:Int} {w w1 w':O}
theorem Wh.trl (h:Wh l p q f r X sl fu st w):p.rp.tr=r.ps.tr:=congrArg PS.tr h.rps
theorem aSe (h:Wh l p q f r X sl fu st w) (htr:r.ps.tr.length<=100000) {e:OM}:aB prog 52 #[OS p.rp,i64 e.what,i64 e.a,i64 e.b,i64 e.c] w λ_ w'=>kG l p q f (r.ev e) X sl fu st w w':=by
 refine (aDl h.room (by rw [h.trl];exact htr) (e:=e)).mono λ_ w2 ⟨tv',h2,s2,f2,_⟩=>?_;refine h.roomS h2 s2 ?_ rfl;show (⟨p.rp.size,p.rp.ar.map pa,p.rp.tp,p.rp.ts,p.rp.tr++[e]⟩:PS)=r.ps.ev [e];rw [<- h.rps];rfl
theorem aMo (h:Wh l p q f r X sl fu st w) (htr:r.ps.tr.length<=100000) {s:Int}:aB prog 51 #[pm p,i64 s] w λ_ w'=>kG l p q f (r.ends s) X sl fu s w w':=by
 apply aOr;unfold RK;refine ⟨.inl ⟨_,rfl⟩,?_⟩;refine fdA bV ?_;refine sZ fX h.box (show 4 < 5 by decide) rfl ?_;obtain ⟨p2,q2,h2,s2⟩:=h.cell (j:=4) (u:=i64 s) (sl':=sl) (fu':=fu) (st':=s) (by decide) rfl;refine ⟨.inl ⟨_,rfl⟩,?_⟩;have e:pm p=.pointer (some ⟨p2.mb,0,none⟩):=by unfold pm;rw [s2.mb]
 rw [e];refine nC cD mD h2.box rfl ?_;exact (aSe h2 htr (e:=⟨5,s,0,0⟩)).mono λ_ w3 g=>kG.after s2 g
end
theorem aTq {P:Program} {w:O} {K:Z->O->Prop} {t x sz B e n:Nat} {v:Z} {xs l:List Z} {i:Nat} (h:XA P t sz) (ht:∃ d z by_,P.underlying x=some d/\nG d=true/\fH P x z sz by_) (ho:w.ownsRow B e sz v n xs) (hi:i < n) (hl:(xs.drop (i*sz)).take sz=l) (hlen:l.length=sz) (hk:K (.agg l.toArray) w) :
  V P (Instr.indexAt t v (i64 (i:Int))) w λp w1=>V P (Instr.loadAt x p) w1 K:=
 aLl h ht (aA.of_own ho) (by omega) (by omega) (by simpa using hl) hlen hk
theorem YX {w:O} {a b:Int} {r:Int} {p1 p2 p3 p4:Option Addr} {n1 n2 n3 n4 c1 c2 c3 c4:Nat} :
  (Instr.build 114 #[(0,i64 a),(1,i64 b),(3,.agg #[.slice p1 n1 c1,i64 r,.slice p2 n2 c2,.slice p3 n3 c3]),(4,.slice p4 n4 c4)]).run prog w=.ok (.agg #[i64 a,i64 b,i64 0,.slice p1 n1 c1,i64 r,.slice p2 n2 c2,.slice p3 n3 c3,.slice p4 n4 c4,.slice none 0 0]) w:=by kernel_rfl
theorem aMn {l:List dN} (hT:rL l) {rb mb:Nat} {hv iv fv pub sec tbv sl:Z} {fu st:Int} {w:O} {n:Nat} {ptrs:List Z} (hr:oQ w rb 0 [hv,iv,fv,pub,sec]) (hi:nW w iv l) (hb:oQ w mb 0 [.pointer (some ⟨rb,0,none⟩),tbv,sl,i64 fu,i64 st]) (hsl:w.ownsRow 0 111 1 sl n ptrs) (hn:n<=100) (hsm:sl.ownBlock≠some mb)
  {to mth:Nat} (h1:to < l.length) (h2:mth < (fG l to).methods.length) {pv:Z} {t:List Int} (hp:aA w pv 1 t.length (t.map i32)) (ht:t.length=((fG l to).meth mth).params.length) :
  aB prog 47 #[.pointer (some ⟨mb,0,none⟩),i64 (to:Int),i64 (mth:Int),pv] w λ_ w'=>∃ sl' qn,pD w' qn ((fG l to).meth mth) (sJ l to mth t)/\(∀ i,tZ qn i->w.heap.size<=i) /\
   oQ w' mb 0 [.pointer (some ⟨rb,0,none⟩),tbv,sl',i64 fu,i64 st]/\w'.ownsRow 0 111 1 sl' (n+1) (ptrs++[pf qn])/\(∀ i,sl'.ownBlock=some i->sl.ownBlock=some i\/(w.heap.size<=i/\¬ tZ qn i))/\Fr (λi=>i=mb\/sl.ownBlock=some i) w w':=by
 have hTt:=hT _ (lY h1);have hmm:=meth_mem h2;have hMr:=hTt.1.2.2.1.2.1 _ hmm
 have hmth:(fG l to).methods[mth]?=some ((fG l to).meth (mth:Int)):=by
  unfold dN.meth;rw [Int.toNat_natCast,List.getD_eq_getElem?_getD,List.getElem?_eq_getElem h2];rfl
 have enew:sJ l to mth t=⟨to,mth,0,t++List.replicate ((fG l to).meth mth).locals.length 0,[]⟩:=rfl;rw [enew];generalize hM:(fG l to).meth (mth:Int)=M at *;obtain ⟨⟨_,hp4⟩,_,⟨_,hl10⟩,⟨_,hc120⟩,_⟩:=hMr;apply aOt;unfold RM;refine ⟨.inl ⟨_,rfl⟩,?_⟩;refine nC bO gV hb rfl ?_;refine (YF hr hi hT h1).mono λrv w2 ⟨p2,hrv,hO,x2⟩=>?_;subst hrv;refine gM.2 (gL.2 ?_);refine UP OW rfl hO.one λw3 hb3 x3=>?_;have hb3:dW w3 w2.heap.size (p2.cells (fG l to)) 46:=hb3;refine bQ hb3.boxed bF fS rfl ?_;obtain ⟨cm,hcm,hrm⟩:=hO.mt;obtain ⟨mpv,mlv,mcv,hrow,op,ol,oc⟩:=hrm mth M hmth;have x23:=x3;refine aTq (B:=w.heap.size) iA lV (x3.own hcm) h2 hrow rfl ?_;obtain ⟨a1,c1,e1⟩:=(aA.of_own op).shape;obtain ⟨a2,c2,e2⟩:=(aA.of_own ol).shape;obtain ⟨a3,c3,e3⟩:=(aA.of_own oc).shape;refine UP AE rfl (by rw [e1,e2,e3];rfl) λw4 hb4 x4=>?_;have hb4:dW w4 w3.heap.size [mpv,i64 M.result,mlv,mcv] 74:=hb4;have x24:=x3.trans x4;have x04:=x2.trans x24;have D4:aE w4 w4.drew:=(aE.refl _).drew;refine aJ.mk' (λw'=>aE w4 w') D4 ?_;refine yA (λw' hw=>(hb4.ext hw).boxed) lV rfl ?_;refine gY (λw' hw=>(hb4.ext hw).boxed) dR bJ rfl ?_;rw [e1];refine aC.ok (λw' _=>lU underlying42) ?_;rw [<- e1];refine gY (λw' hw=>(hb4.ext hw).boxed) gI bJ rfl ?_;rw [e2];refine aC.ok (λw' _=>lU underlying42) ?_
 refine aC.ok (λw' _=>AO) ?_;have eN:IntKind.i64.wrap (((M.params.length:Nat):Int)+((M.locals.length:Nat):Int))=((M.params.length+M.locals.length:Nat):Int):=by rw [aU (by omega)];omega
 rw [eN];refine aRf (n:=M.params.length+M.locals.length) rfl underlying37 oY rfl (by omega) (by omega) λw5 hb5 x5 hs5=>?_;have x45:=D4.trans x5;refine ⟨x45,?_⟩;rw [e1,e3];refine aC.ok (λw' _=>YX) ?_;have s2:=x2.size;have s3:=x3.size;have s4:=x4.size;have sD:=D4.size;have s5:=x5.size;have l3:=hb3.lt;have l4:=hb4.lt;have l5:=hb5.lt;refine QG λw6 hb6 x6=>?_;have hb6:dW w6 w5.heap.size [i64 (to:Int),i64 (mth:Int),i64 0,.slice a1 M.params.length c1,i64 M.result,.slice a2 M.locals.length c2,.slice a3 M.code.length c3,.slice (some ⟨w4.drew.heap.size,0,none⟩) (M.params.length+M.locals.length) (M.params.length+M.locals.length),.slice none 0 0] 114:=hb6;refine ⟨x45.trans x6,.inl ⟨_,rfl⟩,?_⟩;refine bQ hb6.boxed bN iM rfl ?_;have hb56:=hb5.ext x6;have x46:=x45.trans x6;have x06:=x04.trans x46;have l6:=hb6.lt;obtain ⟨pa1,pc1,hpe⟩:=hp.shape;have hp6:=hp.ext x06;rw [hpe] at hp6 ⊢;refine cpB wM hb56 (by simp) (by simp) (λ_=>hp6) (List.all_eq_true.2 λv hv=>by obtain ⟨x,_,rfl⟩:=List.mem_map.1 hv;rfl) λv7 w7 hb7 f7=>?_
 have eL:(t.map i32).take (min t.length (M.params.length+M.locals.length))++(List.replicate (M.params.length+M.locals.length) (i32 0)).drop (min t.length (M.params.length+M.locals.length))=(t++List.replicate M.locals.length 0).map i32:=by
  have hm:min t.length (M.params.length+M.locals.length)=t.length:=by omega
  rw [hm,List.take_of_length_le (by simp),List.drop_replicate,List.map_append,List.map_replicate,show M.params.length+M.locals.length - t.length=M.locals.length by omega]
 have hb7:dW w7 w4.drew.heap.size ((t++List.replicate M.locals.length 0).map i32) 21:=by rw [<- eL];exact hb7
 have hml:=hb.lt;have hbM:=f7.seg (hb.ext x06) (by show ¬ mb=_;omega);have hb67:=f7.blk hb6 (by show ¬ w5.heap.size=_;omega);have s6:=x6.size;have s7:=f7.size;have hsl7:=f7.own (x06.own hsl) λi hi he=>by have:=(hsl.lt i hi).2;omega
 refine ⟨.inl ⟨_,rfl⟩,?_⟩;refine nC bB eG hbM rfl ?_;refine iT CD [.pointer (some ⟨w5.heap.size,0,none⟩)] rfl rfl (by simp) rfl λv8 w8 ho8 x8=>?_;refine apL CD (x8.own hsl7) ho8 (by decide) (by rfl) (by omega) (by unfold maxLen;omega) (Nat.zero_le _) λg' cap' w9 ho9 hg9 hlies=>?_;have f9:Fr (λi=>sl.ownBlock=some i) w8 w9:=Fr.of_grown hg9 λk hk=>hk;have s8:=x8.size;have s9:=f9.size;have hbM9:=f9.seg (hbM.ext x8) λhs=>hsm hs;refine ⟨.inl ⟨_,rfl⟩,?_⟩;refine fdA bB ?_;refine sZ NH hbM9 (show 2 < 5 by decide) rfl ?_;have f10:Fr (λi=>i=mb) w9 (w9.setCell ⟨mb,0+2,none⟩ (.slice (some ⟨g',0,none⟩) (n+1) cap')):=Fr.of_set rfl;have hbM10:=hbM9.set (j:=2) (by simp) (.slice (some ⟨g',0,none⟩) (n+1) cap');have hsll:∀ i,sl.ownBlock=some i->i < w.heap.size:=λi hi=>(hsl.lt i hi).2
 have F79:∀ {g:Nat} {cs:List Z} {e:TypeId},dW w7 g cs e->w.heap.size<=g->dW (w9.setCell ⟨mb,0+2,none⟩ (.slice (some ⟨g',0,none⟩) (n+1) cap')) g cs e:=λ{g cs e} hbb hg=>
  f10.blk (f9.blk (hbb.ext x8) λhe=>by have:=hsll _ he;omega) (by omega)
 have O79:∀ {B e sz n':Nat} {v:Z} {xs:List Z},w7.ownsRow B e sz v n' xs->w.heap.size<=B->(w9.setCell ⟨mb,0+2,none⟩ (.slice (some ⟨g',0,none⟩) (n+1) cap')).ownsRow B e sz v n' xs:=λ{B e sz n' v xs} hbb hg=>
  f10.own (f9.own (x8.own hbb) λi hi he=>by have:=hsll _ he;have:=(hbb.lt i hi).1;omega) λi hi he=>by have:=(hbb.lt i hi).1;omega
 have oc7:=f7.own (x46.own (x4.own (x3.own oc))) λi hi he=>by have:=(oc.lt i hi).2;omega
 have hfr:=F79 hb67 (by omega);have hlo:=F79 hb7 (by omega)
 have hg':sl.ownBlock=some g'\/(w.heap.size<=g'/\g'≠w5.heap.size/\g'≠w4.drew.heap.size/\w7.heap.size<=g'):=by
  rcases hlies with hl|hl
  ·exact .inl hl
  ·exact .inr (by omega)
 rw [e3] at oc7 oc;refine ⟨_,⟨w5.heap.size,.slice (some ⟨w4.drew.heap.size,0,none⟩) (M.params.length+M.locals.length) (M.params.length+M.locals.length),.slice none 0 0,.slice a1 M.params.length c1,.slice a2 M.locals.length c2,.slice a3 M.code.length c3⟩,⟨hfr.seg,?_,World.ownsRow_nil _ _ _ _,aX (O79 oc7 (Nat.le_refl _)) (Nat.zero_le _),?_,?_,?_⟩,?_,hbM10,?_,?_,?_⟩
 ·have hlen:(t++List.replicate M.locals.length 0).length=M.params.length+M.locals.length:=by rw [List.length_append,List.length_replicate,ht]
  show World.ownsRow _ 0 21 1 _ (t++List.replicate M.locals.length 0).length _;rw [hlen];exact rB hlo (by simp [ht]) (Nat.zero_le _) (by unfold maxLen;omega)
 ·rintro i (hi|hi|hi)
  ·have:w4.drew.heap.size=i:=by simpa [Value.ownBlock] using hi
   show i≠w5.heap.size;omega
  ·cases hi
  ·have:=(oc.lt i hi).2;show i≠w5.heap.size;omega
 ·intro i hi;simp [Value.ownBlock]
 ·intro i hi;have:=(oc.lt i hi).2;refine ⟨λhe=>?_,by simp [Value.ownBlock]⟩;have:w4.drew.heap.size=i:=by simpa [Value.ownBlock] using he
  omega
 ·rintro i ((hi|hi|hi)|hi)
  ·have hi:i=w5.heap.size:=hi;omega
  ·have:w4.drew.heap.size=i:=by simpa [Value.ownBlock] using hi
   omega
  ·cases hi
  ·exact (oc.lt i hi).1
 ·have:=f10.own ho9 λi hi he=>by
   have hgi:g'=i:=by simpa [Value.ownBlock] using hi
   subst hgi;rcases hg' with h|h
   ·exact hsm (he▸h)
   ·omega
  exact this
 ·intro i hi;have hgi:g'=i:=by simpa [Value.ownBlock] using hi
  subst hgi;rcases hg' with h|⟨h1',h2',h3',h4'⟩
  ·exact .inl h
  ·refine .inr ⟨h1',?_⟩;rintro ((hi|hi|hi)|hi)
   ·exact h2' hi
   ·have:w4.drew.heap.size=g':=by simpa [Value.ownBlock] using hi
    omega
   ·cases hi
   ·have:=(oc.lt g' hi).2;omega
 ·have F7:aE w w7:=f7.ext x06 λi hi=>by have hi:i=w4.drew.heap.size:=hi;omega
  exact ((Fr.of_ext (S:=λi=>i=mb\/sl.ownBlock=some i) (F7.trans x8)).trans (f9.mono λi hi=>.inr hi) λ_ _ h=>h).trans (f10.mono λi hi=>.inl hi) λ_ _ h=>h
def Below (l:List dN) (w:O):List FP->List kC->Prop
 | [],[]=>True
 | q::qs,f::fs=>pD w q (f.me l) f/\Below l w qs fs
 | _,_=>False
theorem Below.len {l:List dN} {w:O}:∀ {qs:List FP} {fs:List kC},Below l w qs fs->qs.length=fs.length
 | [],[],_=>rfl
 | q::qs,f::fs,h=>by simp [Below.len h.2]
 | [],_::_,h=>h.elim
 | _::_,[],h=>h.elim
theorem Below.fr {l:List dN} {w w':O} {S:Nat->Prop} (g:Fr S w w'):∀ {qs:List FP} {fs:List kC},Below l w qs fs->(∀ a∈qs,∀ i,tZ a i->¬ S i)->Below l w' qs fs
 | [],[],_,_=>trivial
 | q::qs,f::fs,h,hn=>⟨h.1.fr g (hn q (by simp)),Below.fr g h.2 λa ha=>hn a (by simp [ha])⟩
 | [],_::_,h,_=>h.elim
 | _::_,[],h,_=>h.elim
def BX (X0:Nat->Prop) (fg:Nat) (qs:List FP) (i:Nat):Prop:=X0 i\/i=fg\/∃ a∈qs,tZ a i
structure iP (l:List dN) (X0:Nat->Prop) (p:jX) (fg fcap:Nat) (qs:List FP) (q:FP) (m:PM) (w:O):Prop where
 wh:Wh l p q m.f m.r (BX X0 fg qs) (.slice (some ⟨fg,0,none⟩) (qs.length+1) fcap) m.fuel 0 w
 row:w.ownsRow 0 111 1 (.slice (some ⟨fg,0,none⟩) (qs.length+1) fcap) (qs.length+1) ((q::qs).reverse.map pf)
 bel:Below l w qs m.fs
 bd:qs.Pairwise λa b=>∀ i,tZ a i->¬ tZ b i
 bf:∀ a∈qs,¬ tZ a fg
 x0:∀ i,X0 i->i≠fg/\∀ a∈qs,¬ tZ a i
def UL (l:List dN) (X0:Nat->Prop) (p:jX) (m':PM) (w w':O):Prop:=∃ p' fg' fcap' qs' q',iP l X0 p' fg' fcap' qs' q' m' w'/\p'.mb=p.mb/\p'.rp.rb=p.rp.rb/\Fr (λi=>¬ X0 i) w w'
def aIn (l:List dN) (X0:Nat->Prop) (p:jX) (e:ON) (w:O):Prop:=∃ q f X a cap,Wh l p q f e.r X (.slice a e.depth cap) e.fuel e.s w/\∀ i,X0 i->X i
def EGo (l:List dN) (X0:Nat->Prop) (p:jX) (e:ON) (w w':O):Prop:=∃ p',aIn l X0 p' e w'/\p'.mb=p.mb/\p'.rp.rb=p.rp.rb/\Fr (λi=>¬ X0 i) w w'
section
variable {l:List dN} {X0:Nat->Prop} {p p1:jX} {fg fcap:Nat} {qs:List FP} {q q1:FP} {m:PM} {w w1 w':O}
theorem kW.fx {X:Nat->Prop} {f:kC} {r:Rm} {sl:Z} {fu st:Int} (h:Wh l p q f r X sl fu st w) (s:kW p q p1 q1 w w1):Fr (λi=>¬ X i) w w1:=s.fr.mono λ_ hi hx=>h.other hx hi
theorem iP.len (h:iP l X0 p fg fcap qs q m w):qs.length=m.fs.length:=h.bel.len
theorem iP.top (h:iP l X0 p fg fcap qs q m w) {f':kC} {r':Rm} {fu':Nat} (h1:Wh l p1 q1 f' r' (BX X0 fg qs) (.slice (some ⟨fg,0,none⟩) (qs.length+1) fcap) fu' 0 w1) (s:kW p q p1 q1 w w1):iP l X0 p1 fg fcap qs q1 ⟨m.fs,f',fu',r'⟩ w1:=by
 have F:=kW.fx h.wh s;refine ⟨h1,?_,h.bel.fr F λa ha i hi hn=>hn (.inr (.inr ⟨a,ha,hi⟩)),h.bd,h.bf,h.x0⟩;have e:(q1::qs).reverse.map pf=(q::qs).reverse.map pf:=by simp [s.pf]
 rw [e];exact F.own h.row λi hi hn=>hn (.inr (.inl (by simpa [Value.ownBlock] using hi.symm)))
theorem iP.topGo (h:iP l X0 p fg fcap qs q m w) {f':kC} {r':Rm} {fu':Nat} (g:kG l p q f' r' (BX X0 fg qs) (.slice (some ⟨fg,0,none⟩) (qs.length+1) fcap) fu' 0 w w1):∃ p1 q1,iP l X0 p1 fg fcap qs q1 ⟨m.fs,f',fu',r'⟩ w1/\kW p q p1 q1 w w1:=by
 obtain ⟨p1,q1,h1,s⟩:=g;exact ⟨p1,q1,h.top h1 s,s⟩
theorem iP.fx (h:iP l X0 p fg fcap qs q m w) (s:kW p q p1 q1 w w1):Fr (λi=>¬ X0 i) w w1:=(kW.fx h.wh s).mono λ_ hn hx=>hn (.inl hx)
theorem aQg (h:iP l X0 p fg fcap qs q m w) (hd:m.fs.length < 8):aB prog 48 #[pm p] w λrv w'=>rv=pf q/\aE w w':=by
 have hl:=h.len;apply aOs;unfold RL;have D1:aE w w.drew:=(aE.refl _).drew;refine aJ.mk' (λw'=>aE w w') D1 ⟨.inl ⟨_,rfl⟩,?_⟩;refine yFS bB eG (λw' hw=>h.wh.box.ext hw) rfl ⟨.inl ⟨_,rfl⟩,?_⟩;refine yFS bB eG (λw' hw=>h.wh.box.ext hw) rfl ?_;refine aC.ok (λw' _=>lU underlying107) ?_;refine aC.ok (λw' _=>fJ) ?_;rw [show IntKind.i64.wrap (((qs.length+1:Nat):Int) - 1)=(qs.length:Int) from by rw [aU (by omega)];omega];refine lT aJy fO (aA.of_own h.row) (λw' hw=>hw) (by omega) (by omega) (u:=pf q) ?_ ⟨rfl,D1⟩;rw [Int.toNat_natCast,List.reverse_cons,List.map_append,List.getElem?_append_right (by simp)];simp
end
theorem aBf {P:Program} {w:O} {t e:TypeId} {z:Z} {by_:Nat} (ht:P.underlying t=some (.slice e)) (hi:Go.Vc.fH P e z 1 by_) {g n cap a:Nat} (ha:a<=n) (hn:n<=cap) :
  (Instr.sliceAt t (.slice (some ⟨g,0,none⟩) n cap) none (some (.int .i64 (a:Int))) none).run P w=.ok (.slice (some ⟨g,0,none⟩) a cap) w:=by
 have hc:a<=cap:=by omega
 simp [Instr.sliceAt,Instr.slice,run_underlying ht,gQ hi,Instr.sliceBounds,Instr.sliceBound,asIntOf,hc,jQ]
theorem aBq {w:O} {B e sz n g cap:Nat} {xs:List Z} (h:w.ownsRow B e sz (.slice (some ⟨g,0,none⟩) n cap) n xs):n<=cap:=by
 rcases h.2 with ⟨he,_⟩|⟨_,_,_,he,_,_,h2,_⟩
 ·cases he
 ·cases he;exact h2
section
variable {l:List dN} {X0 Y0:Nat->Prop} {p p1:jX} {fg fcap:Nat} {qs:List FP} {q q1:FP} {m:PM} {w w1 w':O}
theorem Sep.sub {R R':Lb->Nat->Prop} {n:Nat} (h:Sep R n) (hs:∀ a i,R' a i->R a i):Sep R' n:=⟨λa b i ha hb=>h.dj a b i (hs a i ha) (hs b i hb),λa i ha=>h.lt a i (hs a i ha)⟩
theorem Wh.weak {f:kC} {r:Rm} {X Y:Nat->Prop} {sl:Z} {fu st:Int} (h:Wh l p q f r X sl fu st w) (hs:∀ i,Y i->X i):Wh l p q f r Y sl fu st w:=
 ⟨h.room,h.rps,h.fld,h.img,h.box,h.frm,h.sep.sub λa i ha=>by
  cases a with
  | ex=>exact hs i ha
  | _=>exact ha⟩
theorem iP.weak (h:iP l X0 p fg fcap qs q m w) (hs:∀ i,Y0 i->X0 i):iP l Y0 p fg fcap qs q m w:=
 ⟨h.wh.weak λi hi=>hi.imp (hs i) id,h.row,h.bel,h.bd,h.bf,λi hi=>h.x0 i (hs i hi)⟩
theorem iP.go (h:iP l X0 p fg fcap qs q m w):UL l X0 p m w w:=⟨p,fg,fcap,qs,q,h,rfl,rfl,Fr.refl _ _⟩
theorem UL.after {m':PM} (hmb:p1.mb=p.mb) (hrb:p1.rp.rb=p.rp.rb) (F:Fr (λi=>¬ X0 i) w w1) (g:UL l X0 p1 m' w1 w'):UL l X0 p m' w w':=by
 obtain ⟨p',a,b,c,d,h1,h2,h3,h4⟩:=g;exact ⟨p',a,b,c,d,h1,h2.trans hmb,h3.trans hrb,F.trans h4 λ_ _ h=>h⟩
theorem EGo.after {e:ON} (hmb:p1.mb=p.mb) (hrb:p1.rp.rb=p.rp.rb) (F:Fr (λi=>¬ X0 i) w w1) (g:EGo l X0 p1 e w1 w'):EGo l X0 p e w w':=by
 obtain ⟨p',h1,h2,h3,h4⟩:=g;exact ⟨p',h1,h2.trans hmb,h3.trans hrb,F.trans h4 λ_ _ h=>h⟩
theorem iP.drop {q1:FP} {qs:List FP} {g:kC} {gs:List kC} {f:kC} {fuel:Nat} {r:Rm} (h:iP l X0 p fg fcap (q1::qs) q ⟨g::gs,f,fuel,r⟩ w) {w1:O} (hw:w1=w.setCell ⟨p.mb,0+2,none⟩ (.slice (some ⟨fg,0,none⟩) (qs.length+1) fcap)) :
  iP l (λi=>X0 i\/tZ q i) p fg fcap qs q1 ⟨gs,g,fuel,r⟩ w1/\pD w1 q (f.me l) f/\Fr (λi=>i=p.mb) w w1:=by
 subst hw;have F:Fr (λi=>i=p.mb) w (w.setCell ⟨p.mb,0+2,none⟩ (.slice (some ⟨fg,0,none⟩) (qs.length+1) fcap)):=Fr.of_set rfl;have S:=h.wh.sep;have nm:∀ {a:Lb} {i:Nat},a≠.mb->WR p q (BX X0 fg (q1::qs)) a i->¬ i=p.mb:=λha hi he=>ha (S.dj _ .mb _ hi he);have hb:=h.wh.box.set (j:=2) (by simp) (.slice (some ⟨fg,0,none⟩) (qs.length+1) fcap);obtain ⟨b1,b2⟩:=h.bel;have inq1:∀ {i},tZ q1 i->BX X0 fg (q1::qs) i:=λhi=>.inr (.inr ⟨q1,by simp,hi⟩);have inqs:∀ {i a},a∈qs->tZ a i->BX X0 fg (q1::qs) i:=λha hi=>.inr (.inr ⟨_,by simp [ha],hi⟩);have pw:=List.pairwise_cons.1 h.bd;refine ⟨⟨⟨?_,h.wh.rps,?_,?_,hb,?_,?_⟩,?_,?_,pw.2,λa ha=>h.bf a (by simp [ha]),λi hi=>?_⟩,?_,F⟩
 ·exact h.wh.room.fr F λi hs=>⟨λhm=>nm (a:=.rm) (by intro e;cases e) (.inl hm) hs,λhm=>nm (a:=.rm) (by intro e;cases e) (.inr hm) hs⟩
 ·exact h.wh.fld.fr F (nm (a:=.fo) (by intro e;cases e) rfl) λi hi=>nm (a:=.fd) (by intro e;cases e) hi
 ·exact h.wh.img.fr F λi hi=>nm (a:=.im) (by intro e;cases e) hi
 ·exact b1.fr F λi hi=>nm (a:=.ex) (by intro e;cases e) (inq1 hi)
 ·refine ⟨λa b i ha hb=>?_,λa i ha=>?_⟩
  ·-- where a block lay before
   have cls:∀ {a:Lb} {i:Nat},WR p q1 (BX (λi=>X0 i\/tZ q i) fg qs) a i->(a≠.fr/\a≠.ex/\WR p q (BX X0 fg (q1::qs)) a i)\/(a=.fr/\tZ q1 i)\/(a=.ex/\((X0 i\/i=fg\/∃ c∈qs,tZ c i)\/tZ q i)):=by
    intro a i hi;cases a with
    | fr=>exact .inr (.inl ⟨rfl,hi⟩)
    | ex=>
     rcases hi with (h|h)|h|h
     ·exact .inr (.inr ⟨rfl,.inl (.inl h)⟩)
     ·exact .inr (.inr ⟨rfl,.inr h⟩)
     ·exact .inr (.inr ⟨rfl,.inl (.inr (.inl h))⟩)
     ·exact .inr (.inr ⟨rfl,.inl (.inr (.inr h))⟩)
    | _=>exact .inl ⟨(by intro e;cases e),(by intro e;cases e),hi⟩
   have exo:∀ {i:Nat},((X0 i\/i=fg\/∃ c∈qs,tZ c i)\/tZ q i)->BX X0 fg (q1::qs) i\/tZ q i:=λh=>by
    rcases h with (h|h|⟨c,hc,h⟩)|h
    ·exact .inl (.inl h)
    ·exact .inl (.inr (.inl h))
    ·exact .inl (inqs hc h)
    ·exact .inr h
   have no1:∀ {i:Nat},tZ q1 i->((X0 i\/i=fg\/∃ c∈qs,tZ c i)\/tZ q i)->False:=λ{i} hi h'=>by
    rcases h' with (h'|h'|⟨c,hc,h'⟩)|h'
    ·exact (h.x0 i h').2 q1 (by simp) hi
    ·exact h.bf q1 (by simp) (h'▸hi)
    ·exact pw.1 c hc i hi h'
    ·cases S.dj .fr .ex i h' (inq1 hi)
   rcases cls ha with ⟨n1,n2,ha⟩|⟨e1,ha⟩|⟨e1,ha⟩<;>rcases cls hb with ⟨m1,m2,hb⟩|⟨e2,hb⟩|⟨e2,hb⟩
   ·exact S.dj a b i ha hb
   ·exact absurd (S.dj a .ex i ha (inq1 hb)) n2
   ·rcases exo hb with hb|hb
    ·exact absurd (S.dj a .ex i ha hb) n2
    ·exact absurd (S.dj a .fr i ha hb) n1
   ·exact absurd (S.dj b .ex i hb (inq1 ha)) m2
   ·rw [e1,e2]
   ·exact (no1 ha hb).elim
   ·rcases exo ha with ha|ha
    ·exact absurd (S.dj b .ex i hb ha) m2
    ·exact absurd (S.dj b .fr i hb ha) m1
   ·exact (no1 hb ha).elim
   ·rw [e1,e2]
  ·have:i < w.heap.size:=by
    cases a with
    | fr=>exact S.lt .ex i (inq1 ha)
    | ex=>
     rcases ha with (h'|h')|h'|⟨c,hc,h'⟩
     ·exact S.lt .ex i (.inl h')
     ·exact S.lt .fr i h'
     ·exact S.lt .ex i (.inr (.inl h'))
     ·exact S.lt .ex i (inqs hc h')
    | rm=>exact S.lt .rm i ha
    | im=>exact S.lt .im i ha
    | fo=>exact S.lt .fo i ha
    | fd=>exact S.lt .fd i ha
    | mb=>exact S.lt .mb i ha
   have:=F.size;omega
 ·have h1:=FL (F.own h.row λi hi=>nm (a:=.ex) (by intro e;cases e) (.inr (.inl (by simpa [Value.ownBlock] using hi.symm)))) (a:=qs.length+1) (by simp)
  have e:((q::q1::qs).reverse.map pf).take ((qs.length+1)*1)=(q1::qs).reverse.map pf:=by
   rw [List.reverse_cons,List.map_append,Nat.mul_one,List.take_left' (by simp)]
  rw [e] at h1;exact h1
 ·exact b2.fr F λa ha i hi=>nm (a:=.ex) (by intro e;cases e) (inqs ha hi)
 ·rcases hi with hi|hi
  ·exact ⟨(h.x0 i hi).1,λa ha=>(h.x0 i hi).2 a (by simp [ha])⟩
  ·refine ⟨λhe=>?_,λa ha hf=>?_⟩
   ·cases S.dj .fr .ex i hi (.inr (.inl he))
   ·cases S.dj .fr .ex i hi (inqs ha hf)
 ·exact h.wh.frm.fr F λi hi=>nm (a:=.fr) (by intro e;cases e) hi
theorem aTi (h:iP l X0 p fg fcap qs q m w) (hd:m.fs.length < 8) (h8:m.f.st.length<=8) (hg8:∀ g∈m.fs,g.st.length<=8) (hr0:0<=(m.f.me l).result) (hnt:(jD (m.f.me l).result).length<=m.f.st.length) (htr:m.r.ps.tr.length<=100000) :
  aB prog 93 #[pm p,pf q] w λ_ w'=>(m.fs=[]/\EGo l X0 p ⟨36864,0,m.fuel,m.r.ends 36864⟩ w w') \/
   ∃ g gs,m.fs=g::gs/\UL l X0 p ⟨gs,{ g with st:=g.st++jE (jD (m.f.me l).result).length m.f.st },m.fuel,m.r⟩ w w':=by
 have hl:=h.len;apply aNy
 suffices key:∀ R:Z->O->Prop,(∀ rv w',((m.fs=[]/\EGo l X0 p ⟨36864,0,m.fuel,m.r.ends 36864⟩ w w') \/
   ∃ g gs,m.fs=g::gs/\UL l X0 p ⟨gs,{ g with st:=g.st++jE (jD (m.f.me l).result).length m.f.st },m.fuel,m.r⟩ w w')->R rv w')->DY (pm p) (pf q) w R from key _ λrv w' h=>h
 intro R hR;unfold DY;have hcap:=aBq h.row;have D1:aE w w.drew:=(aE.refl _).drew;refine aJ.mk' (λw'=>aE w w') D1 ⟨.inl ⟨_,rfl⟩,?_⟩;refine yFS bB eG (λw' hw=>h.wh.box.ext hw) rfl ⟨.inl ⟨_,rfl⟩,?_⟩;refine yFS bB eG (λw' hw=>h.wh.box.ext hw) rfl ?_;refine aC.ok (λw' _=>lU underlying107) ?_;refine aC.ok (λw' _=>fJ) ?_;rw [show IntKind.i64.wrap (((qs.length+1:Nat):Int) - 1)=(qs.length:Int) from by rw [aU (by omega)];omega];refine aC.ok (λw' _=>aBf underlying107 NG (Nat.le_succ _) hcap) ⟨.inl ⟨_,rfl⟩,?_⟩;refine yFA bB ?_
 have hD:iP l X0 p fg fcap qs q m w.drew:=by
  have F:=Fr.of_ext (S:=λ_=>False) D1;exact ⟨h.wh.ext D1,D1.own h.row,h.bel.fr F λ_ _ _ _ h=>h,h.bd,h.bf,h.x0⟩
 refine sZ NH hD.wh.box (show 2 < 5 by decide) rfl ?_;obtain ⟨fs,f,fuel,r⟩:=m;cases fs with
 | nil=>
  have hq0:qs=[]:=List.eq_nil_of_length_eq_zero hl;subst hq0;obtain ⟨p2,q2,h2,s2⟩:=hD.wh.cell (j:=2) (u:=.slice (some ⟨fg,0,none⟩) 0 fcap) (sl':=.slice (some ⟨fg,0,none⟩) 0 fcap) (fu':=(fuel:Int)) (st':=0) (by decide) rfl;have e:pm p=.pointer (some ⟨p2.mb,0,none⟩):=by unfold pm;rw [s2.mb]
  have e3:pm p=pm p2:=s2.pm.symm;have s02:=(kW.of_ext (p:=p) (q:=q) D1).trans s2;refine ⟨.inl ⟨_,rfl⟩,?_⟩;rw [e];refine nC bB eG h2.box rfl (HC.2 (aO.2 ?_));simp only [show (((0:Nat):Int)=0) by rfl,decide_true,aS];rw [<- e,e3];refine (aMo h2 htr (s:=36864)).mono λ_ w3 g=>?_;obtain ⟨p3,q3,h3,s3⟩:=kG.after s02 g;refine hR _ _ (.inl ⟨rfl,p3,⟨q3,f,BX X0 fg [],some ⟨fg,0,none⟩,fcap,h3,λi hi=>.inl hi⟩,s3.mb,s3.rb,h.fx s3⟩)
 | cons g gs=>
  cases qs with
  | nil=>simp at hl
  | cons q1 qs=>
  obtain ⟨h2,hq2,F2⟩:=hD.drop rfl;have F02:Fr (λi=>¬ X0 i) w (w.drew.setCell ⟨p.mb,0+2,none⟩ (.slice (some ⟨fg,0,none⟩) (qs.length+1) fcap)):=(Fr.of_ext (S:=λi=>¬ X0 i) D1).trans (F2.mono λi hi hx=>by cases h.wh.sep.dj .ex .mb i (.inl hx) hi) λ_ _ h=>h;have hlen1:(q1::qs).length=qs.length+1:=rfl;rw [hlen1];generalize w.drew.setCell ⟨p.mb,0+2,none⟩ (.slice (some ⟨fg,0,none⟩) (qs.length+1) fcap)=w2 at *;refine ⟨.inl ⟨_,rfl⟩,?_⟩;refine nC bB eG h2.wh.box rfl (HC.2 (aO.2 ?_));simp only [show ¬ (((qs.length+1:Nat):Int)=0) by omega,decide_false,aD];refine ⟨.inl ⟨_,rfl⟩,?_⟩;refine V.ok MN (V.ok SR (V.ok (ML (hq2.box.cell (j:=4) rfl)) ?_));have hbelow:gs.length < 8:=by simp at hd;omega
  refine dZ.2 (aK (λhne=>?_) λheq=>?_)
  ·have hres:(jD (f.me l).result).length=1:=by unfold jD;rw [if_neg hne];rfl
   have hnt:1<=f.st.length:=by rw [<- hres];exact hnt
   refine (aQg h2 hbelow).mono λrv w3 ⟨hrv,x3⟩=>?_;subst hrv;refine (xH (hq2.ext x3) (by show f.st.length<=_;have h8:f.st.length<=8:=h8;omega) hnt).mono λrv w4 ⟨hrv,q4,hq4,s4⟩=>?_;subst hrv
   have hX3:iP l (λi=>X0 i\/tZ q i) p fg fcap qs q1 ⟨gs,g,fuel,r⟩ w3:=by
    have F:=Fr.of_ext (S:=λ_=>False) x3;exact ⟨h2.wh.ext x3,x3.own h2.row,h2.bel.fr F λ_ _ _ _ h=>h,h2.bd,h2.bf,h2.x0⟩
   have nq:∀ {a:Lb} {i:Nat},a≠.ex->WR p q1 (BX (λi=>X0 i\/tZ q i) fg qs) a i->¬ FM q i:=λha hi hf=>ha (hX3.wh.sep.dj _ .ex _ hi (.inl (.inr (.inl hf))))
   have h4:iP l (λi=>X0 i\/tZ q i) p fg fcap qs q1 ⟨gs,g,fuel,r⟩ w4:=by
    refine ⟨hX3.wh.fr s4.fr λa i ha hi=>nq ha hi,s4.fr.own hX3.row λi hi hf=>?_,hX3.bel.fr s4.fr λa ha i hi hf=>?_,hX3.bd,hX3.bf,hX3.x0⟩
    ·exact (hX3.x0 i (.inr (.inl hf))).1 (by simpa [Value.ownBlock] using hi.symm)
    ·exact (hX3.x0 i (.inr (.inl hf))).2 a ha hi
   have F24:Fr (λi=>¬ X0 i) w2 w4:=(Fr.of_ext (S:=λi=>¬ X0 i) x3).trans (s4.fr.mono λi hi hx=>by cases h.wh.sep.dj .ex .fr i (.inl hx) (.inl hi)) λ_ _ h=>h;refine (oT h4.wh (by have:=hg8 g (by simp);show g.st.length<=_;omega)).mono λ_ w5 g5=>?_;obtain ⟨p5,q5,h5,s5⟩:=h4.topGo g5;have hF5:=h4.fx s5;refine hR _ _ (.inr ⟨g,gs,rfl,?_⟩);rw [hres]
   have et:jE 1 f.st=[cT (jE 1 f.st) 0]:=by
    obtain ⟨a,ha⟩:=List.length_eq_one_iff.1 (rA hnt);rw [ha];rfl
   rw [et];exact ⟨p5,fg,fcap,qs,q5,h5.weak λi hi=>.inl hi,s5.mb,s5.rb,(F02.trans F24 λ_ _ h=>h).trans (hF5.mono λi hi hx=>hi (.inl hx)) λ_ _ h=>h⟩
  ·have heq:(f.me l).result=0:=Classical.not_not.1 heq;refine hR _ _ (.inr ⟨g,gs,rfl,?_⟩);have hres:jD (f.me l).result=[]:=by unfold jD;rw [if_pos heq]
   show UL l X0 p ⟨gs,{ g with st:=g.st++jE (jD (f.me l).result).length f.st },fuel,r⟩ w w2;rw [hres];have et:jE ([]:List Int).length f.st=[]:=by unfold jE;simp
   rw [et,List.append_nil];exact ⟨p,fg,fcap,qs,q1,h2.weak λi hi=>.inl hi,rfl,rfl,F02⟩
end
section
variable {l:List dN} {X0:Nat->Prop} {p p1:jX} {fg fcap:Nat} {qs:List FP} {q q1:FP} {m:PM} {w w1 w':O}
theorem iP.ext (h:iP l X0 p fg fcap qs q m w) (hx:aE w w'):iP l X0 p fg fcap qs q m w':=by
 have F:=Fr.of_ext (S:=λ_=>False) hx;exact ⟨h.wh.ext hx,hx.own h.row,h.bel.fr F λ_ _ _ _ h=>h,h.bd,h.bf,h.x0⟩
theorem VJ {op:Int} (h:¬ kA op):aB prog 94 #[i64 op] w λr w'=>r=i64 (-1)/\w'=w:=by
 unfold kA at h;apply aNx;suffices key:∀ R:Z->O->Prop,R (i64 (-1)) w->DX (i64 op) w R from key _ ⟨rfl,rfl⟩;intro R hR;unfold DX;refine ⟨λv w'=>v=.bool false/\w'=w,?_,?_⟩
 ·simp only [aO,show ¬ op=27 by omega,show ¬ op=28 by omega,decide_false,aD];exact ⟨by first|rfl|trivial,by first|rfl|trivial⟩
 rintro _ w' ⟨rfl,hw⟩ _;have hw:=hw.symm;subst hw;refine aD.2 ⟨λv w'=>v=.bool false/\w'=w,?_,?_⟩
 ·simp only [aO,show ¬ op=17 by omega,show ¬ op=18 by omega,show ¬ op=29 by omega,decide_false,aD];exact ⟨by first|rfl|trivial,by first|rfl|trivial⟩
 rintro _ w' ⟨rfl,hw⟩ _;have hw:=hw.symm;subst hw;refine aD.2 ⟨λv w'=>v=.bool false/\w'=w,?_,?_⟩
 ·simp only [aO,show ¬ op=30 by omega,show ¬ op=36 by omega,decide_false,aD];exact ⟨by first|rfl|trivial,by first|rfl|trivial⟩
 rintro _ w' ⟨rfl,hw⟩ _;have hw:=hw.symm;subst hw;refine aD.2 ?_;simp only [aO,show ¬ op=31 by omega,show ¬ op=32 by omega,decide_false,aD];exact hR
inductive DoR (l:List dN) (X0:Nat->Prop) (p:jX) (q:FP) (X:Nat->Prop) (sl:Z) (d0 fu0:Nat) (o:Out) (rv:Z) (w w':O):Prop
 | run (m':PM):o=.run m'->rv=i64 36864->UL l X0 p m' w w'->DoR l X0 p q X sl d0 fu0 o rv w w'
 | fin (s:Int) (d fu:Nat) (r:Rm):o=.fin s d fu r->rv=i64 36864->EGo l X0 p ⟨s,d,fu,r⟩ w w'->DoR l X0 p q X sl d0 fu0 o rv w w'
 | bad (s:Int) (r:Rm) (f':kC):o=.fin s d0 fu0 (r.ends s)->s≠36864->s≠0->rv=i64 s->kG l p q f' r X sl fu0 0 w w'->DoR l X0 p q X sl d0 fu0 o rv w w'
theorem MF {s:PS} {who:Int} {x:gN} {t:List Int}:(kS s who x t).2.1≠0:=by
 have chk0:∀ {l:List PA} {r who:Int},GV l r who≠0:=λ{l r who}=>by
  unfold GV;refine mY ?_ (by decide);split
  ·exact mY (by decide) (by decide)
  ·decide
 have rng0:∀ {l:List PA} {r a n who:Int},uC l r a n who≠0:=λ{l r a n who}=>by
  unfold uC;refine mY ?_ chk0;split
  ·exact mY (by decide) (by decide)
  ·decide
 have qB:∀ {s:PS} {who r1 a1 r2 a2 n:Int},AF s who r1 a1 r2 a2 n≠0:=λ{s who r1 a1 r2 a2 n}=>mY rng0 rng0;unfold kS VS VO EU VQ VR VP EV ET ES
 repeat' (with_reducible apply VD)
 all_goals first|exact chk0|exact rng0|exact qB|(dsimp only;decide)
end
end Go.Proofs.YtgkkecladbmjkaaGreatDoor
namespace Go.Vc
theorem yxA {P:Program} {w:O} {S:O->Prop} {L:Z->Prop} {t x:TypeId} {v:Z} {n sz:Nat} {cs l:List Z} {k:IntKind} {i:Int} (h:XA P t sz) (ht:∃ d z by_,P.underlying x=some d/\nG d=true/\Go.Vc.fH P x z sz by_) (hs0:aA w v sz n cs) (hs:∀ w',S w'->aA w' v sz n cs) (h0:0<=i) (h1:i < n)
  (hl:(cs.drop (i.toNat*sz)).take sz=l) (hlen:l.length=sz) (hk:L (.agg l.toArray)) :
  aC P S (Instr.indexAt t v (.int k i)) λp=>aC P S (Instr.loadAt x p) L:=by
 obtain ⟨e,z,b',hte,hi⟩:=h;obtain ⟨d,z',by_,h2,h3,h4⟩:=ht;obtain ⟨b,off,cap,rfl,_⟩:=hs0.there (by omega);refine aC.ok (λw' _=>iG hte hi h0 h1) (aC.ok (λw' hw=>kZ h2 h3 h4 hlen λj hj=>?_) hk);have hj':j < l.length:=by omega
 obtain ⟨u,hu⟩:∃ u,l[j]?=some u:=⟨_,List.getElem?_eq_getElem hj'⟩;rw [hu];rcases (hs w' hw).2 with ⟨he,_⟩|⟨b2,off2,cap2,he,_,_,hc2⟩
 ·cases he
 ·cases he
  have hcu:cs[i.toNat*sz+j]?=some u:=by
   rw [<- hl,List.getElem?_take,if_pos (by omega),List.getElem?_drop] at hu;exact hu
  rw [Nat.add_assoc];exact hc2 _ _ hcu
end Go.Vc
namespace Go.Proofs.YtgkkecladbmjkaaGreatDoor
open Tryz
open Go.Vc Go.Tc
section
variable {l:List dN} {X0:Nat->Prop} {p p1:jX} {fg fcap:Nat} {qs:List FP} {q q1:FP} {m:PM} {w w1 w':O}
theorem aCj {m:gA} {pc:Nat} (h:pc < m.code.length):m.code[pc]?=some (m.ins pc):=by
 unfold gA.ins;rw [List.getD_eq_getElem?_getD,List.getElem?_eq_getElem h];rfl
theorem aKn {n:Nat} {c:Prop} [Decidable c] {a b:HF} (ha:a.2.2.tr.length<=n) (hb:b.2.2.tr.length<=n):(if c then a else b).2.2.tr.length<=n:=by split<;>assumption
theorem SM {s:PS} {who:Int} {x:gN} {t:List Int}:(kS s who x t).2.2.tr.length<=s.tr.length+2:=by
 unfold kS VS VO EU VQ VR VP EV ET ES
 repeat' (with_reducible apply aKn)
 all_goals simp [PS.ev,PS.ev2]
theorem YT (l:List dN) (fs:List kC) (f:kC) (fu:Nat) (r:Rm) (x:gN) (t u:List Int):(vY l fs f fu r x t u).r.ps.tr.length<=r.ps.tr.length+3:=by
 have e1:∀ (r:Rm) (s:Int),(r.ends s).ps.tr.length=r.ps.tr.length+1:=λr s=>by simp [Rm.ends,Rm.ev,PS.ev]
 have hs:=SM (s:=r.ps) (who:=f.who) (x:=x) (t:=t);unfold vY;split
 ·cases fs with
  | nil=>show (r.ends 36864).ps.tr.length<=_;rw [e1];omega
  | cons g gs=>show r.ps.tr.length<=_;omega
 split
 ·split
  ·show (r.ends 28424).ps.tr.length<=_;rw [e1];omega
  ·split
   ·show (r.ends 28422).ps.tr.length<=_;rw [e1];omega
   ·show r.ps.tr.length<=_;omega
 split
 ·split
  ·show (kS r.ps f.who x t).2.2.tr.length<=_;omega
  ·show (Rm.ends _ _).ps.tr.length<=_;rw [e1];show (kS r.ps f.who x t).2.2.tr.length+1<=_;omega
 ·show r.ps.tr.length<=_;omega
theorem stW {f:kC} {r:Rm} {X:Nat->Prop} {sl:Z} {fu st:Int} (h:Wh l p1 q1 f r X sl fu st w) (hp:p1.mb=p.mb) {R:Z->O->Prop} (hR:R (i64 st) w) :
  Go.Vc.aY (pm p)/\V prog (Instr.fieldAt 109 (pm p) 4) w λa w1=>V prog (Instr.loadAt 3 a) w1 λb w2=>R b w2:=by
 have e:pm p=.pointer (some ⟨p1.mb,0,none⟩):=by unfold pm;rw [hp]
 rw [e];exact ⟨.inl ⟨_,rfl⟩,nC bV aF h.box rfl hR⟩
end
section
variable {l:List dN} {X0:Nat->Prop} {p p1:jX} {fg fcap:Nat} {qs:List FP} {q q1:FP} {m:PM} {w w1 w':O}
def QF (w:O) (b o:Nat):Int:=match w.cell? ⟨b,o,none⟩ with
 | some v=>RowKit.intOf v
 | none=>0
theorem yK {w:O} {b o:Nat} {n:Int} (h:w.cell? ⟨b,o,none⟩=some (i64 n)):QF w b o=n:=by unfold QF;rw [h];rfl
def pZ (mb:Nat) (w:O):Nat:=if QF w mb 4=0 then (QF w mb 3).toNat+1 else 0
theorem AG {f:kC} {r:Rm} {X:Nat->Prop} {sl:Z} {fu:Nat} (h:Wh l p q f r X sl fu 0 w):pZ p.mb w=fu+1:=by
 unfold pZ;have h4:=h.box.cell (j:=4) rfl;have h3:=h.box.cell (j:=3) rfl;rw [Nat.zero_add] at h4 h3;rw [yK h4,if_pos rfl,yK h3];rfl
theorem SO {f:kC} {r:Rm} {X:Nat->Prop} {sl:Z} {fu s:Int} (h:Wh l p q f r X sl fu s w) (hs:s≠0):pZ p.mb w=0:=by
 unfold pZ;have h4:=h.box.cell (j:=4) rfl;rw [Nat.zero_add] at h4;rw [yK h4,if_neg hs]
def Bnd (m:PM):Prop:=m.r.ps.tr.length+5*m.fuel<=80000
theorem aAx (l:List dN) (m:PM):(jY l m).r.ps.tr.length<=m.r.ps.tr.length+4:=by
 unfold jY;split
 ·show (m.r.ends 28423).ps.tr.length<=_;simp [Rm.ends,Rm.ev,PS.ev]
 ·have:=YT l m.fs m.f (m.fuel - 1) (m.r.ev (lQ l m.f)) (m.f.ins l) (jE (fW l m.f) m.f.st) (kX (fW l m.f) m.f.st);have h2:(m.r.ev (lQ l m.f)).ps.tr.length=m.r.ps.tr.length+1:=by simp [Rm.ev,PS.ev]
  omega
theorem VB {l:List dN} {m m':PM} (h:jY l m=.run m') (hb:Bnd m):Bnd m':=by
 have hf:=(wS h).1;have:=aAx l m;rw [h] at this;have this:m'.r.ps.tr.length<=m.r.ps.tr.length+4:=this;unfold Bnd at *;omega
theorem aRr {f:kC} {r:Rm} {X:Nat->Prop} {sl:Z} {fu st:Int} (h:Wh l p q f r X sl fu st w):aB prog 18 #[pm p] w λrv w'=>rv=i64 fu/\w'=w:=by
 apply aPf;unfold RY;exact ⟨.inl ⟨_,rfl⟩,nC cC aF h.box rfl ⟨rfl,rfl⟩⟩
end
def ZI (p:jX) (X:Nat->Prop):Lb->Nat->Prop
 | .rm,i=>wH p.rp i
 | .im,i=>p.IB i
 | .fo,i=>i=p.fo
 | .fd,i=>FdM p.vs i
 | .ex,i=>X i
 | _,_=>False
structure ZT (l:List dN) (X0:Nat->Prop) (p:jX) (r:Rm) (w:O):Prop where
 room:rR p.rp w
 rps:p.rp.size=r.ps.size/\p.rp.ar.map pa=r.ps.ar/\p.rp.tp=r.ps.tp/\p.rp.ts=r.ps.ts
 fld:rK w p.rp.fv p.fo p.vs r.fd
 img:vO p.IB w λw'=>nW w' p.rp.iv l
 sep:Sep (ZI p X0) w.heap.size
section
variable {l:List dN} {X0:Nat->Prop} {p:jX} {r:Rm} {w w':O}
theorem ZT.fr {S:Nat->Prop} (h:ZT l X0 p r w) (g:Fr S w w') (hn:∀ a i,a≠Lb.ex->ZI p X0 a i->¬ S i):ZT l X0 p r w':=
 ⟨h.room.fr g λi hi=>hn .rm i (by intro e;cases e) hi,h.rps,h.fld.fr g (hn .fo _ (by intro e;cases e) rfl) λi hi=>hn .fd i (by intro e;cases e) hi,h.img.fr g λi hi=>hn .im i (by intro e;cases e) hi,h.sep.step g.size .ex λa i ha=>.inl ha⟩
theorem ZT.ext (h:ZT l X0 p r w) (hx:aE w w'):ZT l X0 p r w':=h.fr (Fr.of_ext (S:=λ_=>False) hx) λ_ _ _ _ h=>h
def CJ (l:List dN) (who fuel:Nat) (r:Rm):PM:=⟨[],sJ l who 0 [],fuel,{ r with ps:={ r.ps with tr:=[] } }⟩
theorem SK (hT:rL l) {who fuel:Nat} (hw:who < l.length) (hfd:UN l r.fd):(CJ l who fuel r).ok l:=by
 have hi:=(hT _ (lY hw)).1.2.2.1;have h0:((fG l who).meth 0).params=[]:=hi.2.2.1;exact ⟨AZ hT hw (by have:=hi.1.1;omega) tP (by show (0:Nat)=((fG l who).meth ((0:Nat):Int)).params.length;rw [show (((0:Nat):Int))=0 from rfl,h0];first|rfl|done),trivial,by show 0 < 8;decide,hfd⟩
theorem aMv (h:ZT l X0 p r w):aB prog 45 #[sS p.rp] w λrv w'=>rv=i64 (l.length:Int)/\w'=w:=by
 apply aOv;unfold RO;exact ⟨.inl ⟨_,rfl⟩,nC bG gF h.room.room rfl (vS EL h.img.now ⟨rfl,rfl⟩)⟩
theorem UX:aB prog 46 #[] w λrv w'=>(rv=.pointer (some ⟨w.heap.size,0,none⟩)/\dW w' w.heap.size [.slice none 0 0] 125)/\aE w w':=by
 apply aOu;unfold RN;refine kO aNl [] rfl rfl ?_;exact QG λw1 hb x1=>⟨⟨rfl,hb⟩,x1⟩
theorem aTo (hT:rL l) (h:ZT l X0 p r w) {who fuel:Nat} (hw:who < l.length) (hf:fuel<=100000) :
  aB prog 13 #[sS p.rp,i64 (who:Int),i64 (fuel:Int)] w λrv w'=>∃ p' fg fcap q,rv=.tuple #[pm p',i64 0]/\iP l X0 p' fg fcap [] q (CJ l who fuel r) w'/\p'.rp.rb=p.rp.rb/\aE w w'/\w.heap.size<=fg/\∀ a i,a≠Lb.ex->WR p' q (λ_=>False) a i->(∃ b,b≠Lb.ex/\ZI p X0 b i)\/w.heap.size<=i:=by
 have hi:=(hT _ (lY hw)).1.2.2.1;have h0:((fG l who).meth ((0:Nat):Int)).params=[]:=hi.2.2.1;apply aPg;unfold SC;refine V.ok (CV underlying26) ?_;simp only [bP,mK,bR,reduceIte,Bool.false_eq_true];simp only [show ¬ ((fuel:Int) < 0) by omega,show ¬ ((fuel:Int) > 100000) by omega,show ¬ ((who:Int) < 0) by omega,bP,jJ,mK,bR,reduceIte,Bool.false_eq_true,decide_false];refine (aMv h).mono λrv w1 ⟨hrv,hw1⟩=>?_;subst hrv;have hw1:=hw1.symm;subst hw1;simp only [show ¬ ((who:Int)>=(l.length:Int)) by omega,jU,aD,decide_false];refine UX.mono λrv w1 ⟨⟨hrv,hb1⟩,x1⟩=>?_;subst hrv;refine kO aNm [(0,sS p.rp),(1,.pointer (some ⟨w.heap.size,0,none⟩)),(3,i64 (fuel:Int))] rfl rfl ?_;refine QG λw2 hb2 x2=>?_;have hb2:dW w2 w1.heap.size [sS p.rp,.pointer (some ⟨w.heap.size,0,none⟩),.slice none 0 0,i64 (fuel:Int),i64 0] 109:=hb2;have x02:=x1.trans x2;have h2:=h.ext x02;have hb12:=hb1.ext x2;have l1:=hb1.lt;have l2:=hb2.lt;have s1:=x1.size;have s2:=x2.size;refine (aMn hT h2.room.room h2.img.now (n:=0) (ptrs:=[]) (sl:=.slice none 0 0) (fu:=(fuel:Int)) (st:=0) (tbv:=.pointer (some ⟨w.heap.size,0,none⟩)) hb2.seg (World.ownsRow_nil _ _ _ _) (by decide) (by intro e;cases e) hw (by have:=hi.1.1;omega) (mth:=0) (pv:=.slice none 0 0) (t:=[]) (aA.nil _ _) (by rw [h0];first|rfl|done)).mono λrv w3 ⟨sl',qn,hq,hnew,hb3,hr3,hsl3,F3⟩=>?_
 obtain ⟨fg,fcap,rfl⟩:=nX hr3 (by decide);have F3':Fr (λi=>i=w1.heap.size) w2 w3:=F3.mono λi hi=>hi.elim id λh=>(by cases h);have s3:=F3.size;have old:∀ {a:Lb} {i:Nat},ZI p X0 a i->i < w.heap.size:=λhi=>h.sep.lt _ _ hi;have h3:=h2.fr F3' λa i _ hi he=>by have:=old hi;omega
 have hb13:=F3'.blk hb12 (by omega);have hR:=h3.room.trace hb13 (λhm=>by have:=old (a:=.rm) hm;omega);have x03:aE w w3:=F3'.ext x02 λi hi=>by omega
 have hfg:w2.heap.size<=fg/\¬ tZ qn fg:=by
  rcases hsl3 fg rfl with h|h
  ·cases h
  ·exact h
 have hfl:=(hr3.lt fg rfl).2;have hql:=λi hi=>hq.hi i hi;refine ⟨{ p with rp:={ p.rp with tb:=w.heap.size,tv:=.slice none 0 0,tr:=[] },mb:=w1.heap.size },fg,fcap,qn,rfl,⟨⟨hR,?_,h3.fld,h3.img,hb3,hq,⟨λa b i ha hb=>?_,λa i ha=>?_⟩⟩,?_,trivial,List.Pairwise.nil,λa ha=>by simp at ha,λi hi=>⟨λhe=>?_,λa ha=>by simp at ha⟩⟩,rfl,x03,by omega,λa i ha hi=>?_⟩
 ·show (⟨p.rp.size,p.rp.ar.map pa,p.rp.tp,p.rp.ts,[]⟩:PS)=⟨r.ps.size,r.ps.ar,r.ps.tp,r.ps.ts,[]⟩;obtain ⟨e1,e2,e3,e4⟩:=h.rps;rw [e1,e2,e3,e4]
 ·have cls:∀ {a:Lb} {i:Nat},WR { p with rp:={ p.rp with tb:=w.heap.size,tv:=.slice none 0 0,tr:=[] },mb:=w1.heap.size } qn (BX X0 fg []) a i->(ZI p X0 a i/\i < w.heap.size)\/(a=.rm/\i=w.heap.size)\/(a=.mb/\i=w1.heap.size)\/(a=.fr/\tZ qn i/\w2.heap.size<=i)\/(a=.ex/\i=fg):=by
   intro a i hi;cases a with
   | rm=>
    rcases hi with hi|hi|hi
    ·exact .inl ⟨hi,old (a:=.rm) hi⟩
    ·exact .inr (.inl ⟨rfl,hi⟩)
    ·cases hi
   | mb=>exact .inr (.inr (.inl ⟨rfl,hi⟩))
   | fr=>exact .inr (.inr (.inr (.inl ⟨rfl,hi,hnew i hi⟩)))
   | ex=>
    rcases hi with hi|hi|⟨c,hc,_⟩
    ·exact .inl ⟨hi,old (a:=.ex) hi⟩
    ·exact .inr (.inr (.inr (.inr ⟨rfl,hi⟩)))
    ·simp at hc
   | im=>exact .inl ⟨hi,old (a:=.im) hi⟩
   | fo=>exact .inl ⟨hi,old (a:=.fo) hi⟩
   | fd=>exact .inl ⟨hi,old (a:=.fd) hi⟩
  rcases cls ha with ⟨ha,la⟩|⟨ea,ha⟩|⟨ea,ha⟩|⟨ea,ha,la⟩|⟨ea,ha⟩<;>rcases cls hb with ⟨hb,lb⟩|⟨eb,hb⟩|⟨eb,hb⟩|⟨eb,hb,lb⟩|⟨eb,hb⟩
  all_goals first|exact h.sep.dj a b i ha hb|(rw [ea,eb];done)|(exfalso;omega)|(exfalso;exact hfg.2 (hb▸ha))|(exfalso;exact hfg.2 (ha▸hb))
 ·cases a with
  | rm=>
   rcases ha with hi|hi|hi
   ·have:=old (a:=.rm) hi;omega
   ·have hi:i=w.heap.size:=hi;omega
   ·cases hi
  | mb=>have ha:i=w1.heap.size:=ha;omega
  | fr=>exact hql i ha
  | ex=>
   rcases ha with hi|hi|⟨c,hc,_⟩
   ·have:=old (a:=.ex) hi;omega
   ·rw [hi];exact hfl
   ·simp at hc
  | im=>have:=old (a:=.im) ha;omega
  | fo=>have:=old (a:=.fo) ha;omega
  | fd=>have:=old (a:=.fd) ha;omega
 ·exact hr3
 ·have:=old (a:=.ex) hi;omega
 ·cases a with
  | rm=>
   rcases hi with hi|hi|hi
   ·exact .inl ⟨.rm,(by intro e;cases e),hi⟩
   ·have hi:i=w.heap.size:=hi;exact .inr (by omega)
   ·cases hi
  | mb=>have hi:i=w1.heap.size:=hi;exact .inr (by omega)
  | fr=>have:=hnew i hi;exact .inr (by omega)
  | ex=>exact absurd rfl ha
  | im=>exact .inl ⟨.im,(by intro e;cases e),hi⟩
  | fo=>exact .inl ⟨.fo,(by intro e;cases e),hi⟩
  | fd=>exact .inl ⟨.fd,(by intro e;cases e),hi⟩
end
abbrev pt (b:Nat):Z:=.pointer (some ⟨b,0,none⟩)
abbrev nl:Z:=.slice none 0 0
def zV:List vI:=[⟨-1,3,0,false,.slice none 0 0,[]⟩,⟨-1,4,0,false,.slice none 0 0,[]⟩]
theorem yM:∀ a∈zV,a.dv=.slice none 0 0/\a.data=[]:=λa ha=>by
 simp only [zV,List.mem_cons,List.not_mem_nil,or_false] at ha;rcases ha with rfl|rfl<;>exact ⟨rfl,rfl⟩
theorem pC:∀ a∈zV,a.dv.ownBlock=none:=λa ha=>by rw [(yM a ha).1];rfl
theorem GM {w:O} {size:Int} (h1:64<=size) (h2:size<=4096):aB prog 73 #[i64 size] w λr w'=>(∃ hb,r=.tuple #[.pointer (some ⟨hb,0,none⟩),i64 0]/\w.heap.size < hb/\qD w' hb w.heap.size size w.heap.size 2 zV)/\aE w w':=by
 apply aOm;unfold RH;refine bP.2 ?_;simp only [show ¬ size < 64 by omega,jJ,mK,bR,reduceIte,Bool.false_eq_true,decide_false];simp only [show ¬ size > 4096 by omega,aD,decide_false];refine kO ZC [(0,i64 (-1)),(1,i64 3)] rfl rfl ?_;refine kO ZC [(0,i64 (-1)),(1,i64 4)] rfl rfl ?_;refine V.ok (v:=.slice (some ⟨w.heap.size,0,none⟩) 2 2) (w':=w.alloc (.cells (EW zV).toArray 127)) (by kernel_rfl) ?_;have hab:dW (w.alloc (.cells (EW zV).toArray 127)) w.heap.size (EW zV) 127:=by unfold dW;rw [heap_alloc_new]
 have hx1:aE w (w.alloc (.cells (EW zV).toArray 127)):=(aE.refl w).alloc _;generalize w.alloc (.cells (EW zV).toArray 127)=w1 at hab hx1 ⊢;refine kO aNj [(0,i64 size),(1,.slice (some ⟨w.heap.size,0,none⟩) 2 2)] rfl rfl ?_;refine QG λw2 hhb x2=>?_;have hl:=hab.lt;have hl2:=hhb.lt;refine ⟨⟨_,rfl,by omega,⟨hhb,rB (hab.ext x2) rfl (Nat.le_refl _) (by unfold maxLen;decide),λa ha=>?_,λa ha=>?_,λi j a b x hi _ hx=>?_,λa ha=>?_,by omega,by decide,by omega,λa ha=>?_⟩⟩,hx1.trans x2⟩
 ·rw [(yM a ha).1,(yM a ha).2];exact ⟨rfl,.inl ⟨rfl,rfl⟩⟩
 ·rw [(yM a ha).2];exact Nat.zero_le _
 ·rw [pC a (List.mem_of_getElem? hi)] at hx;cases hx
 iterate 2
  ·rw [pC a ha];exact λh=>by cases h
theorem EX {w:O} {size:Int} (h1:64<=size) (h2:size<=4096):aB prog 33 #[i64 size] w λr w'=>(∃ rb hb,r=.tuple #[pt rb,i64 0]/\w.heap.size < hb/\hb < rb/\dW w' rb [pt hb,nl,nl,nl,nl] 134/\qD w' hb w.heap.size size w.heap.size 2 zV)/\aE w w':=by
 apply aPa;unfold RT;refine (GM h1 h2).mono λr w1 ⟨⟨hb,hr,hbw,hh⟩,x1⟩=>?_;subst hr;refine gM.2 (gL.2 (dZ.2 ?_));simp only [ne_eq,not_true_eq_false,aD,decide_false];refine kO aNk [(0,.pointer (some ⟨hb,0,none⟩))] rfl rfl ?_;refine QG λw2 hrb x2=>?_;exact ⟨⟨_,hb,rfl,hbw,hh.heap.lt,hrb,hh.ext x2⟩,x1.trans x2⟩
def BR (p:jX):Lb->Nat->Prop
 | .rm,i=>wH p.rp i
 | .im,i=>p.IB i
 | .fo,i=>p.rp.fv.ownBlock=some i
 | .fd,i=>FdM p.vs i
 | .mb,i=>p.rp.iv.ownBlock=some i
 | _,_=>False
structure UO (l:List dN) (p:jX) (fd:List (List Int)) (B:Nat) (w:O):Prop where
 room:rR p.rp w
 iv:∃ cs,w.ownsRow 0 46 5 p.rp.iv l.length cs/\∀ (k:Nat) i,l[k]?=some i->∃ pk:fZ,(cs.drop (k*5)).take 5=pk.cells i/\vO p.IB w λw'=>gZ w' pk i
 fv:w.ownsRow 0 37 1 p.rp.fv fd.length p.vs
 row:∀ (k:Nat) v d,p.vs[k]?=some v->fd[k]?=some d->w.ownsRow 0 21 1 v d.length (d.map i32)
 dj:∀ (j k:Nat) u v i,p.vs[j]?=some u->p.vs[k]?=some v->u.ownBlock=some i->v.ownBlock=some i->j=k
 sep:Sep (BR p) w.heap.size
 ge:∀ a i,BR p a i->B<=i
 hB:B<=w.heap.size
section
variable {l:List dN} {p:jX} {fd:List (List Int)} {B:Nat} {w w':O}
theorem UO.ext (h:UO l p fd B w) (hx:aE w w'):UO l p fd B w':=by
 obtain ⟨cs,h1,h2⟩:=h.iv;refine ⟨h.room.ext hx,⟨cs,hx.own h1,λk i hk=>?_⟩,hx.own h.fv,λk v d hk hd=>hx.own (h.row k v d hk hd),h.dj,h.sep.step hx.size .ex λa i ha=>.inl ha,h.ge,Nat.le_trans h.hB hx.size⟩;obtain ⟨pk,h3,h4⟩:=h2 k i hk;exact ⟨pk,h3,h4.ext hx⟩
theorem TS {α:Type} {sz:Nat} {cs row:List Z} {l:List α} {k:Nat} {x:α} (hl:cs.length=l.length*sz) (hk:k < l.length):((cs++row).drop (k*sz)).take sz=(cs.drop (k*sz)).take sz:=by
 have h1:k*sz+sz<=cs.length:=by
  have:=Nat.mul_le_mul_right sz (show k+1<=l.length by omega);rw [Nat.add_mul,Nat.one_mul] at this;omega
 rw [List.drop_append_of_le_length (by omega),List.take_append_of_le_length (by rw [List.length_drop];omega)]
theorem aRy {w:O} {p:fZ} {i:dN} {K:Z->O->Prop} (h1:∃ a n c,p.fv=.slice a n c) (h2:∃ a n c,p.iv=.slice a n c) (h3:∃ a n c,p.mv=.slice a n c) (h4:∃ a n c,p.xv=.slice a n c)
  (hk:∀ w1,dW w1 w.heap.size (p.cells i) 46->aE w w1->K (.slice (some ⟨w.heap.size,0,none⟩) 1 1) w1):V prog (Instr.buildSlice 24 1 #[(0,p.val i)]) w K:=by
 obtain ⟨fv,iv,mv,xv⟩:=p;obtain ⟨a1,n1,c1,rfl⟩:=h1;obtain ⟨a2,n2,c2,rfl⟩:=h2;obtain ⟨a3,n3,c3,rfl⟩:=h3;obtain ⟨a4,n4,c4,rfl⟩:=h4;refine V.ok (v:=.slice (some ⟨w.heap.size,0,none⟩) 1 1) (w':=w.alloc (.cells (fZ.cells ⟨.slice a1 n1 c1,.slice a2 n2 c2,.slice a3 n3 c3,.slice a4 n4 c4⟩ i).toArray 46)) (by kernel_rfl) ?_;exact hk _ (by unfold dW;rw [heap_alloc_new]) ((aE.refl _).alloc _)
theorem qG.shapes {B:Nat} {p:fZ} {i:dN} (h:qG B w p i):(∃ a n c,p.fv=.slice a n c)/\(∃ a n c,p.iv=.slice a n c)/\(∃ a n c,p.mv=.slice a n c)/\∃ a n c,p.xv=.slice a n c:=by
 obtain ⟨h1,h2,⟨c1,h3,_⟩,c2,h5,_⟩:=h;obtain ⟨a1,b1,e1⟩:=(aA.of_own h1).shape;obtain ⟨a2,b2,e2⟩:=(aA.of_own h3).shape;obtain ⟨a3,b3,e3⟩:=(aA.of_own h5).shape;obtain ⟨a4,b4,e4⟩:=(aA.of_own h2).shape;exact ⟨⟨_,_,_,e1⟩,⟨_,_,_,e2⟩,⟨_,_,_,e3⟩,_,_,_,e4⟩
theorem OB (h:UO l p fd B w) (hl4:l.length < 4) (hfl:fd.length=l.length) {q:fZ} {i:dN} (hA:gZ w q i) (hi:i.right) :
  aB prog 35 #[sS p.rp,q.val i] w λrv w'=>∃ p',rv=.tuple #[i64 (l.length:Int),.bool true]/\UO (l++[i]) p' (fd++[List.replicate i.fields.length 0]) B w'/\p'.rp.rb=p.rp.rb/\p'.rp.ps=p.rp.ps/\Fr (λi=>∃ a,BR p a i) w w'/\∀ a i,BR p' a i->BR p a i\/w.heap.size<=i:=by
 have hfn:=hi.1.2;obtain ⟨cs,hiv,hrows⟩:=h.iv;have hBw:=h.hB;apply aOy;suffices key:∀ R:Z->O->Prop,(∀ p' w',UO (l++[i]) p' (fd++[List.replicate i.fields.length 0]) B w'->p'.rp.rb=p.rp.rb->p'.rp.ps=p.rp.ps->Fr (λi=>∃ a,BR p a i) w w'->(∀ a i,BR p' a i->BR p a i\/w.heap.size<=i)->R (.tuple #[i64 (l.length:Int),.bool true]) w')->EE (sS p.rp) (q.val i) w R from key _ λp' w' h1 h2 h3 h4 h5=>⟨p',rfl,h1,h2,h3,h4,h5⟩;intro R hR;unfold EE;refine QG λw1 hb x1=>?_;have hb:dW w1 w.heap.size (q.cells i) 46:=hb;have lb:=hb.lt;have rm1:=h.room.room.ext x1;obtain ⟨ia,ic,hie⟩:=(aA.of_own hiv).shape;refine ⟨.inl ⟨_,rfl⟩,?_⟩;refine nC bG gF rm1 rfl (hU EL (aA.of_own (x1.own hiv)) (jU.2 ?_));simp only [show ¬ (((l.length:Nat):Int)>=4) by omega,decide_false,aD];have D1:aE w1 w1.drew:=(aE.refl _).drew;have rbl:p.rp.rb < w.heap.size:=h.room.room.lt;have oldl:∀ {a:Lb} {i:Nat},BR p a i->i < w.heap.size:=λhi=>h.sep.lt _ _ hi;have ivrb:p.rp.iv.ownBlock≠some p.rp.rb:=λhe=>by cases h.sep.dj .mb .rm _ he (.inl rfl)
 have fvrb:p.rp.fv.ownBlock≠some p.rp.rb:=λhe=>by cases h.sep.dj .fo .rm _ he (.inl rfl)
 refine aJ.mk' (λw'=>Fr (λi=>p.rp.iv.ownBlock=some i) w1 w') (Fr.of_ext D1) ⟨.inl ⟨_,rfl⟩,?_⟩;refine yFS bG gF (λw' hw=>hw.seg rm1 ivrb) rfl ?_;refine yA (λw' hw=>(hw.blk hb λhe=>by have:=oldl (a:=.mb) he;omega).boxed) kF rfl ?_;refine (BP (hA.ext (x1.trans D1)) hi).mono λrv w2 ⟨p2,hrv,hO,x2⟩=>?_;subst hrv;have x12:=D1.trans x2;have s1:=x1.size;have sD:=D1.size;have s2:=x2.size;refine ⟨Fr.of_ext x12,?_⟩;obtain ⟨sh1,sh2,sh3,sh4⟩:=hO.shapes;refine aRy sh1 sh2 sh3 sh4 λw3 hb3 x3=>?_;have x13:=x12.trans x3;refine ⟨Fr.of_ext x13,?_⟩;have l3:=hb3.lt;have s3:=x3.size;have hiv3:=(x1.trans x13).own hiv;refine apZ underlying24 mF rfl (by omega) hiv3 (rB hb3 rfl (Nat.zero_le _) (by unfold maxLen;omega)) (by decide) hO.one (by omega) (by unfold maxLen;omega) (Nat.zero_le _) λg' cap' w4 ho4 hg4 hlies=>?_;have f4:Fr (λi=>p.rp.iv.ownBlock=some i) w3 w4:=Fr.of_grown hg4 λk hk=>hk;have f14:Fr (λi=>p.rp.iv.ownBlock=some i) w1 w4:=(Fr.of_ext (S:=λi=>p.rp.iv.ownBlock=some i) x13).trans f4 λ_ _ h=>h;refine ⟨f14,.inl ⟨_,rfl⟩,?_⟩;refine yFA bG ?_;have rm4:=f14.seg rm1 ivrb;refine sZ aJi rm4 (show 1 < 5 by decide) rfl ?_;have f5:Fr (λi=>i=p.rp.rb) w4 (w4.setCell ⟨p.rp.rb,0+1,none⟩ (.slice (some ⟨g',0,none⟩) (l.length+1) cap')):=Fr.of_set rfl;have rm5:=rm4.set (j:=1) (by simp) (.slice (some ⟨g',0,none⟩) (l.length+1) cap')
 have s4:=f4.size
 have hg':p.rp.iv.ownBlock=some g'\/w2.heap.size < g'/\g'=w3.heap.size:=by
  rcases hlies with hl|hl
  ·exact .inl hl
  ·exact .inr (by omega)
 have hgrb:g'≠p.rp.rb:=λhe=>by
  rcases hg' with h'|h'
  ·exact ivrb (he▸h')
  ·omega
 have ho5:=f5.own ho4 λi hi he=>hgrb ((show g'=i by simpa [Value.ownBlock] using hi).trans he);have hb5:dW (w4.setCell ⟨p.rp.rb,0+1,none⟩ (.slice (some ⟨g',0,none⟩) (l.length+1) cap')) w.heap.size (q.cells i) 46:=f5.blk (f14.blk hb λhe=>by have:=oldl (a:=.mb) he;omega) (by omega);generalize w4.setCell ⟨p.rp.rb,0+1,none⟩ (.slice (some ⟨g',0,none⟩) (l.length+1) cap')=w5 at f5 rm5 ho5 hb5 ⊢;have s5:=f5.size;have F15:Fr (λi=>i=p.rp.rb\/p.rp.iv.ownBlock=some i) w1 w5:=(f14.or f5).mono λi hi=>hi.symm;have rm5:oQ w5 p.rp.rb 0 [.pointer (some ⟨p.rp.hb,0,none⟩),.slice (some ⟨g',0,none⟩) (l.length+1) cap',p.rp.fv,p.rp.pub,p.rp.sec]:=rm5;have D5:aE w5 w5.drew:=(aE.refl _).drew
 have hfv5:=F15.own (x1.own h.fv) λi hi hs=>by
  rcases hs with hs|hs
  ·exact fvrb (hs▸hi)
  ·cases h.sep.dj .fo .mb _ hi hs
 refine aJ.mk' (λw'=>Fr (λi=>p.rp.fv.ownBlock=some i) w5 w') (Fr.of_ext D5) ⟨.inl ⟨_,rfl⟩,?_⟩;refine yFS bE eF (λw' hw=>hw.seg rm5 fvrb) rfl ?_;refine gY (λw' hw=>(hw.blk hb5 λhe=>by have:=oldl (a:=.fo) he;omega).boxed) eE bJ rfl ?_;obtain ⟨qa,qc,hqe⟩:=hA.fl.shape;rw [hqe];refine aC.ok (λw' _=>lU underlying42) ?_;refine aRf (n:=i.fields.length) rfl underlying37 oY rfl (by omega) (by omega) λw6 hb6 x6 hs6=>?_;have x56:=D5.trans x6;refine ⟨Fr.of_ext x56,?_⟩;refine iT CC [.slice (some ⟨w5.drew.heap.size,0,none⟩) i.fields.length i.fields.length] rfl rfl (by simp) rfl λv7 w7 ho7 x7=>?_;have x57:=x56.trans x7;refine ⟨Fr.of_ext x57,?_⟩;have sD5:=D5.size;have s6:=x6.size;have s7:=x7.size;refine apL CC (x57.own hfv5) ho7 (by decide) (by rfl) (by omega) (by unfold maxLen;omega) (Nat.zero_le _) λg2 cap2 w8 ho8 hg8 hlies8=>?_;have f8:Fr (λi=>p.rp.fv.ownBlock=some i) w7 w8:=Fr.of_grown hg8 λk hk=>hk;have f58:Fr (λi=>p.rp.fv.ownBlock=some i) w5 w8:=(Fr.of_ext (S:=λi=>p.rp.fv.ownBlock=some i) x57).trans f8 λ_ _ h=>h;refine ⟨f58,.inl ⟨_,rfl⟩,?_⟩;refine yFA bE ?_;have rm8:=f58.seg rm5 fvrb;refine sZ YC rm8 (show 2 < 5 by decide) rfl ?_;have f9:Fr (λi=>i=p.rp.rb) w8 (w8.setCell ⟨p.rp.rb,0+2,none⟩ (.slice (some ⟨g2,0,none⟩) (fd.length+1) cap2)):=Fr.of_set rfl;have rm9:=rm8.set (j:=2) (by simp) (.slice (some ⟨g2,0,none⟩) (fd.length+1) cap2)
 have s8:=f8.size
 have hg2:p.rp.fv.ownBlock=some g2\/w6.heap.size < g2/\g2=w7.heap.size:=by
  rcases hlies8 with hl|hl
  ·exact .inl hl
  ·have:=ho7.lt;refine .inr ⟨?_,hl⟩;have h7:=nX ho7 (by decide);obtain ⟨g7,_,e7⟩:=h7;have:=ho7.lt g7 (by rw [e7];rfl);omega
 have hg2rb:g2≠p.rp.rb:=λhe=>by
  rcases hg2 with h'|h'
  ·exact fvrb (he▸h')
  ·omega
 have ho9:=f9.own ho8 λi hi he=>hg2rb ((show g2=i by simpa [Value.ownBlock] using hi).trans he);have rm9:oQ (w8.setCell ⟨p.rp.rb,0+2,none⟩ (.slice (some ⟨g2,0,none⟩) (fd.length+1) cap2)) p.rp.rb 0 [.pointer (some ⟨p.rp.hb,0,none⟩),.slice (some ⟨g',0,none⟩) (l.length+1) cap',.slice (some ⟨g2,0,none⟩) (fd.length+1) cap2,p.rp.pub,p.rp.sec]:=rm9;generalize w8.setCell ⟨p.rp.rb,0+2,none⟩ (.slice (some ⟨g2,0,none⟩) (fd.length+1) cap2)=w9 at f9 rm9 ho9 ⊢;have s9:=f9.size;refine ⟨.inl ⟨_,rfl⟩,?_⟩;refine nC bG gF rm9 rfl (aDo.2 (iL.2 ?_));rw [show IntKind.i64.wrap (((l.length+1:Nat):Int) - 1)=(l.length:Int) from by rw [aU (by omega)];omega];have F59:Fr (λi=>i=p.rp.rb\/p.rp.fv.ownBlock=some i) w5 w9:=(f58.or f9).mono λi hi=>hi.symm
 have F19:Fr (λi=>i=p.rp.rb\/p.rp.iv.ownBlock=some i\/p.rp.fv.ownBlock=some i) w1 w9:=(F15.or F59).mono λi hi=>by
  rcases hi with (h|h)|h|h
  ·exact .inl h
  ·exact .inr (.inl h)
  ·exact .inl h
  ·exact .inr (.inr h)
 have F09:Fr (λi=>i=p.rp.rb\/p.rp.iv.ownBlock=some i\/p.rp.fv.ownBlock=some i) w w9:=(Fr.of_ext (S:=λi=>i=p.rp.rb\/p.rp.iv.ownBlock=some i\/p.rp.fv.ownBlock=some i) x1).trans F19 λ_ _ h=>h
 have no:∀ {a:Lb} {j:Nat},a≠.mb->a≠.fo->BR p a j->j≠p.rp.rb->¬ (j=p.rp.rb\/p.rp.iv.ownBlock=some j\/p.rp.fv.ownBlock=some j):=λ{a j} h1 h2 hj hr hs=>by
  rcases hs with hs|hs|hs
  ·exact hr hs
  ·exact h1 (h.sep.dj a .mb j hj hs)
  ·exact h2 (h.sep.dj a .fo j hj hs)
 have nrm:∀ {a:Lb} {j:Nat},a≠.rm->BR p a j->j≠p.rp.rb:=λ{a j} ha hj he=>ha (h.sep.dj a .rm j hj (.inl he));have hg'9:g' < w9.heap.size:=by have:=(ho5.lt g' rfl).2;omega
 have hg29:g2 < w9.heap.size:=(ho9.lt g2 rfl).2;have l6:=hb6.lt;have ho6:w6.ownsRow 0 21 1 (.slice (some ⟨w5.drew.heap.size,0,none⟩) i.fields.length i.fields.length) i.fields.length (List.replicate i.fields.length (i32 0)):=rB hb6 (by simp) (Nat.zero_le _) (by unfold maxLen;omega)
 have ho69:=f9.own (f8.own (x7.own ho6) λj hj hs=>by
   have hj:w5.drew.heap.size=j:=by simpa [Value.ownBlock] using hj
   have:=oldl (a:=.fo) hs;omega) λj hj hs=>by
   have hj:w5.drew.heap.size=j:=by simpa [Value.ownBlock] using hj
   omega
 have mu':∀ j,wH { p.rp with iv:=.slice (some ⟨g',0,none⟩) (l.length+1) cap',fv:=.slice (some ⟨g2,0,none⟩) (fd.length+1) cap2 } j↔wH p.rp j:=λj=>Iff.rfl
 have hO9:vO (λj=>w1.drew.heap.size<=j/\j < w2.heap.size) w9 λw'=>gZ w' p2 i:=by
  have d0:vO (λj=>w1.drew.heap.size<=j/\j < w2.heap.size) w2 λw'=>gZ w' p2 i:=(hO.dep.lt).imp λw' h=>h.at_;have d4:=(d0.ext x3).fr f4 λj hj hs=>by have:=oldl (a:=.mb) hs;omega
  have d5:=d4.fr f5 λj hj he=>by omega
  have d8:=(d5.ext x57).fr f8 λj hj hs=>by have:=oldl (a:=.fo) hs;omega
  exact d8.fr f9 λj hj he=>by omega
 have cls:∀ {a:Lb} {j:Nat},BR { p with rp:={ p.rp with iv:=.slice (some ⟨g',0,none⟩) (l.length+1) cap',fv:=.slice (some ⟨g2,0,none⟩) (fd.length+1) cap2 },vs:=p.vs++[.slice (some ⟨w5.drew.heap.size,0,none⟩) i.fields.length i.fields.length],IB:=λj=>p.IB j\/(w1.drew.heap.size<=j/\j < w2.heap.size) } a j ->
   (BR p a j/\j < w.heap.size)\/(a=.mb/\w2.heap.size < j/\j < w4.heap.size)\/(a=.fo/\w6.heap.size < j/\j < w9.heap.size)\/(a=.fd/\j=w5.drew.heap.size)\/(a=.im/\w1.drew.heap.size<=j/\j < w2.heap.size):=by
  intro a j hj;cases a with
  | rm=>exact .inl ⟨hj,oldl (a:=.rm) hj⟩
  | im=>
   rcases hj with hj|hj
   ·exact .inl ⟨hj,oldl (a:=.im) hj⟩
   ·exact .inr (.inr (.inr (.inr ⟨rfl,hj⟩)))
  | fo=>
   have hj:g2=j:=by simpa [BR,Value.ownBlock] using hj
   subst hj;rcases hg2 with h'|h'
   ·exact .inl ⟨h',oldl (a:=.fo) h'⟩
   ·exact .inr (.inr (.inl ⟨rfl,h'.1,hg29⟩))
  | fd=>
   obtain ⟨v,hv,hj⟩:=hj;rcases List.mem_append.1 hv with hv|hv
   ·exact .inl ⟨⟨v,hv,hj⟩,oldl (a:=.fd) ⟨v,hv,hj⟩⟩
   ·rw [List.mem_singleton] at hv;subst hv;have hj:w5.drew.heap.size=j:=by simpa [Value.ownBlock] using hj
    exact .inr (.inr (.inr (.inl ⟨rfl,hj.symm⟩)))
  | mb=>
   have hj:g'=j:=by simpa [BR,Value.ownBlock] using hj
   subst hj;rcases hg' with h'|h'
   ·exact .inl ⟨h',oldl (a:=.mb) h'⟩
   ·exact .inr (.inl ⟨rfl,h'.1,(ho4.lt g' rfl).2⟩)
  | fr=>exact hj.elim
  | ex=>exact hj.elim
 refine hR { p with rp:={ p.rp with iv:=.slice (some ⟨g',0,none⟩) (l.length+1) cap',fv:=.slice (some ⟨g2,0,none⟩) (fd.length+1) cap2 },vs:=p.vs++[.slice (some ⟨w5.drew.heap.size,0,none⟩) i.fields.length i.fields.length],IB:=λj=>p.IB j\/(w1.drew.heap.size<=j/\j < w2.heap.size) } w9 ⟨?_,?_,?_,λk v d hk hd=>?_,λj k u v x hj hk hu hv=>?_,?_,λa j hj=>?_,by omega⟩ rfl rfl (F09.mono λj hj=>?_) λa j hj=>?_
 ·-- the room's box, and the rest
  have H:=h.room;have F0:=F09;have nrb:∀ {j},wH p.rp j->j≠p.rp.rb->¬ (j=p.rp.rb\/p.rp.iv.ownBlock=some j\/p.rp.fv.ownBlock=some j):=λhm hr=>no (a:=.rm) (by intro e;cases e) (by intro e;cases e) hm hr
  exact ⟨rm9,H.h.frT F0 λj hs=>⟨λe=>nrb (.inr (.inl e)) (λe2=>H.lt (e2.symm.trans e)) hs,λe=>nrb (.inr (.inr (.inl e))) (λe2=>(H.fresh p.rp.rb (.inl rfl)).1 (e2.symm.trans e)) hs,λa ha e=>nrb (.inr (.inr (.inr (.inl ⟨a,ha,e⟩)))) (λe2=>(H.fresh p.rp.rb (.inl rfl)).2.1 a ha (e2▸e)) hs⟩,
   F0.own H.qp λj hj=>nrb (.inr (.inr (.inr (.inr (.inl hj))))) λe=>(H.fresh p.rp.rb (.inl rfl)).2.2.1 (e▸hj),F0.own H.qs λj hj=>nrb (.inr (.inr (.inr (.inr (.inr hj))))) λe=>(H.fresh p.rp.rb (.inl rfl)).2.2.2 (e▸hj),H.lp,H.ls,H.ne,H.np,H.ns,H.gp,H.gs,H.lt,H.fresh,H.two,H.sz,H.bytes⟩
 ·refine ⟨cs++p2.cells i,?_,λk x hk=>?_⟩
  ·have:=f9.own (f58.own ho5 λj hj hs=>?_) λj hj he=>?_
   ·simpa using this
   ·have hj:g'=j:=by simpa [Value.ownBlock] using hj
    subst hj;rcases hg' with h'|h'
    ·cases h.sep.dj .mb .fo _ h' hs
    ·have:=oldl (a:=.fo) hs;omega
   ·have hj:g'=j:=by simpa [Value.ownBlock] using hj
    exact hgrb (hj.trans he)
  ·by_cases hkl:k < l.length
   ·rw [List.getElem?_append_left hkl] at hk;obtain ⟨pk,e1,e2⟩:=hrows k x hk;refine ⟨pk,by rw [TS (l:=l) (x:=x) hiv.1 hkl];exact e1,?_⟩;have d1:=e2.fr F09 λj hj hs=>no (a:=.im) (by intro e;cases e) (by intro e;cases e) hj (nrm (a:=.im) (by intro e;cases e) hj) hs;exact d1.mono λj _ hj=>.inl hj
   ·have hkk:k=l.length:=by have:=(List.getElem?_eq_some_iff.1 hk).1;simp at this;omega
    subst hkk;rw [List.getElem?_concat_length] at hk;cases hk;refine ⟨p2,?_,hO9.mono λj _ hj=>.inr hj⟩;rw [<- hiv.1,List.drop_left];rfl
 ·simpa using ho9
 ·by_cases hkl:k < fd.length
  ·rw [List.getElem?_append_left hkl] at hd;have hlv:p.vs.length=fd.length:=by have:=h.fv.1;omega
   rw [List.getElem?_append_left (by omega)] at hk;have hm:=List.mem_of_getElem? hk;exact F09.own (h.row k v d hk hd) λj hj hs=>no (a:=.fd) (by intro e;cases e) (by intro e;cases e) ⟨v,hm,hj⟩ (nrm (a:=.fd) (by intro e;cases e) ⟨v,hm,hj⟩) hs
  ·have hkk:k=fd.length:=by have:=(List.getElem?_eq_some_iff.1 hd).1;simp at this;omega
   subst hkk;have hlv:p.vs.length=fd.length:=by have:=h.fv.1;omega
   rw [List.getElem?_concat_length] at hd;rw [<- hlv,List.getElem?_concat_length] at hk;cases hd;cases hk;simpa using ho69
 ·have hlv:p.vs.length=fd.length:=by have:=h.fv.1;omega
  have cls:∀ {j:Nat} {u:Z},(p.vs++[Value.slice (some ⟨w5.drew.heap.size,0,none⟩) i.fields.length i.fields.length])[j]?=some u->(p.vs[j]?=some u)\/(j=p.vs.length/\u=Value.slice (some ⟨w5.drew.heap.size,0,none⟩) i.fields.length i.fields.length):=λ{j u} hj=>by
   by_cases hjl:j < p.vs.length
   ·rw [List.getElem?_append_left hjl] at hj;exact .inl hj
   ·have hjj:j=p.vs.length:=by have:=(List.getElem?_eq_some_iff.1 hj).1;simp at this;omega
    subst hjj;rw [List.getElem?_concat_length] at hj;exact .inr ⟨rfl,(Option.some.inj hj).symm⟩
  rcases cls hj with hj|⟨hj,rfl⟩<;>rcases cls hk with hk|⟨hk,rfl⟩
  ·exact h.dj j k u v x hj hk hu hv
  ·have:=oldl (a:=.fd) ⟨u,List.mem_of_getElem? hj,hu⟩;have hv:w5.drew.heap.size=x:=by simpa [Value.ownBlock] using hv
   omega
  ·have:=oldl (a:=.fd) ⟨v,List.mem_of_getElem? hk,hv⟩;have hu:w5.drew.heap.size=x:=by simpa [Value.ownBlock] using hu
   omega
  ·omega
 ·-- apart
  refine ⟨λa b j ha hb=>?_,λa j ha=>?_⟩
  ·rcases cls ha with ⟨ha,la⟩|⟨ea,la,lb⟩|⟨ea,la,lb⟩|⟨ea,ha⟩|⟨ea,la,lb⟩<;>rcases cls hb with ⟨hb,ma⟩|⟨eb,ma,mb⟩|⟨eb,ma,mb⟩|⟨eb,hb⟩|⟨eb,ma,mb⟩
   all_goals first|exact h.sep.dj a b j ha hb|(rw [ea,eb];done)|(exfalso;omega)
  ·rcases cls ha with ⟨_,_⟩|⟨_,_⟩|⟨_,_⟩|⟨_,_⟩|⟨_,_⟩<;>omega
 ·have old:=λhx=>h.ge a j hx;cases a with
  | rm=>exact h.ge .rm j hj
  | im=>
   rcases hj with hj|hj
   ·exact h.ge .im j hj
   ·omega
  | fo=>
   have hj:g2=j:=by simpa [BR,Value.ownBlock] using hj
   subst hj;rcases hg2 with h'|h'
   ·exact h.ge .fo _ h'
   ·omega
  | fd=>
   obtain ⟨v,hv,hj⟩:=hj;rcases List.mem_append.1 hv with hv|hv
   ·exact h.ge .fd j ⟨v,hv,hj⟩
   ·rw [List.mem_singleton] at hv;subst hv;have hj:w5.drew.heap.size=j:=by simpa [Value.ownBlock] using hj
    omega
  | mb=>
   have hj:g'=j:=by simpa [BR,Value.ownBlock] using hj
   subst hj;rcases hg' with h'|h'
   ·exact h.ge .mb _ h'
   ·omega
  | fr=>exact hj.elim
  | ex=>exact hj.elim
 ·rcases hj with hj|hj|hj
  ·rw [hj];exact ⟨.rm,.inl rfl⟩
  ·exact ⟨.mb,hj⟩
  ·exact ⟨.fo,hj⟩
 ·rcases cls hj with ⟨hj,_⟩|⟨_,h2,_⟩|⟨_,h2,_⟩|⟨_,h2⟩|⟨_,h2,_⟩
  ·exact .inl hj
  all_goals exact .inr (by omega)
end
def RM2 (q:QP) (i:Nat):Prop:=i=q.xb\/i=q.yb
structure aUi (q:QP) (w:O):Prop where
 xbox:oQ w q.xb 0 [pt q.yb,q.iv,q.fv,q.pub,q.sec]
 ybox:dW w q.yb [i64 q.size,.slice (some ⟨q.g,0,none⟩) q.ar.length q.cap] 156
 list:w.ownsRow 0 127 5 (.slice (some ⟨q.g,0,none⟩) q.ar.length q.cap) q.ar.length (EW q.ar)
 data:∀ a∈q.ar,w.ownsRow 0 5 1 a.dv a.data.length (a.data.map u8)
 len:∀ a∈q.ar,a.data.length<=64
 qp:w.ownsRow 0 5 1 q.pub q.tp.length (q.tp.map u8)
 qs:w.ownsRow 0 5 1 q.sec q.ts.length (q.ts.map u8)
 lp:q.tp.length<=128
 ls:q.ts.length<=128
 xy:q.xb≠q.yb
 dj:∀ i,RM2 q i->¬ RCo q i
 two:2<=q.ar.length
 cnt:q.ar.length<=1000
 sz:0<=q.size/\q.size<=1000
def BQ (q:QP) (vs:List Z):Lb->Nat->Prop
 | .rm,i=>RM2 q i\/RCo q i
 | .fo,i=>q.fv.ownBlock=some i
 | .fd,i=>FdM vs i
 | .mb,i=>q.iv.ownBlock=some i
 | _,_=>False
structure RBd (l:List (fZ × dN)) (q:QP) (vs:List Z) (fd:List (List Int)) (B:Nat) (w:O):Prop where
 ref:aUi q w
 iv:∃ cs,w.ownsRow 0 46 5 q.iv l.length cs/\cs.all gO=true/\∀ (k:Nat) x,l[k]?=some x->(cs.drop (k*5)).take 5=x.1.cells x.2
 one:vs.all gO=true
 fv:w.ownsRow 0 37 1 q.fv fd.length vs
 row:∀ (k:Nat) v d,vs[k]?=some v->fd[k]?=some d->w.ownsRow 0 21 1 v d.length (d.map i32)
 djv:∀ (j k:Nat) u v i,vs[j]?=some u->vs[k]?=some v->u.ownBlock=some i->v.ownBlock=some i->j=k
 sep:Sep (BQ q vs) w.heap.size
 ge:∀ a i,BQ q vs a i->B<=i
 hB:B<=w.heap.size
section
variable {q:QP} {vs:List Z} {fd:List (List Int)} {B:Nat} {w w':O} {K:Z->O->Prop} {l:List (fZ × dN)}
end
section
variable {q:QP} {w w':O} {K:Z->O->Prop}
structure aWw (q q':QP) (w w':O):Prop where
 pe:q'.xb=q.xb/\q'.yb=q.yb/\q'.size=q.size/\q'.iv=q.iv/\q'.fv=q.fv
 mu:∀ i,RCo q' i->RCo q i\/w.heap.size<=i
 fr:Fr (RM2 q) w w'
end
section
variable {l:List dN} {p:jX} {q:QP} {vs:List Z} {fd:List (List Int)} {B:Nat} {w w':O}
end
structure Two (l:List (fZ × dN)) (p:jX) (q:QP) (vs:List Z) (fd:List (List Int)) (B:Nat) (w:O):Prop where
 kO:UO (l.map (·.2)) p fd B w
 rbd:RBd l q vs fd B w
 no:∀ a b i,BR p a i->¬ BQ q vs b i
 hp:p.rp.ps=⟨p.rp.size,zV.map pa,[],[],p.rp.tr⟩
 hq:q.ps=⟨p.rp.size,zV.map pa,[],[],q.tr⟩
 fz:fd=l.map λx=>List.replicate x.2.fields.length 0
 one:∀ i,p.rp.B<=i->B<=i
theorem PE {w:O} {B e sz n g cap:Nat} {xs:List Z} (h:w.ownsRow B e sz (.slice (some ⟨g,0,none⟩) n cap) n xs):oQ w g 0 xs:=by
 obtain ⟨hl,h⟩:=h;rcases h with ⟨h,_⟩|⟨g',cap',cur,e1,hB,hb,hc,hm,hs,ht⟩
 ·cases h
 ·cases e1;refine ⟨cur,e,_,hb,?_,.inl rfl,λj v hj=>?_⟩
  ·have:=Nat.mul_le_mul_right sz hc;rw [hl];omega
  ·rw [<- ht] at hj;rw [List.getElem?_take] at hj;split at hj
   ·rw [Nat.zero_add];simpa using hj
   ·cases hj
def zs (l:List (fZ × dN)):List (List Int):=l.map λx=>List.replicate x.2.fields.length 0
def ps0 (size:Int):PS:=⟨size,zV.map pa,[],[],[]⟩
def rm0 (l:List (fZ × dN)) (size:Int) (a b:List Int):Rm:=⟨(VT (ps0 size) a b).2,zs l⟩
structure Rms (l:List (fZ × dN)) (size:Int) (a b:List Int) (B:Nat) (p:jX) (q:QP) (vs:List Z) (w:O):Prop where
 rms:ZT (l.map (·.2)) (λ_=>False) p (rm0 l size a b) w
 rbd:RBd l q vs (zs l) B w
 no:∀ x y i,ZI p (λ_=>False) x i->¬ BQ q vs y i
 ge:∀ x i,ZI p (λ_=>False) x i->B<=i
 qs:q.ps=(VT (ps0 size) a b).2
structure aWs (l:List (fZ × dN)) (size:Int) (B:Nat) (p:jX) (q:QP) (vs:List Z) (w:O):Prop where
 kO:UO (l.map (·.2)) p (zs l) B w
 rbd:RBd l q vs (zs l) B w
 no:∀ a b i,BR p a i->¬ BQ q vs b i
 hp:p.rp.ps=ps0 size
 hq:q.ps=ps0 size
theorem aTy {w2:O} {rb hb B:Nat} {size:Int} (h1:B < hb) (h2:hb < rb) (hrb:dW w2 rb [pt hb,nl,nl,nl,nl] 134) (hh:qD w2 hb B size B 2 zV) (h6:B<=w2.heap.size) (z1:64<=size) (z2:size<=1000) :
  UO [] ⟨⟨rb,hb,B,B,2,0,size,zV,nl,nl,nl,nl,nl,[],[],[]⟩,0,[],λ_=>False,0⟩ [] B w2/\∀ a i,BR ⟨⟨rb,hb,B,B,2,0,size,zV,nl,nl,nl,nl,nl,[],[],[]⟩,0,[],λ_=>False,0⟩ a i->a=.rm/\(i=rb\/i=hb\/i=B):=by
 have nob:∀ i,nl.ownBlock≠some i:=λi h=>by cases h
 have l1:=hrb.lt;have l4:=hh.heap.lt
 have mp:∀ i,wH ⟨rb,hb,B,B,2,0,size,zV,nl,nl,nl,nl,nl,[],[],[]⟩ i->i=rb\/i=hb\/i=B:=λi hi=>by
  rcases hi with hi|hi|hi|⟨a,ha,hi⟩|hi|hi
  ·exact .inl hi
  ·exact .inr (.inl hi)
  ·exact .inr (.inr hi)
  ·rw [pC a ha] at hi;cases hi
  iterate 2
   ·cases hi
 have bp:∀ a i,BR ⟨⟨rb,hb,B,B,2,0,size,zV,nl,nl,nl,nl,nl,[],[],[]⟩,0,[],λ_=>False,0⟩ a i->a=.rm/\(i=rb\/i=hb\/i=B):=λa i hi=>by
  cases a with
  | rm=>exact ⟨rfl,mp i hi⟩
  | fd=>obtain ⟨v,hv,_⟩:=hi;simp at hv
  | fo=>cases hi
  | mb=>cases hi
  | im=>exact hi.elim
  | fr=>exact hi.elim
  | ex=>exact hi.elim
 have d0:∀ a∈zV,a.data=[]:=λa ha=>(yM a ha).2
 exact ⟨⟨⟨hrb.seg,hh,World.ownsRow_nil _ _ _ _,World.ownsRow_nil _ _ _ _,Nat.zero_le _,Nat.zero_le _,λx hx=>absurd hx (nob x),λa ha x hx=>(by rw [pC a ha] at hx;cases hx),λa ha x hx=>(by rw [pC a ha] at hx;cases hx),nob _,nob _,(by show rb≠hb;omega),λx hx=>⟨(by
   have hx:x=rb\/x=hb:=hx;show x≠B;omega),λa ha=>(by rw [pC a ha];intro e;cases e),nob _,nob _⟩,(by show 2<=zV.length;decide),⟨(by show 0<=size;omega),z2⟩,λa ha=>(by rw [d0 a ha];intro b hb;simp at hb)⟩,
   ⟨[],World.ownsRow_nil _ _ _ _,λk i hk=>(by simp at hk)⟩,World.ownsRow_nil _ _ _ _,λk v d hk=>(by simp at hk),λj k u v i hj=>(by simp at hj),⟨λa b i ha hb=>(bp a i ha).1.trans (bp b i hb).1.symm,λa i ha=>(by have:=(bp a i ha).2;omega)⟩,λa i ha=>(by have:=(bp a i ha).2;omega),h6⟩,bp⟩
end Go.Proofs.YtgkkecladbmjkaaGreatDoor
namespace Go.Proofs.YtgkkecladbmjkaaGreatDoor
open Tryz
open Go.Vc Go.Tc
variable {w:O} {K:Z->O->Prop}
variable {n:Int} {rv:Z} {i:dN}
theorem aDd {rl:List Rw} (hr:iE w rv rl) (hb:nO w) (hT:mS w) (rn:rl.length=0)
  (hk:∀ p i w',gZ w' p i->jL w' i->i.rg->i.methods.length=3->(∀ m∈i.methods,m.code.length<=700000)->(∀ w'',Fr (λk=>k < w.heap.size) w' w''->mS w''->gZ w'' p i/\jL w'' i)->(∃ cs:List Z,∀ w'',Fr (λk=>k < w.heap.size) w' w''->aA w'' p.mv 4 i.methods.length cs/\∀ (k:Nat) (x:gA),i.methods[k]?=some x->iO w'' ((cs.drop (k*4)).take 4) x)->aE w w'->(∃ s n1 n2,i=QM s n1 n2)->K (p.val i) w'):aB prog 38 #[i64 n,rv] w K:=
 QN hr hb hT (by omega) λp i w' a b c d e f g x z=>hk p i w' a b c d e f g x (z rn)
theorem aTl:∃ s,lK i ⟨[],0,[1,2,3,4],[⟨39,0,0⟩]⟩ (some s):=
 ⟨⟨[[]],[true],[false]⟩,.inr ⟨λx hx=>(by
   rw [List.mem_singleton] at hx;subst hx;unfold fI;simp),.go (pc:=0) (s':=⟨[[]],[true],[false]⟩) (by kernel_rfl) (by kernel_rfl) (.done (by kernel_rfl))⟩⟩
theorem aTk:∃ s,lK i ⟨[1,2],2,[1,2,3,4],[⟨2,1,0⟩,⟨39,0,0⟩]⟩ (some s):=
 ⟨⟨[[],[2]],[true,true],[false,false]⟩,.inr ⟨λx hx=>(by
   simp only [List.mem_cons,List.not_mem_nil,or_false] at hx;rcases hx with rfl|rfl<;>unfold fI<;>simp [gA.locs]),.go (pc:=0) (s':=⟨[[],[2]],[true,true],[false,true]⟩) (by kernel_rfl) (by kernel_rfl) (.go (pc:=1) (s':=⟨[[],[2]],[true,true],[false,false]⟩) (by kernel_rfl) (by kernel_rfl) (.done (by kernel_rfl)))⟩⟩
theorem aTj:∃ s,lK i ⟨[4,3],3,[1,2],[⟨2,1,0⟩,⟨39,0,0⟩]⟩ (some s):=
 ⟨⟨[[],[3]],[true,true],[false,false]⟩,.inr ⟨λx hx=>(by
   simp only [List.mem_cons,List.not_mem_nil,or_false] at hx;rcases hx with rfl|rfl<;>unfold fI<;>simp [gA.locs]),.go (pc:=0) (s':=⟨[[],[3]],[true,true],[false,true]⟩) (by kernel_rfl) (by kernel_rfl) (.go (pc:=1) (s':=⟨[[],[3]],[true,true],[false,false]⟩) (by kernel_rfl) (by kernel_rfl) (.done (by kernel_rfl)))⟩⟩
theorem NZ (s n1 n2:ByteArray):lL (QM s n1 n2):=by
 refine ⟨⟨⟨?_,by show (4:Int)<=8;decide⟩,⟨by show 2<=4;decide,λx hx=>?_⟩,⟨⟨by show 1<=3;decide,by show 3<=8;decide⟩,λm hm=>?_,rfl,rfl⟩,by show 2<=4;decide,λn hn=>?_⟩,λm hm=>?_⟩
 ·show lM [1,2,3,4];unfold lM;decide
 ·have hx:x∈[(⟨n1,0,[1,2],2⟩:uO),⟨n2,1,[4,3],3⟩]:=hx;simp only [List.mem_cons,List.not_mem_nil,or_false] at hx;rcases hx with rfl|rfl
  ·refine ⟨(by show (0:Int)<=0/\(0:Int) < 4;decide),⟨?_,(by show (2:Int)<=4;decide)⟩,(by show (0:Int)<=2/\(2:Int)<=4;decide)⟩;show lM [1,2];unfold lM;decide
  ·refine ⟨(by show (0:Int)<=1/\(1:Int) < 4;decide),⟨?_,(by show (2:Int)<=4;decide)⟩,(by show (0:Int)<=3/\(3:Int)<=4;decide)⟩;show lM [4,3];unfold lM;decide
 ·have hm:m∈[(⟨[],0,[1,2,3,4],[⟨39,0,0⟩]⟩:gA),⟨[1,2],2,[1,2,3,4],[⟨2,1,0⟩,⟨39,0,0⟩]⟩,⟨[4,3],3,[1,2],[⟨2,1,0⟩,⟨39,0,0⟩]⟩]:=hm;simp only [List.mem_cons,List.not_mem_nil,or_false] at hm;rcases hm with rfl|rfl|rfl<;>(unfold gA.right oC lM gN.right zO;decide)
 ·have hn:n∈[(1:Int),2]:=hn;show 0<=n/\n < (3:Int);simp only [List.mem_cons,List.not_mem_nil,or_false] at hn;omega
 ·have hm:m∈[(⟨[],0,[1,2,3,4],[⟨39,0,0⟩]⟩:gA),⟨[1,2],2,[1,2,3,4],[⟨2,1,0⟩,⟨39,0,0⟩]⟩,⟨[4,3],3,[1,2],[⟨2,1,0⟩,⟨39,0,0⟩]⟩]:=hm;simp only [List.mem_cons,List.not_mem_nil,or_false] at hm;rcases hm with rfl|rfl|rfl
  ·exact aTl
  ·exact aTk
  ·exact aTj
theorem aUb (hr:iE w rv []) (hb:nO w) (hT:mS w) (hk:∀ p i w',sQ w.heap.size w' p i->lL i->aE w w'->K (p.val i) w'):aB prog 38 #[i64 n,rv] w K:=
 aDd hr hb hT rfl λp i w' _ _ h3 h4 h5 h7 h8 h6 h9=>hk p i w' ⟨λw'' f hT''=>⟨(h7 w'' f hT'').1,(h7 w'' f hT'').2,h3,h4,λm hm=>Nat.le_trans (h5 m hm) (by decide)⟩,h8⟩ (by obtain ⟨a,b,c,rfl⟩:=h9;exact NZ a b c) h6
theorem GY {v:Z} {ll:List (List Rw)} (h:rH w v ll) (hb:nO w) (hT:mS w) (hk:∀ v' l w',wJ w' v' l->l.length=min ll.length 3->(∀ x∈l,∀ w'',Fr (λk=>k < w.heap.size) w' w''->mS w''->Apl w'' x.1 x.2)->aE w w'->K v' w'):aB prog 8 #[v] w K:=by
 apply aJt;unfold OK;refine ⟨λt v w'=>∃ (j:Nat) (l:List (fZ × dN)),v=i64 j/\j<=ll.length/\j<=3/\l.length=j/\aE w w'/\w'.ownsRow w.heap.size 46 5 t l.length (GK l)/\∀ x∈l,(∀ w'',Fr (λk=>t.ownBlock=some k\/k < w.heap.size) w' w''->mS w''->Apl w'' x.1 x.2)/\lL x.2,λ_ v _=>3 - (RowKit.intOf v).toNat,⟨0,[],rfl,Nat.zero_le _,Nat.zero_le _,rfl,aE.refl _,World.ownsRow_nil _ _ _ _,λ_ h=>by simp at h⟩,?_⟩;rintro tv _ w1 ⟨j,l,rfl,hj,hj3,hlj,x1,ho,hl⟩ _;obtain ⟨vs,hvs,hvl⟩:=h.ext x1
 have hb1:∀ {w'},aE w w'->nO w':=λhx q hq=>by
  obtain ⟨z,hz⟩:=hb q hq;exact ⟨z,hx.cell hz⟩
 refine hU OP hvs (bP.2 ?_);by_cases c0:(j:Int) < (ll.length:Int)/\(j:Int) < 3
 case neg=>
  have fin:K tv w1:=hk tv l w1 ⟨GK l,aA.of_own ho,λk x hx=>⟨_,GJ hx,rfl,(hl x (List.mem_of_getElem? hx)).1 _ (Fr.refl _ _) (hT.ext x1),(hl x (List.mem_of_getElem? hx)).2⟩⟩ (by omega) (λx hx w'' f hT''=>(hl x hx).1 w'' (f.mono λk hk=>.inr hk) hT'') x1;by_cases c1:(j:Int) < (ll.length:Int)
  ·have c2:¬ (j:Int) < 3:=λhc=>c0 ⟨c1,hc⟩;simp only [c1,c2,aN];exact fin
  ·simp only [c1,aN];exact fin
 obtain ⟨c1,c2⟩:=c0;simp only [c1,c2,aN];obtain ⟨rl,hrl⟩:=fQ (l:=ll) (j:=j) (by omega);obtain ⟨ru,hru,hrr,hrn⟩:=hvl j rl hrl;refine kP OP oB hvs (by omega) (by omega) (by simpa using hru) ?_;refine aSb hrr (hb1 x1) (hT.ext x1) hrn λp2 i2 w2 ha2 hc2 x2=>?_;have hone:=(ha2.now (hT.ext (x1.trans x2))).one;refine UP OW rfl hone λw3 hB3 x3=>?_;have hB3:dW w3 w2.heap.size (p2.cells i2) 46:=hB3;have s2:=x2.size;have x13:=x2.trans x3;have hg:w1.heap.size<=w2.heap.size:=s2;have ha3:=ha2.ext x3;generalize w2.heap.size=g at *;clear ha2 x2 x3 s2 hone hc2;have hT1:∀ {w'},aE w1 w'->mS w':=λhx=>hT.ext (x1.trans hx);refine ⟨λw'=>∃ p i,dW w' g (fZ.cells p i) 46/\sQ w1.heap.size w' p i/\aE w1 w'/\lL i,?_,?_⟩
 ·refine lF (dW.boxed hB3) kF rfl ?_;have hA3:=ha3.now (hT1 x13);refine sW (p:=p2) (i:=i2) hA3.at_ hA3.nm λa b e w4 he4 x4=>?_;refine gM.2 (gL.2 ?_);refine pX ER rfl rfl λb5 w5 _ x5=>?_;have x45:=x4.trans x5;have hB5:=hB3.ext x45;have ha5:=ha3.ext x45;have x15:=x13.trans x45;refine dZ.2 (aK (λhne=>?_) λheq=>⟨p2,i2,hB5,ha5,x15,he4.1 (by omega)⟩);have D1:aE w5 w5.drew:=(aE.refl _).drew;have x1d:=x15.trans D1;have hrrd:=hrr.ext x1d;obtain ⟨u6,r6,hs6⟩:=iE.part underlying99 xT hrrd (lo:=none) (hi':=some (.int .i64 ((rl.length / 2:Nat):Int))) (a:=0) (b:=rl.length / 2) (.inl ⟨rfl,rfl⟩) (.inr rfl) (by omega) (by omega);refine aJ.mk' (λw'=>aE w5.drew w') (aE.refl _) ?_;refine lT OP oB (hvs.ext x1d) (λ_ h=>h) (by omega) (by omega) (by simpa using hru) ?_;refine lT OP oB (hvs.ext x1d) (λ_ h=>h) (by omega) (by omega) (by simpa using hru) ?_;refine aPr qI hrrd ?_;refine aC.ok (λw' _=>WB (by decide)) ?_
  have e2:IntKind.i64.wrap (((rl.length:Nat):Int).tdiv 2)=((rl.length / 2:Nat):Int):=by
   rw [Int.tdiv_eq_ediv_of_nonneg (by omega),aU (by omega)];rfl
  rw [e2];refine aC.ok (λw' _=>r6 _) ?_;refine aSb hs6 (hb1 (x1.trans x1d)) (hT.ext (x1.trans x1d)) (by simp;omega) λp7 i7 w7 ha7 _ x7=>⟨x7,?_⟩;have x17:=x1d.trans x7;have hgd:g < w5.drew.heap.size:=(hB5.ext D1).lt;have s1d:=x1d.size;refine stA mF (hB5.ext (D1.trans x7)) (l:=p7.cells i7) rfl rfl rfl (ha7.now (hT1 x17)).one λw8 hB8 hc8=>?_;have x18:aE w1 w8:=hc8.ext _ x17 hg;have ha8:sQ w1.heap.size w8 p7 i7:=ha7.chg (qW hc8) hgd s1d;refine lF (dW.boxed hB8) kF rfl ?_;have hA8:=ha8.now (hT1 x18);refine sW (p:=p7) (i:=i7) hA8.at_ hA8.nm λa b e w9 he9 x9=>?_;refine gM.2 (gL.2 ?_);refine pX ER rfl rfl λb10 w10 _ x10=>?_;have x910:=x9.trans x10;refine dZ.2 (aK (λhne2=>?_) λheq=>⟨p7,i7,hB8.ext x910,ha8.ext x910,x18.trans x910,he9.1 (by omega)⟩);have x1A:=x18.trans x910;refine aUb ⟨⟨none,0,rfl⟩,λh=>by simp at h⟩ (hb1 (x1.trans x1A)) (hT.ext (x1.trans x1A)) λp11 i11 w11 ha11 ht11 x11=>?_;have hgA:g < w10.heap.size:=(hB8.ext x910).lt;have s1A:=x1A.size;refine stA mF (hB8.ext (x910.trans x11)) (l:=p11.cells i11) rfl rfl rfl (ha11.now (hT1 (x1A.trans x11))).one λw12 hB12 hc12=>?_;exact ⟨p11,i11,hB12,ha11.chg (qW hc12) hgA s1A,hc12.ext _ (x1A.trans x11) hg,ht11⟩
 rintro w4 ⟨p,i,hB,ha,x14,ht⟩ _;refine lF (dW.boxed hB) kF rfl ?_;have hA:=ha.now (hT1 x14);refine sW (p:=p) (i:=i) hA.at_ hA.nm λa b e w5 he x5=>?_;refine gM.2 (gL.2 ?_);refine pX ER rfl rfl λb6 w6 _ x6=>?_;have x46:=x5.trans x6;have x16:=x14.trans x46;refine aO.2 (aK (λhz=>?_) λhz=>?_)
 ·refine lF (dW.boxed (hB.ext x46)) kF rfl ?_;refine vM underlying24 mF rfl (by decide) [.agg (p.cells i).toArray] rfl rfl (by intro v hv;rw [List.mem_singleton] at hv;subst hv;rfl) (by decide) (by decide) λv7 w7 ho7 x7=>?_;have s7:=(x1.trans (x16.trans x7)).size;have hone7:([Value.agg (p.cells i).toArray].flatMap λv=>v.cells.toList).all gO=true:=by simpa [Value.cells] using hA.one
  refine apG underlying24 mF rfl (by decide) ((x16.trans x7).own ho) (aA.of_own ho7) hone7 (by omega) (by unfold maxLen;omega) s7 λv8 w8 ho8 hg8 hl8=>?_;have x18:aE w w8:=(x1.trans (x16.trans x7)).grown hg8 λk hk=>(ho.lt k hk).1;refine mJ (by omega) ?_;refine ⟨⟨j+1,l++[(p,i)],rfl,by omega,by omega,by simp;omega,x18,?_,λx hx=>?_⟩,by simp only [aW];omega⟩
  ·have e1:GK (l++[(p,i)])=GK l++([Value.agg (p.cells i).toArray].flatMap λv=>v.cells.toList):=by simp [GK,Value.cells]
   rw [e1,List.length_append];exact ho8
  ·have f8:Fr (λk=>tv.ownBlock=some k) w7 w8:=Fr.of_grown hg8 λk hk=>hk;have x17:=x16.trans x7;have s17:=x17.size
   have f78:∀ {w''},Fr (λk=>v8.ownBlock=some k\/k < w.heap.size) w8 w''->Fr (λk=>tv.ownBlock=some k\/k < w.heap.size) w7 w'':=λf=>(f8.mono λk hk=>.inl hk).trans f λk hk hk'=>by
    rcases hk' with hk'|hk'
    ·rcases hl8 with h8|h8
     ·rw [h8] at hk';exact .inl hk'
     ·rw [h8] at hk';cases hk';omega
    ·exact .inr hk'
   rcases List.mem_append.1 hx with hx|hx
   ·exact ⟨λw'' f hT''=>(hl x hx).1 w'' ((Fr.of_ext x17).trans (f78 f) λ_ _ h=>h) hT'',(hl x hx).2⟩
   ·rw [List.mem_singleton] at hx;subst hx;refine ⟨λw'' f hT''=>ha.ap w'' ((Fr.of_ext (x46.trans x7)).trans ((f78 f).mono λk hk=>?_) λ_ _ h=>h) hT'',ht⟩;have:=x1.size;rcases hk with hk|hk
    ·exact (ho.lt k hk).2
    ·omega
 ·exact absurd (he.2 ht) hz
end Go.Proofs.YtgkkecladbmjkaaGreatDoor
namespace Go.Proofs.YtgkkecladbmjkaaGreatDoor
open Tryz
open Go.Vc Go.Tc
section
variable {l:List dN} {X0:Nat->Prop} {p:jX} {fg fcap:Nat} {qs:List FP} {q:FP} {m:PM} {w w':O} {S:Nat->Prop}
def MB (p:jX) (q:FP) (fg:Nat) (qs:List FP) (i:Nat):Prop:=(∃ a,a≠Lb.ex/\WR p q (λ_=>False) a i)\/i=fg\/∃ a∈qs,tZ a i
theorem WRx {X Y:Nat->Prop} {a:Lb} {i:Nat} (ha:a≠.ex) (h:WR p q X a i):WR p q Y a i:=by
 cases a with
 | ex=>exact absurd rfl ha
 | _=>exact h
def Els (p:jX) (q:FP) (fg:Nat) (qs:List FP) (n:Nat) (i:Nat):Prop:=i < n/\¬ MB p q fg qs i
theorem iP.all (h:iP l X0 p fg fcap qs q m w):iP l (Els p q fg qs w.heap.size) p fg fcap qs q m w:=by
 have H:=h.wh;refine ⟨⟨H.room,H.rps,H.fld,H.img,H.box,H.frm,⟨λa b i ha hb=>?_,λa i ha=>?_⟩⟩,h.row,h.bel,h.bd,h.bf,λi hi=>⟨λe=>hi.2 (.inr (.inl e)),λa ha e=>hi.2 (.inr (.inr ⟨a,ha,e⟩))⟩⟩
 ·have key:∀ {a:Lb},a≠.ex->WR p q (BX (Els p q fg qs w.heap.size) fg qs) a i->¬ BX (Els p q fg qs w.heap.size) fg qs i:=by
   intro a ha hi hx;rcases hx with hx|hx|hx
   ·exact hx.2 (.inl ⟨a,ha,WRx ha hi⟩)
   ·exact ha (H.sep.dj a .ex i (WRx ha hi) (.inr (.inl hx)))
   ·exact ha (H.sep.dj a .ex i (WRx ha hi) (.inr (.inr hx)))
  by_cases h1:a=.ex
  ·by_cases h2:b=.ex
   ·rw [h1,h2]
   ·subst h1;exact absurd ha (key h2 hb)
  ·by_cases h2:b=.ex
   ·subst h2;exact absurd hb (key h1 ha)
   ·exact H.sep.dj a b i (WRx h1 ha) (WRx h2 hb)
 ·by_cases h1:a=.ex
  ·subst h1;rcases ha with ha|ha|ha
   ·exact ha.1
   ·exact H.sep.lt .ex i (.inr (.inl ha))
   ·exact H.sep.lt .ex i (.inr (.inr ha))
  ·exact H.sep.lt a i (WRx h1 ha)
theorem aIn.fr {e:ON} (h:aIn l X0 p e w) (g:Fr S w w') (hS:∀ i,S i->i < w.heap.size->X0 i):aIn l X0 p e w':=by
 obtain ⟨q,f,X,a,cap,h1,h2⟩:=h;exact ⟨q,f,X,a,cap,h1.fr g λb i hb hi hs=>hb (h1.sep.dj b .ex i hi (h2 i (hS i hs (h1.sep.lt b i hi)))),h2⟩
theorem aRs (g:Fr S w w'):Fr (λi=>S i/\i < w.heap.size) w w':=⟨g.os,g.tape,g.output,g.size,λi hi hn=>g.block i hi λhs=>hn ⟨hs,hi⟩⟩
end
section
variable {w:O} {K:Z->O->Prop}
def aJr (w:O) (v:Z) (ll:List (List Rw)):Prop:=(∃ a c,v=.slice a ll.length c)/\(0 < ll.length->rH w v ll)
theorem ZD {a:Option Addr} {c:Nat} (hk:K cM w):aB prog 8 #[.slice a 0 c] w K:=by
 apply aJt;unfold OK;refine ⟨λt v w'=>t=cM/\v=i64 0/\w'=w,λ_ _ _=>0,⟨rfl,rfl,rfl⟩,?_⟩;rintro _ _ w1 ⟨rfl,rfl,hw⟩ _;have hw:=hw.symm;subst hw;refine aDp.2 (bP.2 ?_);simp only [show ¬ ((0:Int) < ((0:Nat):Int)) by decide,aN];exact hk
theorem ZE {v:Z} {ll:List (List Rw)} (h:aJr w v ll) (hb:nO w) (hT:mS w) (hk:∀ v' l w',wJ w' v' l->l.length=min ll.length 3->aE w w'->K v' w'):aB prog 8 #[v] w K:=by
 by_cases h0:0 < ll.length
 ·exact GY (h.2 h0) hb hT λv' l w' h1 h2 _ h3=>hk v' l w' h1 h2 h3
 ·obtain ⟨⟨a,c,rfl⟩,_⟩:=h;have e0:ll.length=0:=by omega
  rw [e0];exact ZD (hk cM [] w ⟨[],aA.nil _ _,λk x hk=>by simp at hk⟩ (by rw [e0];rfl) (aE.refl _))
theorem aTz {v:Z} {ll:List (List Rw)} (h:aJr w v ll) (hb:nO w) (hT:mS w) (hk:∀ v' l w',wJ w' v' l->0 < l.length->l.length<=3->aE w w'->K v' w') :
  aB prog 8 #[v] w λt24 w1=>∃ J1:NP 1,
   (V prog (Builtin.len_ #[24] 3 #[t24]) w1 λt26 w2=>V prog (do eqGuard .eql 3 (.tmp 26) (.const (i64 0)) t26 (i64 0);binOp .eql 3 t26 (i64 0)) w2 λt27 w3=>
    aH t27 (V prog (Instr.buildSlice 22 1 #[(0,cM)]) w3 λt28 w4=>aB prog 8 #[t28] w4 λt29 w5=>J1 t29 w5) (J1 t24 w3)) /\
   ∀ (t11:Z),∀ w6:O,J1 t11 w6->∀ _f:dT,K t11 w6:=by
 refine ZE h hb hT λv1 l1 w1 h1 e1 x1=>?_;refine ⟨λv' w'=>∃ l,wJ w' v' l/\0 < l.length/\l.length<=3/\aE w w',?_,λv' w' ⟨l,g1,g2,g3,g4⟩ _=>hk v' l w' g1 g2 g3 g4⟩;refine vS EL h1 (aO.2 (aK (λhz=>?_) λhz=>⟨l1,h1,by omega,by omega,x1⟩));refine iT UR [cM] rfl rfl (by simp) rfl λv2 w2 ho2 x2=>?_;have x12:=x1.trans x2
 have h2:rH w2 v2 [[]]:=⟨[cM],aA.of_own ho2,λk l hk=>⟨cM,by
  match k,hk with
  | 0,_=>rfl
  | k+1,hk=>simp at hk,by
  match k,hk with
  | 0,hk=>cases hk;exact ⟨⟨none,0,rfl⟩,λh=>by simp at h⟩
  | k+1,hk=>simp at hk,by
  match k,hk with
  | 0,hk=>cases hk;simp
  | k+1,hk=>simp at hk⟩⟩
 refine GY h2 (λq hq=>?_) (hT.ext x12) λv3 l3 w3 h3 e3 _ x3=>⟨l3,h3,by rw [e3];decide,by rw [e3];decide,x12.trans x3⟩;obtain ⟨z,hz⟩:=hb q hq;exact ⟨z,x12.cell hz⟩
theorem WT {n m:Int} (hm:0 < m) (hm2:m<=1000000) (hk:∀ k:Nat,(k:Int) < m->K (i64 (k:Int)) w):aB prog 11 #[i64 n,i64 m] w K:=
 gX hm (by omega) λk h0 h1=>by
  obtain ⟨z,rfl⟩:∃ z:Nat,k=z:=⟨k.toNat,by omega⟩;exact hk z h1
end
end Go.Proofs.YtgkkecladbmjkaaGreatDoor
namespace Go.Vc
end Go.Vc
namespace Go.Proofs.YtgkkecladbmjkaaGreatDoor
open Tryz
open Go.Vc Go.Tc
section
variable {l:List dN} {p p':jX} {q q':FP} {f f':kC} {r:Rm} {X X':Nat->Prop} {sl sl':Z} {fu st fu' st':Int} {w w':O}
def NQ (fd:List (List Int)) (k j:Nat):Z:=if k < fd.length/\j < (fd.getD k []).length then .tuple #[i32 ((fd.getD k []).getD j 0),.bool true] else .tuple #[i32 0,.bool false]
theorem aMj (h:Wh l p q f r X sl fu st w) {k j:Nat}:aB prog 37 #[sS p.rp,i64 (k:Int),i64 (j:Int)] w λrv w'=>rv=NQ r.fd k j/\w'=w:=by
 unfold NQ;by_cases hc:k < r.fd.length/\j < (r.fd.getD k []).length
 ·rw [if_pos hc];exact yF h.room.room h.fld hc.1 hc.2
 ·rw [if_neg hc];exact YM h.room.room h.fld (by rw [Int.toNat_natCast];omega)
end
section
variable {l:List dN} {w0 w w':O}
end
section
variable {w:O}
end
def knC:List gN:=[⟨1,1,0⟩,⟨1,0,0⟩,⟨17,0,0⟩,⟨4,0,0⟩,⟨39,0,0⟩]
def knI:dN:=⟨{ data:=#[97] },[1],[],[⟨[],0,[1],knC⟩],[]⟩
def knS:PM:=CJ [knI] 0 99 ⟨ps0 200,[[0]]⟩
def aTv:PM->Nat->Int × Nat
 | _,0=>(0,0)
 | m,k+1=>match jY [knI] m with
  | .run m'=>aTv m' k
  | .fin s _ f _=>(s,f)
end Go.Proofs.YtgkkecladbmjkaaGreatDoor
namespace Go.Vc
section
variable {P:Program} {w:O} {K:Z->O->Prop} {S:O->Prop} {L:Z->Prop}
theorem aCf {s f o s2 f2 o2 ft b:Nat} {cs:List Z} {u:Z} (hb:fB w b cs) (h:FA P s f o) (h2:FA P s2 f2 o2) (hl:L1 P ft) (hc:cs[o+o2]?=some u) (hk:K u w) :
  V P (Instr.fieldAt s (.pointer (some ⟨b,0,none⟩)) f) w λq w1=>V P (Instr.fieldAt s2 q f2) w1 λq2 w2=>V P (Instr.loadAt ft q2) w2 K:=by
 obtain ⟨d,hd,ha⟩:=hl;refine V.ok (h.ex w b 0) (V.ok (h2.ex w b _) (V.ok (kH hd ha ?_) hk));have:=hb (o+o2) u hc;simpa [Nat.add_assoc] using this
theorem yF2 {s f o s2 f2 o2 ft b:Nat} {cs:List Z} {u:Z} (hb:∀ w',S w'->fB w' b cs) (h:FA P s f o) (h2:FA P s2 f2 o2) (hl:L1 P ft) (hc:cs[o+o2]?=some u) (hk:L u) :
  aC P S (Instr.fieldAt s (.pointer (some ⟨b,0,none⟩)) f) λq=>aC P S (Instr.fieldAt s2 q f2) λq2=>aC P S (Instr.loadAt ft q2) L:=by
 obtain ⟨d,hd,ha⟩:=hl;refine aC.ok (λw' _=>h.ex w' b 0) (aC.ok (λw' _=>h2.ex w' b _) (aC.ok (λw' hw=>kH hd ha ?_) hk));have:=hb w' hw (o+o2) u hc;simpa [Nat.add_assoc] using this
end
end Go.Vc
namespace Go.Proofs.YtgkkecladbmjkaaGreatDoor
open Tryz
open Go.Vc Go.Tc
variable {w:O} {K:Z->O->Prop}
variable {w0:O} {i:dN} {m:gA} {tv:Z} {x:gN}
structure qF where
 gb:Nat
 g1:Nat
 g2:Nat
 g3:Nat
 B:Nat
 p:fZ
 pv:Z
 lv:Z
 cv:Z
 loc:Z
def qF.row (c:qF) (m:gA):List Z:=[c.pv,i64 m.result,c.lv,c.cv]
def qF.cells (c:qF) (i:dN) (m:gA):List Z:=
 [.string i.name,c.p.fv,c.p.iv,c.p.mv,c.p.xv,c.pv,i64 m.result,c.lv,c.cv,c.loc,.slice (some ⟨c.g1,0,none⟩) m.code.length m.code.length,.slice (some ⟨c.g2,0,none⟩) m.code.length m.code.length,.slice (some ⟨c.g3,0,none⟩) m.code.length m.code.length]
def qF.G (c:qF) (k:Nat):Prop:=k=c.g1\/k=c.g2\/k=c.g3
structure sT (w0 w:O) (c:qF) (i:dN) (m:gA) (st:St):Prop where
 x:aE w0 w
 lo:w0.heap.size<=c.gb/\w0.heap.size<=c.g1/\w0.heap.size<=c.g2/\w0.heap.size<=c.g3
 ne:c.gb≠c.g1/\c.gb≠c.g2/\c.gb≠c.g3
 box:dW w c.gb (c.cells i m) 220
 img:gZ w0 c.p i
 row:iO w0 (c.row m) m
 loc:w.ownsRow w0.heap.size 3 1 c.loc m.locs.length (m.locs.map i64)
 locne:∀ k,c.loc.ownBlock=some k->¬ c.G k
 mem:Mem c.g1 c.g2 c.g3 c.B w m.code.length st
theorem sT.boxed {w0:O} {c:qF} {i:dN} {m:gA} {st:St} (h:sT w0 w c i m st):fB w c.gb (c.cells i m):=dW.boxed h.box
theorem sT.ext {w0 w':O} {c:qF} {i:dN} {m:gA} {st:St} (h:sT w0 w c i m st) (hx:aE w w'):sT w0 w' c i m st:=
 ⟨h.x.trans hx,h.lo,h.ne,h.box.ext hx,h.img,h.row,hx.own h.loc,h.locne,h.mem.ext hx⟩
theorem sT.chg {w':O} {c:qF} {st st':St} (h:sT w0 w c i m st) (hf:Fr c.G w w') (hm:Mem c.g1 c.g2 c.g3 c.B w' m.code.length st'):sT w0 w' c i m st':=by
 have hlo:=h.lo;refine ⟨hf.ext h.x λk hk=>?_,h.lo,h.ne,hf.blk h.box ?_,h.img,h.row,hf.own h.loc h.locne,h.locne,hm⟩
 ·rcases hk with rfl|rfl|rfl
  ·exact hlo.2.1
  ·exact hlo.2.2.1
  ·exact hlo.2.2.2
 ·rintro (e|e|e)
  ·exact h.ne.1 e
  ·exact h.ne.2.1 e
  ·exact h.ne.2.2 e
theorem sT.imgAt {c:qF} {st:St} (h:sT w0 w c i m st):gZ w c.p i:=h.img.ext h.x
theorem sT.rowAt {c:qF} {st:St} (h:sT w0 w c i m st):iO w (c.row m) m:=h.row.ext h.x
theorem sT.locAt {c:qF} {st:St} (h:sT w0 w c i m st):aQ w c.loc m.locs:=aA.of_own h.loc
theorem sT.codeAt {c:qF} {st:St} (h:sT w0 w c i m st):lG w c.cv m.code:=by
 obtain ⟨pv,lv,cv,e,_,_,hc⟩:=h.rowAt;simp only [qF.row,List.cons.injEq] at e;obtain ⟨_,_,_,rfl,_⟩:=e;exact hc
def slB (v:Z):Option Nat:=match v with
 | .slice (some a) _ _=>some a.block
 | _=>none
theorem CM {B e sz n:Nat} {v:Z} {xs:List Z} (h:w.ownsRow B e sz v n xs):v.ownBlock=slB v:=by
 rcases h.2 with ⟨rfl,_⟩|⟨g,cap,cur,rfl,_⟩<;>rfl
def ZS (B0 n:Nat) (z:Z) (e:TypeId) (v:Z) (w:O):Prop:=∃ g,v=.slice (some ⟨g,0,none⟩) n n/\dW w g (List.replicate n z) e/\B0<=g
structure ZW (B0:Nat) (p:fZ) (row:List Z) (m:gA) (c:qF) (w:O):Prop where
 p:c.p=p
 row:c.row m=row
 loc:w.ownsRow B0 3 1 c.loc m.locs.length (m.locs.map i64)
 r1:dW w c.g1 (List.replicate m.code.length (.slice none 0 0)) 42
 r2:dW w c.g2 (List.replicate m.code.length (.bool false)) 4
 r3:dW w c.g3 (List.replicate m.code.length (.bool false)) 4
 lo:B0<=c.g1/\B0<=c.g2/\B0<=c.g3
 ne:c.g1≠c.g2/\c.g1≠c.g3/\c.g2≠c.g3
 locne:∀ k,c.loc.ownBlock=some k->¬ c.G k
theorem ZW.ext {B0:Nat} {p:fZ} {row:List Z} {m:gA} {c:qF} {w w':O} (h:ZW B0 p row m c w) (hx:aE w w'):ZW B0 p row m c w':=
 ⟨h.p,h.row,hx.own h.loc,h.r1.ext hx,h.r2.ext hx,h.r3.ext hx,h.lo,h.ne,h.locne⟩
structure aDq (B0:Nat) (p:fZ) (i:dN) (pv lv cv:Z) (m:gA) (q:Nat) (v:Z) (w:O):Prop where
 c6:q=6->aA w v 1 2 [pv,lv]
 c7:q=7->w.ownsRow B0 3 1 v m.locs.length (m.locs.map i64)
 c9:q=9->ZS B0 m.code.length (.slice none 0 0) 42 v w
 c11:q=11\/q=13->ZS B0 m.code.length (.bool false) 4 v w
 c14:q=14->∃ c:qF,v=.agg (c.cells i m).toArray/\ZW B0 p [pv,i64 m.result,lv,cv] m c w
 c15:q=15->∃ c:qF,v=.pointer (some ⟨c.gb,0,none⟩)/\ZW B0 p [pv,i64 m.result,lv,cv] m c w/\dW w c.gb (c.cells i m) 220/\B0<=c.gb/\c.gb≠c.g1/\c.gb≠c.g2/\c.gb≠c.g3
theorem ZS.ext {B0 n:Nat} {z:Z} {e:TypeId} {v:Z} {w w':O} (h:ZS B0 n z e v w) (hx:aE w w'):ZS B0 n z e v w':=by
 obtain ⟨g,h1,h2,h3⟩:=h;exact ⟨g,h1,h2.ext hx,h3⟩
theorem aDq.ext {B0:Nat} {p:fZ} {i:dN} {pv lv cv:Z} {m:gA} {q:Nat} {v:Z} {w w':O} (h:aDq B0 p i pv lv cv m q v w) (hx:aE w w'):aDq B0 p i pv lv cv m q v w':=
 ⟨λe=>(h.c6 e).ext hx,λe=>hx.own (h.c7 e),λe=>(h.c9 e).ext hx,λe=>(h.c11 e).ext hx,λe=>by
  obtain ⟨c,h1,h2⟩:=h.c14 e;exact ⟨c,h1,h2.ext hx⟩,λe=>by
  obtain ⟨c,h1,h2,h3,h4⟩:=h.c15 e;exact ⟨c,h1,h2.ext hx,h3.ext hx,h4⟩⟩
theorem BA {p:fZ} {k:Nat} (h:gZ w p i) (ir:i.right) (hk:k < i.methods.length)
  (hK:∀ (w0:O) (c:qF) w',aE w w0->sT w0 w' c i (i.meth k) (St.ini (i.meth k).code.length)->aE w w'->K (.pointer (some ⟨c.gb,0,none⟩)) w') :
  aB prog 155 #[p.val i,i64 k] w K:=by
 have hm:=iI (i:=i) (a:=(k:Int)) (by omega) (by omega);rw [Int.toNat_natCast] at hm;have mr:(i.meth k).right:=ir.2.2.1.2.1 _ (List.mem_of_getElem? hm);generalize i.meth k=m at hm mr hK;have hn1:=mr.2.2.2.1.1;have hn2:=mr.2.2.2.1.2;have lp:=mr.1.2;have ll:=mr.2.2.1.2;apply aGy;unfold KI fZ.val;refine bx λb1 w1 hb1 x1=>?_;refine bQ hb1 bF fS rfl ?_;refine XP iA lV (h.ext x1).mt hm oI λrow hrow=>?_;have hrow0:=hrow;obtain ⟨pv,lv,cv,rfl,hp,hl,hc⟩:=hrow;obtain ⟨pa,pc,rfl⟩:=hp.shape;obtain ⟨la,lc,rfl⟩:=hl.shape;obtain ⟨ca,cc,rfl⟩:=aA.shape hc;refine pX AE rfl rfl λb2 w2 hb2 x2=>?_;have hb2:fB w2 b2 [.slice pa m.params.length pc,i64 m.result,.slice la m.locals.length lc,.slice ca m.code.length cc]:=hb2;refine bQ hb2 dU fT rfl (hU iZ (hc.ext x2) ?_);have D1:aE w2 w2.drew:=(aE.refl _).drew;refine aJ.mk' (λw'=>aE w2 w') D1 ?_;have hb1:=hb1.ext x2;refine yA (λw' hw=>hb1.ext hw) kF rfl ?_;refine yA (λw' hw=>hb2.ext hw) lV rfl ?_;refine gY (λw' hw=>hb2.ext hw) dR bJ rfl ?_;refine gY (λw' hw=>hb2.ext hw) gI bJ rfl ?_;have hpd:=(hp.ext x2).ext D1;have hld:=(hl.ext x2).ext D1;generalize hwd:w2.drew=w3 at D1 hpd hld;have hmade:∀ {w'},aE w3 w'->aE w w':=λhx=>((x1.trans x2).trans D1).trans hx;refine ⟨aDq w3.heap.size p i (.slice pa m.params.length pc) (.slice la m.locals.length lc) (.slice ca m.code.length cc) m,λ_ v=>slB v,⟨λ_ _ _ _ hq hg=>hq.ext hg,λw1 hg=>D1.trans hg⟩,?_,?_,?_,?_,?_,?_,?_,?_⟩
 ·intro w4 hg _ _;refine iT LY [.slice pa m.params.length pc,.slice la m.locals.length lc] rfl rfl (by simp) rfl λv w5 ho x5=>⟨x5,⟨λ_=>aA.of_own ho,λe=>absurd e (by decide),λe=>absurd e (by decide),λe=>absurd e (by decide),λe=>absurd e (by decide),λe=>absurd e (by decide)⟩,λg hg'=>?_⟩;have hg':slB v=some g:=hg';rw [<- CM ho] at hg';exact ho.lt g hg'
 ·intro v w4 hg hq _ _;have hx:aE w3 w4:=hg;refine TZ (hq.c6 rfl) (hpd.ext hx) (hld.ext hx) (by omega) (by omega) λv5 w5 ho x5=>⟨x5,⟨λe=>absurd e (by decide),λ_=>aX ho hx.size,λe=>absurd e (by decide),λe=>absurd e (by decide),λe=>absurd e (by decide),λe=>absurd e (by decide)⟩,λg hg'=>?_⟩;have hg':slB v5=some g:=hg';rw [<- CM ho] at hg';exact ho.lt g hg'
 ·intro w4 hg _ _;have hx:aE w3 w4:=hg;refine mkB underlying116 jM rfl (by omega) (by omega) λw5 hB x5 z5=>⟨x5,⟨λe=>absurd e (by decide),λe=>absurd e (by decide),λ_=>⟨_,rfl,hB,hx.size⟩,λe=>absurd e (by decide),λe=>absurd e (by decide),λe=>absurd e (by decide)⟩,λg hg'=>?_⟩;have:w4.heap.size=g:=by simpa [slB] using hg'
  subst this;exact ⟨Nat.le_refl _,hB.lt⟩
 iterate 2
  ·intro w4 hg _ _;have hx:aE w3 w4:=hg;refine mkB underlying117 mP rfl (by omega) (by omega) λw5 hB x5 z5=>⟨x5,⟨λe=>absurd e (by decide),λe=>absurd e (by decide),λe=>absurd e (by decide),λ_=>⟨_,rfl,hB,hx.size⟩,λe=>absurd e (by decide),λe=>absurd e (by decide)⟩,λg hg'=>?_⟩;have:w4.heap.size=g:=by simpa [slB] using hg'
   subst this;exact ⟨Nat.le_refl _,hB.lt⟩
 ·intro v7 v9 v11 v13 w4 hg q7 q9 q11 q13 hA _;obtain ⟨s1,rfl,r1,l1⟩:=q9.c9 rfl;obtain ⟨s2,rfl,r2,l2⟩:=q11.c11 (.inl rfl);obtain ⟨s3,rfl,r3,l3⟩:=q13.c11 (.inr rfl);have ho7:=q7.c7 rfl;obtain ⟨za,zc,rfl⟩:=(aA.of_own ho7).shape;refine V.ok (v:=.agg #[.string i.name,p.fv,p.iv,p.mv,p.xv,.slice pa m.params.length pc,i64 m.result,.slice la m.locals.length lc,.slice ca m.code.length cc,.slice za m.locs.length zc,.slice (some ⟨s1,0,none⟩) m.code.length m.code.length,.slice (some ⟨s2,0,none⟩) m.code.length m.code.length,.slice (some ⟨s3,0,none⟩) m.code.length m.code.length]) (w':=w4) ?_ ⟨aJk _,⟨λe=>absurd e (by decide),λe=>absurd e (by decide),λe=>absurd e (by decide),λe=>absurd e (by decide),λ_=>⟨⟨0,s1,s2,s3,0,p,.slice pa m.params.length pc,.slice la m.locals.length lc,.slice ca m.code.length cc,.slice za m.locs.length zc⟩,rfl,rfl,rfl,ho7,r1,r2,r3,⟨l1,l2,l3⟩,⟨?_,?_,?_⟩,λk hk=>?_⟩,λe=>absurd e (by decide)⟩,λg hg'=>by simp [slB] at hg'⟩
  ·kernel_rfl
  ·exact λ(e:s1=s2)=>hA _ (.tail _ (.head _)) _ (.tail _ (.tail _ (.head _))) (show (9:Nat)≠11 by decide) s1 rfl (by rw [e];rfl)
  ·exact λ(e:s1=s3)=>hA _ (.tail _ (.head _)) _ (.tail _ (.tail _ (.tail _ (.head _)))) (show (9:Nat)≠13 by decide) s1 rfl (by rw [e];rfl)
  ·exact λ(e:s2=s3)=>hA _ (.tail _ (.tail _ (.head _))) _ (.tail _ (.tail _ (.tail _ (.head _)))) (show (11:Nat)≠13 by decide) s2 rfl (by rw [e];rfl)
  ·have hk:=(CM ho7).symm.trans hk;rintro (e|e|e)
   ·have e:k=s1:=e;subst e;exact hA _ (List.Mem.head _) _ (.tail _ (.head _)) (show (7:Nat)≠9 by decide) _ hk rfl
   ·have e:k=s2:=e;subst e;exact hA _ (List.Mem.head _) _ (.tail _ (.tail _ (.head _))) (show (7:Nat)≠11 by decide) _ hk rfl
   ·have e:k=s3:=e;subst e;exact hA _ (List.Mem.head _) _ (.tail _ (.tail _ (.tail _ (.head _)))) (show (7:Nat)≠13 by decide) _ hk rfl
 ·intro v14 w4 hg q14 _ _;have hx:aE w3 w4:=hg;obtain ⟨c,rfl,hc⟩:=q14.c14 rfl;have a1:=hc.r1.lt;have a2:=hc.r2.lt;have a3:=hc.r3.lt;refine QG λw5 hB x5=>⟨x5,⟨λe=>absurd e (by decide),λe=>absurd e (by decide),λe=>absurd e (by decide),λe=>absurd e (by decide),λe=>absurd e (by decide),λ_=>⟨{ c with gb:=w4.heap.size },rfl,?_,?_,hx.size,?_,?_,?_⟩⟩,λg hg'=>by simp [slB] at hg'⟩
  ·have:=hc.ext x5;exact ⟨this.p,this.row,this.loc,this.r1,this.r2,this.r3,this.lo,this.ne,this.locne⟩
  ·exact hB
  iterate 3
   ·exact λe=>by simp only at e;omega
 ·intro v6 v7 v9 v11 v13 v14 v15 w4 hg _ _ _ _ _ _ q15 _ _;have hx:aE w3 w4:=hg;obtain ⟨c,rfl,hc',hB,hlo,n1,n2,n3⟩:=q15.c15 rfl;have a1:=hc'.r1.lt;have a2:=hc'.r2.lt;have a3:=hc'.r3.lt;have hp':=hc'.p;have hr':=hc'.row;refine hK w3 { c with B:=w4.heap.size } w4 (hmade (aE.refl _)) ⟨hx,⟨hlo,hc'.lo⟩,⟨n1,n2,n3⟩,hB,?_,?_,hc'.loc,hc'.locne,⟨⟨_,by simp,hc'.r1,λq hq=>⟨.slice none 0 0,by simp [hq],?_⟩⟩,?_,?_,by simp [St.ini],by simp [St.ini],by simp [St.ini],hc'.ne,a1,a2,a3,Nat.le_refl _⟩⟩ (hmade hx)
  ·show gZ w3 c.p i;rw [hp'];exact h.ext (hmade (aE.refl _))
  ·show iO w3 (c.row m) m;rw [hr'];exact hrow0.ext (x2.trans D1)
  ·have:(St.ini m.code.length).s q=[]:=by simp [St.ini,St.s,List.getD_eq_getElem?_getD,hq]
   rw [this];exact World.ownsRow_nil _ _ _ _
  ·have:(St.ini m.code.length).has.map Value.bool=List.replicate m.code.length (.bool false):=by simp [St.ini]
   rw [this];exact hc'.r2
  ·have:(St.ini m.code.length).todo.map Value.bool=List.replicate m.code.length (.bool false):=by simp [St.ini]
   rw [this];exact hc'.r3
structure QQ (w:O) (c:qF) (i:dN) (m:gA):Prop where
 box:fB w c.gb (c.cells i m)
 img:gZ w c.p i
 row:iO w (c.row m) m
 loc:aQ w c.loc m.locs
theorem QQ.ext {w':O} {c:qF} {i:dN} {m:gA} (h:QQ w c i m) (hx:aE w w'):QQ w' c i m:=⟨h.box.ext hx,h.img.ext hx,h.row.ext hx,h.loc.ext hx⟩
theorem sT.wr {c:qF} {st:St} (h:sT w0 w c i m st):QQ w c i m:=⟨h.boxed,h.imgAt,h.rowAt,h.locAt⟩
theorem QQ.code {c:qF} {i:dN} {m:gA} (h:QQ w c i m):lG w c.cv m.code:=by
 obtain ⟨pv,lv,cv,e,_,_,hc⟩:=h.row;simp only [qF.row,List.cons.injEq] at e;obtain ⟨_,_,_,rfl,_⟩:=e;exact hc
theorem gE {v:Z} (h:K v w):aB prog 255 #[v] w K:=by
 apply aEh;unfold HW;exact h
theorem uD {r:Int} (hk:∀ v w',aQ w' v (jD r)->aE w w'->K v w'):aB prog 256 #[i64 r] w K:=by
 apply aEg;unfold HV;refine aO.2 (aK (λh=>?_) λh=>?_)
 ·refine hk _ _ ?_ (aE.refl _);rw [jD,if_pos h];exact aA.nil _ _
 ·refine iT aZ [i64 r] rfl rfl (by simp) rfl λv w1 ho x1=>gE (hk _ _ ?_ x1);rw [jD,if_neg h];exact aA.of_own ho
theorem aBn {l:List Int} (ht:aQ w tv l) (hl:3<=l.length) (hk:∀ w',aE w w'->K (i64 (uV l)) w'):aB prog 262 #[tv] w K:=by
 apply aEa;unfold HP;unfold uV at hk;refine kP aM aF ht (by omega) (by omega) (fD (j:=1) (jW (by omega))) (oW ?_);cases hz:gC (cT l 1) with
 | true=>
  rw [hz] at hk;refine aS.2 ?_;exact kP aM aF ht (by omega) (by omega) (fD (j:=1) (jW (by omega))) (hk _ (aE.refl _))
 | false=>
  rw [hz] at hk;refine aD.2 ?_;have D1:aE w w.drew:=(aE.refl _).drew;refine aJ.mk' (λw'=>aE w w') D1 ?_;refine lT aM aF ht (λ_ h=>h) (by omega) (by omega) (fD (j:=0) (jW (by omega))) ?_;refine lT aM aF ht (λ_ h=>h) (by omega) (by omega) (fD (j:=1) (jW (by omega))) ?_;refine lT aM aF ht (λ_ h=>h) (by omega) (by omega) (fD (j:=2) (jW (by omega))) ?_;exact tU ⟨D1,tU ⟨D1,hk _ D1⟩⟩
theorem tV (h:rT i m x):(aI i m x).length<=5:=by
 obtain ⟨op,a,b⟩:=x;obtain ⟨ir,mr,⟨ho,a1,a2,_⟩,hn⟩:=h;by_cases c1:op=37
 ·subst c1;have:((i.meth a).params.length:Int)<=4:=(ir.2.2.1.2.1 _ (dN.meth_mem a1 hn)).1.2;have e:aI i m ⟨37,a,b⟩=(i.meth a).params:=rfl;rw [e];omega
 by_cases c2:op=38
 ·subst c2;have:((i.imp a).params.length:Int)<=4:=(ir.2.1.2 _ (dN.imp_mem a1 hn)).2.1.2;have e:aI i m ⟨38,a,b⟩=(i.imp a).params:=rfl;rw [e];omega
 by_cases c3:op=39
 ·subst c3;have e:aI i m ⟨39,a,b⟩=jD m.result:=rfl;rw [e];have:=wZ m.result;omega
 have ho:1<=op/\op<=39:=ho;rcases vL ho with rfl|rfl|rfl|rfl|rfl|rfl|rfl|rfl|rfl|rfl|rfl|rfl|rfl|rfl|rfl|rfl|rfl|rfl|rfl|rfl|rfl|rfl|rfl|rfl|rfl|rfl|rfl|rfl|rfl|rfl|rfl|rfl|rfl|rfl|rfl|rfl|rfl|rfl|rfl<;>first|contradiction|(simp [aI,fP];done)
theorem XC {c:qF} (h:QQ w c i m) (hx:x.right) :
  aB prog 202 #[.pointer (some ⟨c.gb,0,none⟩),.agg #[i64 x.op,i64 x.a,i64 x.b]] w (eC (fI i m x) w):=by
 obtain ⟨op,a,b⟩:=x;obtain ⟨ho,a1,a2,_⟩:=hx;apply aFr;suffices key:∀ R:Z->O->Prop,(∀ v w',eC (fI i m ⟨op,a,b⟩) w v w'->R v w')->zB (.pointer (some ⟨c.gb,0,none⟩)) (.agg #[i64 op,i64 a,i64 b]) w R from key _ λ_ _ h=>h;intro R hR;unfold zB;refine bx λb3 w3 hb3 x3=>?_;have h':=h.ext x3;have D1:aE w3 w3.drew:=(aE.refl _).drew;have xd:=x3.trans D1;obtain ⟨mcs,hms⟩:=h'.img.mt.sl;obtain ⟨ics,hims⟩:=h'.img.im.sl;refine bQ hb3 aT aF rfl ?_;by_cases c1:op=2\/op=3
 ·have hs:fI i m ⟨op,a,b⟩↔a < (m.locs.length:Int):=by unfold fI;dsimp only;rw [if_pos c1]
  rcases c1 with rfl|rfl
  all_goals
   simp only [aN,Int.reduceEq];refine aJ.mk' (λw'=>aE w3 w') D1 ?_;refine gY (λw' hw=>hb3.ext hw) (by first|exact bO|exact cD|exact bB|exact cC|exact bV|exact bU|exact cG|exact cB|exact cF|exact bN|exact bI|exact bT|exact bG|exact bE|exact cA|exact bZ|exact bS|exact bK|exact bA|exact bD|exact bC|exact bM|exact cE|exact bL|exact cL|exact bY|exact cS|exact cR|exact cK|exact cQ|exact cP|exact cO|exact cJ|exact cI|exact cH|exact bX|exact cN|exact bW|exact cY|exact cX|exact cZ|exact dH|exact dG|exact dF|exact dM|exact dE|exact dD|exact dC|exact dL|exact dK|exact dJ|exact bH|exact dB|exact dQ|exact dA|exact dP|exact dY|exact cU|exact dO|exact dX|exact cW|exact cV|exact eQ|exact eO|exact eB|exact eM|exact eJ|exact fR|exact eE|exact dI|exact bF|exact fA|exact aT|exact aR) (by first|exact eG|exact fO|exact eW|exact eV|exact eF|exact eY|exact fN|exact gF|exact gV|exact fM|exact aF) rfl ⟨.inl ⟨_,rfl⟩,?_⟩
   refine gY (λw' hw=>h'.box.ext hw) (by first|exact bO|exact cD|exact bB|exact cC|exact bV|exact bU|exact cG|exact cB|exact cF|exact bN|exact bI|exact bT|exact bG|exact bE|exact cA|exact bZ|exact bS|exact bK|exact bA|exact bD|exact bC|exact bM|exact cE) (by first|exact eG|exact fO|exact eW|exact eV|exact eF|exact eY|exact fN|exact gF|exact gV|exact fM|exact aF|exact iX|exact iW|exact iM|exact jZ|exact bJ) rfl (qH aM h'.loc (SF ?_));exact hR _ _ ⟨_,rfl,decide_eq_true_iff.trans hs.symm,xd⟩
 by_cases c2:op=33\/op=34
 ·have hs:fI i m ⟨op,a,b⟩↔a < (i.fields.length:Int):=by unfold fI;dsimp only;rw [if_neg c1,if_pos c2]
  rcases c2 with rfl|rfl
  all_goals
   simp only [aN,Int.reduceEq];refine aJ.mk' (λw'=>aE w3 w') D1 ?_;refine gY (λw' hw=>hb3.ext hw) (by first|exact bO|exact cD|exact bB|exact cC|exact bV|exact bU|exact cG|exact cB|exact cF|exact bN|exact bI|exact bT|exact bG|exact bE|exact cA|exact bZ|exact bS|exact bK|exact bA|exact bD|exact bC|exact bM|exact cE|exact bL|exact cL|exact bY|exact cS|exact cR|exact cK|exact cQ|exact cP|exact cO|exact cJ|exact cI|exact cH|exact bX|exact cN|exact bW|exact cY|exact cX|exact cZ|exact dH|exact dG|exact dF|exact dM|exact dE|exact dD|exact dC|exact dL|exact dK|exact dJ|exact bH|exact dB|exact dQ|exact dA|exact dP|exact dY|exact cU|exact dO|exact dX|exact cW|exact cV|exact eQ|exact eO|exact eB|exact eM|exact eJ|exact fR|exact eE|exact dI|exact bF|exact fA|exact aT|exact aR) (by first|exact eG|exact fO|exact eW|exact eV|exact eF|exact eY|exact fN|exact gF|exact gV|exact fM|exact aF) rfl ⟨.inl ⟨_,rfl⟩,?_⟩
   refine yF2 (λw' hw=>h'.box.ext hw) (by first|exact bO|exact cD|exact bB|exact cC|exact bV|exact bU|exact cG|exact cB|exact cF|exact bN|exact bI|exact bT|exact bG|exact bE|exact cA|exact bZ|exact bS|exact bK|exact bA|exact bD|exact bC) (by first|exact bO|exact cD|exact bB|exact cC|exact bV|exact bU|exact cG|exact cB|exact cF|exact bN|exact bI|exact bT|exact bG|exact bE|exact cA|exact bZ|exact bS|exact bK|exact bA|exact bD|exact bC|exact bM|exact cE|exact bL|exact cL|exact bY|exact cS|exact cR|exact cK|exact cQ|exact cP|exact cO|exact cJ|exact cI|exact cH|exact bX|exact cN|exact bW|exact cY|exact cX|exact cZ|exact dH|exact dG|exact dF|exact dM|exact dE|exact dD|exact dC|exact dL|exact dK|exact dJ|exact bH|exact dB|exact dQ|exact dA|exact dP|exact dY|exact cU|exact dO|exact dX|exact cW|exact cV|exact eQ|exact eO|exact eB|exact eM|exact eJ|exact fR|exact eE) (by first|exact eG|exact fO|exact eW|exact eV|exact eF|exact eY|exact fN|exact gF|exact gV|exact fM|exact aF|exact iX|exact iW|exact iM|exact jZ|exact bJ) rfl (qH aM h'.img.fl (SF ?_));exact hR _ _ ⟨_,rfl,decide_eq_true_iff.trans hs.symm,xd⟩
 by_cases c3:op=37
 ·have hs:fI i m ⟨op,a,b⟩↔a < (i.methods.length:Int):=by unfold fI;dsimp only;rw [if_neg c1,if_neg c2,if_pos c3]
  subst c3;simp only [aN,Int.reduceEq];refine aJ.mk' (λw'=>aE w3 w') D1 ?_;refine gY (λw' hw=>hb3.ext hw) aR aF rfl ⟨.inl ⟨_,rfl⟩,?_⟩;refine yF2 (λw' hw=>h'.box.ext hw) bC bF fS rfl (qH iA hms (SF ?_));exact hR _ _ ⟨_,rfl,decide_eq_true_iff.trans hs.symm,xd⟩
 by_cases c4:op=38
 ·have hs:fI i m ⟨op,a,b⟩↔a < (i.imports.length:Int):=by unfold fI;dsimp only;rw [if_neg c1,if_neg c2,if_neg c3,if_pos c4]
  subst c4;simp only [aN,Int.reduceEq];refine aJ.mk' (λw'=>aE w3 w') D1 ?_;refine gY (λw' hw=>hb3.ext hw) aR aF rfl ⟨.inl ⟨_,rfl⟩,?_⟩;refine yF2 (λw' hw=>h'.box.ext hw) bC dI iB rfl (qH lH hims (SF ?_));exact hR _ _ ⟨_,rfl,decide_eq_true_iff.trans hs.symm,xd⟩
 by_cases c5:op=23\/op=24
 ·have hs:fI i m ⟨op,a,b⟩↔a < (m.code.length:Int):=by unfold fI;dsimp only;rw [if_neg c1,if_neg c2,if_neg c3,if_neg c4,if_pos c5]
  rcases c5 with rfl|rfl
  all_goals
   simp only [aN,Int.reduceEq];refine aJ.mk' (λw'=>aE w3 w') D1 ?_;refine gY (λw' hw=>hb3.ext hw) (by first|exact bO|exact cD|exact bB|exact cC|exact bV|exact bU|exact cG|exact cB|exact cF|exact bN|exact bI|exact bT|exact bG|exact bE|exact cA|exact bZ|exact bS|exact bK|exact bA|exact bD|exact bC|exact bM|exact cE|exact bL|exact cL|exact bY|exact cS|exact cR|exact cK|exact cQ|exact cP|exact cO|exact cJ|exact cI|exact cH|exact bX|exact cN|exact bW|exact cY|exact cX|exact cZ|exact dH|exact dG|exact dF|exact dM|exact dE|exact dD|exact dC|exact dL|exact dK|exact dJ|exact bH|exact dB|exact dQ|exact dA|exact dP|exact dY|exact cU|exact dO|exact dX|exact cW|exact cV|exact eQ|exact eO|exact eB|exact eM|exact eJ|exact fR|exact eE|exact dI|exact bF|exact fA|exact aT|exact aR) (by first|exact eG|exact fO|exact eW|exact eV|exact eF|exact eY|exact fN|exact gF|exact gV|exact fM|exact aF) rfl ⟨.inl ⟨_,rfl⟩,?_⟩
   refine yF2 (λw' hw=>h'.box.ext hw) (by first|exact bO|exact cD|exact bB|exact cC|exact bV|exact bU|exact cG|exact cB|exact cF|exact bN|exact bI|exact bT|exact bG|exact bE|exact cA|exact bZ|exact bS|exact bK|exact bA|exact bD|exact bC|exact bM) (by first|exact bO|exact cD|exact bB|exact cC|exact bV|exact bU|exact cG|exact cB|exact cF|exact bN|exact bI|exact bT|exact bG|exact bE|exact cA|exact bZ|exact bS|exact bK|exact bA|exact bD|exact bC|exact bM|exact cE|exact bL|exact cL|exact bY|exact cS|exact cR|exact cK|exact cQ|exact cP|exact cO|exact cJ|exact cI|exact cH|exact bX|exact cN|exact bW|exact cY|exact cX|exact cZ|exact dH|exact dG|exact dF|exact dM|exact dE|exact dD|exact dC|exact dL|exact dK|exact dJ|exact bH|exact dB|exact dQ|exact dA|exact dP|exact dY|exact cU|exact dO|exact dX|exact cW|exact cV|exact eQ|exact eO|exact eB|exact eM|exact eJ|exact fR|exact eE|exact dI|exact bF|exact fA|exact aT|exact aR|exact gJ|exact dR|exact eX|exact gI|exact dU) (by first|exact eG|exact fO|exact eW|exact eV|exact eF|exact eY|exact fN|exact gF|exact gV|exact fM|exact aF|exact iX|exact iW|exact iM|exact jZ|exact bJ|exact iB|exact fS|exact mD|exact oV|exact lX|exact fT) rfl (qH iZ h'.code (SF ?_));exact hR _ _ ⟨_,rfl,decide_eq_true_iff.trans hs.symm,xd⟩
 ·have hs:fI i m ⟨op,a,b⟩:=by unfold fI;dsimp only;rw [if_neg c1,if_neg c2,if_neg c3,if_neg c4,if_neg c5];trivial
  simp only [not_or] at c1 c2 c5;simp only [c1.1,c1.2,c2.1,c2.2,c3,c4,c5.1,c5.2,aN];exact hR _ _ (eC.yes hs x3)
theorem wQ {c:qF} (h:QQ w c i m) (hx:rT i m x) (hk:∀ v w',aQ w' v (aI i m x)->aE w w'->K v w') :
  aB prog 234 #[.pointer (some ⟨c.gb,0,none⟩),.agg #[i64 x.op,i64 x.a,i64 x.b]] w K:=by
 obtain ⟨op,a,b⟩:=x;obtain ⟨ir,mr,⟨ho,a1,a2,_⟩,hn⟩:=hx;apply aEz;unfold IQ;refine bx λb3 w3 hb3 x3=>?_;have h':=h.ext x3;refine bQ hb3 aT aF rfl ?_;rcases vL ho with rfl|rfl|rfl|rfl|rfl|rfl|rfl|rfl|rfl|rfl|rfl|rfl|rfl|rfl|rfl|rfl|rfl|rfl|rfl|rfl|rfl|rfl|rfl|rfl|rfl|rfl|rfl|rfl|rfl|rfl|rfl|rfl|rfl|rfl|rfl|rfl|rfl|rfl|rfl<;>simp only [aN,Int.reduceEq,Int.reduceNeg]
 iterate 2
  ·exact hk _ _ (aA.nil _ _) x3
 ·have a1:0<=a:=a1;obtain ⟨k,rfl⟩:∃ k:Nat,a=k:=⟨a.toNat,by omega⟩;have ha:(k:Int) < (m.locs.length:Int):=hn;have D1:aE w3 w3.drew:=(aE.refl _).drew;refine aJ.mk' (λw'=>aE w3 w') D1 ⟨.inl ⟨_,rfl⟩,?_⟩;refine gY (λw' hw=>h'.box.ext hw) cE bJ rfl ?_;refine gY (λw' hw=>hb3.ext hw) aR aF rfl ?_;refine lT aM aF h'.loc (λ_ h=>h) (by omega) (by omega) (fD (fY (by omega))) ?_;refine iT aZ [i64 (m.locs.getD k 0)] rfl rfl (by simp) rfl λv w4 ho x4=>⟨D1.trans x4,gE ⟨D1.trans x4,hk _ _ (aA.of_own ho) ((x3.trans D1).trans x4)⟩⟩
 iterate 2
  ·refine iT aZ [i64 (-1)] rfl rfl (by simp) rfl λv w4 ho x4=>gE (hk _ _ (aA.of_own ho) (x3.trans x4))
 iterate 9
  ·refine iT aZ [i64 (-2),i64 (-2)] rfl rfl (by simp) rfl λv w4 ho x4=>gE (hk _ _ (aA.of_own ho) (x3.trans x4))
 iterate 2
  ·refine iT aZ [i64 (-2)] rfl rfl (by simp) rfl λv w4 ho x4=>gE (hk _ _ (aA.of_own ho) (x3.trans x4))
 iterate 2
  ·refine iT aZ [i64 (-3),i64 (-3)] rfl rfl (by simp) rfl λv w4 ho x4=>gE (hk _ _ (aA.of_own ho) (x3.trans x4))
 iterate 3
  ·refine iT aZ [i64 (-2),i64 (-2)] rfl rfl (by simp) rfl λv w4 ho x4=>gE (hk _ _ (aA.of_own ho) (x3.trans x4))
 ·refine iT aZ [i64 (-2),i64 (-1),i64 (-1)] rfl rfl (by simp) rfl λv w4 ho x4=>gE (hk _ _ (aA.of_own ho) (x3.trans x4))
 ·exact hk _ _ (aA.nil _ _) x3
 ·refine iT aZ [i64 (-3)] rfl rfl (by simp) rfl λv w4 ho x4=>gE (hk _ _ (aA.of_own ho) (x3.trans x4))
 ·exact hk _ _ (aA.nil _ _) x3
 ·refine iT aZ [i64 (-4)] rfl rfl (by simp) rfl λv w4 ho x4=>gE (hk _ _ (aA.of_own ho) (x3.trans x4))
 ·refine iT aZ [i64 (-3)] rfl rfl (by simp) rfl λv w4 ho x4=>gE (hk _ _ (aA.of_own ho) (x3.trans x4))
 ·refine iT aZ [i64 (-4)] rfl rfl (by simp) rfl λv w4 ho x4=>gE (hk _ _ (aA.of_own ho) (x3.trans x4))
 ·refine iT aZ [i64 (-4),i64 (-3)] rfl rfl (by simp) rfl λv w4 ho x4=>gE (hk _ _ (aA.of_own ho) (x3.trans x4))
 ·refine iT aZ [i64 (-4),i64 (-3),i64 (-2)] rfl rfl (by simp) rfl λv w4 ho x4=>gE (hk _ _ (aA.of_own ho) (x3.trans x4))
 iterate 2
  ·refine iT aZ [i64 (-4),i64 (-3),i64 (-4),i64 (-3),i64 (-3)] rfl rfl (by simp) rfl λv w4 ho x4=>gE (hk _ _ (aA.of_own ho) (x3.trans x4))
 ·exact hk _ _ (aA.nil _ _) x3
 ·have a1:0<=a:=a1;obtain ⟨k,rfl⟩:∃ k:Nat,a=k:=⟨a.toNat,by omega⟩;have ha:(k:Int) < (i.fields.length:Int):=hn;have D1:aE w3 w3.drew:=(aE.refl _).drew;refine aJ.mk' (λw'=>aE w3 w') D1 ⟨.inl ⟨_,rfl⟩,?_⟩;refine yF2 (λw' hw=>h'.box.ext hw) bC eE bJ rfl ?_;refine gY (λw' hw=>hb3.ext hw) aR aF rfl ?_;refine lT aM aF h'.img.fl (λ_ h=>h) (by omega) (by omega) (fD (fY (by omega))) ?_;refine iT aZ [i64 (i.fields.getD k 0)] rfl rfl (by simp) rfl λv w4 ho x4=>⟨D1.trans x4,gE ⟨D1.trans x4,hk _ _ (aA.of_own ho) ((x3.trans D1).trans x4)⟩⟩
 ·exact hk _ _ (aA.nil _ _) x3
 ·refine iT aZ [i64 (-4),i64 (-3),i64 (-3)] rfl rfl (by simp) rfl λv w4 ho x4=>gE (hk _ _ (aA.of_own ho) (x3.trans x4))
 ·have a1:0<=a:=a1;obtain ⟨k,rfl⟩:∃ k:Nat,a=k:=⟨a.toNat,by omega⟩;have ha:(k:Int) < (i.methods.length:Int):=hn;have D1:aE w3 w3.drew:=(aE.refl _).drew;refine aJ.mk' (λw'=>aE w3 w') D1 ⟨.inl ⟨_,rfl⟩,?_⟩;refine yF2 (λw' hw=>h'.box.ext hw) bC bF fS rfl ?_;refine gY (λw' hw=>hb3.ext hw) aR aF rfl ?_;have hmi:=iI a1 hn;simp only [Int.toNat_natCast] at hmi;refine ySF iA dR bJ h'.img.mt (λ_ h=>h) hmi λrow hrow=>?_;obtain ⟨pv9,lv9,cv9,rfl,hp9,_,_⟩:=hrow;exact ⟨pv9,rfl,by decide,hk _ _ (hp9.ext D1) (x3.trans D1)⟩
 ·have a1:0<=a:=a1;obtain ⟨k,rfl⟩:∃ k:Nat,a=k:=⟨a.toNat,by omega⟩;have ha:(k:Int) < (i.imports.length:Int):=hn;have D1:aE w3 w3.drew:=(aE.refl _).drew;refine aJ.mk' (λw'=>aE w3 w') D1 ⟨.inl ⟨_,rfl⟩,?_⟩;refine yF2 (λw' hw=>h'.box.ext hw) bC dI iB rfl ?_;refine gY (λw' hw=>hb3.ext hw) aR aF rfl ?_;have hmi:=pU a1 hn;simp only [Int.toNat_natCast] at hmi;refine ySF lH bA bJ h'.img.im (λ_ h=>h) hmi λrow hrow=>?_;obtain ⟨pv9,rfl,hp9⟩:=hrow;exact ⟨pv9,rfl,by decide,hk _ _ (hp9.ext D1) (x3.trans D1)⟩
 ·refine ⟨.inl ⟨_,rfl⟩,?_⟩;refine aCf h'.box bM eX aF rfl ?_;exact uD λv w4 hv x4=>hk _ _ hv (x3.trans x4)
theorem GO {c:qF} {l:List Int} (h:QQ w c i m) (hx:rT i m x) (ht:aQ w tv l) (hln:(aI i m x).length<=l.length) (hk:∀ v w',aQ w' v (fU i m x l)->aE w w'->K v w') :
  aB prog 238 #[.pointer (some ⟨c.gb,0,none⟩),.agg #[i64 x.op,i64 x.a,i64 x.b],tv] w K:=by
 obtain ⟨op,a,b⟩:=x;obtain ⟨ir,mr,⟨ho,a1,a2,_⟩,hn⟩:=hx;apply aEv;unfold IK;refine bx λb3 w3 hb3 x3=>?_;have h':=h.ext x3;refine bQ hb3 aT aF rfl ?_;rcases vL ho with rfl|rfl|rfl|rfl|rfl|rfl|rfl|rfl|rfl|rfl|rfl|rfl|rfl|rfl|rfl|rfl|rfl|rfl|rfl|rfl|rfl|rfl|rfl|rfl|rfl|rfl|rfl|rfl|rfl|rfl|rfl|rfl|rfl|rfl|rfl|rfl|rfl|rfl|rfl<;>simp only [aN,Int.reduceEq]
 ·refine iT aZ [i64 (1)] rfl rfl (by simp) rfl λv w4 ho x4=>gE (hk _ _ (aA.of_own ho) (x3.trans x4))
 ·have a1:0<=a:=a1;obtain ⟨k,rfl⟩:∃ k:Nat,a=k:=⟨a.toNat,by omega⟩;have ha:(k:Int) < (m.locs.length:Int):=hn;have D1:aE w3 w3.drew:=(aE.refl _).drew;refine aJ.mk' (λw'=>aE w3 w') D1 ⟨.inl ⟨_,rfl⟩,?_⟩;refine gY (λw' hw=>h'.box.ext hw) cE bJ rfl ?_;refine gY (λw' hw=>hb3.ext hw) aR aF rfl ?_;refine lT aM aF h'.loc (λ_ h=>h) (by omega) (by omega) (fD (fY (by omega))) ?_;refine iT aZ [i64 (m.locs.getD k 0)] rfl rfl (by simp) rfl λv w4 ho x4=>⟨D1.trans x4,gE ⟨D1.trans x4,hk _ _ (aA.of_own ho) ((x3.trans D1).trans x4)⟩⟩
 iterate 2
  ·exact hk _ _ (aA.nil _ _) x3
 ·have hl1:1<=l.length:=hln;have D1:aE w3 w3.drew:=(aE.refl _).drew;refine aJ.mk' (λw'=>aE w3 w') D1 ?_;refine lT aM aF (ht.ext x3) (λ_ h=>h) (by omega) (by omega) (fD (j:=0) (jW (by omega))) ?_;refine lT aM aF (ht.ext x3) (λ_ h=>h) (by omega) (by omega) (fD (j:=0) (jW (by omega))) ?_;refine iT aZ [i64 (cT l 0),i64 (cT l 0)] rfl rfl (by simp) rfl λv w4 ho x4=>⟨D1.trans x4,gE ⟨D1.trans x4,hk _ _ (aA.of_own ho) ((x3.trans D1).trans x4)⟩⟩
 iterate 9
  ·have hl1:2<=l.length:=hln;have D1:aE w3 w3.drew:=(aE.refl _).drew;refine aJ.mk' (λw'=>aE w3 w') D1 ?_;refine lT aM aF (ht.ext x3) (λ_ h=>h) (by omega) (by omega) (fD (j:=0) (jW (by omega))) ?_;refine lT aM aF (ht.ext x3) (λ_ h=>h) (by omega) (by omega) (fD (j:=1) (jW (by omega))) ?_;refine tU ⟨D1,?_⟩;refine iT aZ [i64 (nT (cT l 0) (cT l 1))] rfl rfl (by simp) rfl λv w4 ho x4=>⟨D1.trans x4,gE ⟨D1.trans x4,hk _ _ (aA.of_own ho) ((x3.trans D1).trans x4)⟩⟩
 iterate 2
  ·have hl1:1<=l.length:=hln;refine kP aM aF (ht.ext x3) (by omega) (by omega) (fD (j:=0) (jW (by omega))) ?_;refine iT aZ [i64 (cT l 0)] rfl rfl (by simp) rfl λv w4 ho x4=>gE (hk _ _ (aA.of_own ho) (x3.trans x4))
 iterate 2
  ·refine iT aZ [i64 (1)] rfl rfl (by simp) rfl λv w4 ho x4=>gE (hk _ _ (aA.of_own ho) (x3.trans x4))
 iterate 3
  ·have hl1:2<=l.length:=hln;have D1:aE w3 w3.drew:=(aE.refl _).drew;refine aJ.mk' (λw'=>aE w3 w') D1 ?_;refine lT aM aF (ht.ext x3) (λ_ h=>h) (by omega) (by omega) (fD (j:=0) (jW (by omega))) ?_;refine lT aM aF (ht.ext x3) (λ_ h=>h) (by omega) (by omega) (fD (j:=1) (jW (by omega))) ?_;refine tU ⟨D1,?_⟩;refine iT aZ [i64 (nT (cT l 0) (cT l 1))] rfl rfl (by simp) rfl λv w4 ho x4=>⟨D1.trans x4,gE ⟨D1.trans x4,hk _ _ (aA.of_own ho) ((x3.trans D1).trans x4)⟩⟩
 ·have hl1:3<=l.length:=hln;refine aBn (ht.ext x3) hl1 λw5 x5=>?_;refine iT aZ [i64 (uV l)] rfl rfl (by simp) rfl λv w4 ho x4=>gE (hk _ _ (aA.of_own ho) ((x3.trans x5).trans x4))
 iterate 2
  ·exact hk _ _ (aA.nil _ _) x3
 ·refine bQ hb3 aR aF rfl ?_;refine iT aZ [i64 (a)] rfl rfl (by simp) rfl λv w4 ho x4=>gE (hk _ _ (aA.of_own ho) (x3.trans x4))
 ·refine iT aZ [i64 (1)] rfl rfl (by simp) rfl λv w4 ho x4=>gE (hk _ _ (aA.of_own ho) (x3.trans x4))
 ·refine bQ hb3 aR aF rfl ?_;refine iT aZ [i64 (a)] rfl rfl (by simp) rfl λv w4 ho x4=>gE (hk _ _ (aA.of_own ho) (x3.trans x4))
 ·refine iT aZ [i64 (1)] rfl rfl (by simp) rfl λv w4 ho x4=>gE (hk _ _ (aA.of_own ho) (x3.trans x4))
 ·have hl1:2<=l.length:=hln;refine kP aM aF (ht.ext x3) (by omega) (by omega) (fD (j:=0) (jW (by omega))) ?_;refine aRc ?_;refine iT aZ [i64 (ofK (cT l 0))] rfl rfl (by simp) rfl λv w4 ho x4=>gE (hk _ _ (aA.of_own ho) (x3.trans x4))
 iterate 2
  ·exact hk _ _ (aA.nil _ _) x3
 ·have hl1:5<=l.length:=hln;have e:∀ v w',aQ w' v (if cT l 0=4\/cT l 2=4 then [2] else [1])->aE w w'->K v w':=hk;refine kP aM aF (ht.ext x3) (by omega) (by omega) (fD (j:=0) (jW (by omega))) ?_;refine aO.2 ?_;by_cases z0:cT l 0=4
  ·simp only [z0,true_or,aN] at e ⊢;refine iT aZ [i64 (2)] rfl rfl (by simp) rfl λv w4 ho x4=>gE (e _ _ (aA.of_own ho) (x3.trans x4))
  ·simp only [z0,aN];refine kP aM aF (ht.ext x3) (by omega) (by omega) (fD (j:=2) (jW (by omega))) ?_;refine aO.2 ?_;by_cases z2:cT l 2=4
   ·simp only [z2,or_true,aN] at e ⊢;refine iT aZ [i64 (2)] rfl rfl (by simp) rfl λv w4 ho x4=>gE (e _ _ (aA.of_own ho) (x3.trans x4))
   ·simp only [z0,z2,or_self,aN] at e ⊢;refine iT aZ [i64 (1)] rfl rfl (by simp) rfl λv w4 ho x4=>gE (e _ _ (aA.of_own ho) (x3.trans x4))
 ·have a1:0<=a:=a1;obtain ⟨k,rfl⟩:∃ k:Nat,a=k:=⟨a.toNat,by omega⟩;have ha:(k:Int) < (i.fields.length:Int):=hn;have D1:aE w3 w3.drew:=(aE.refl _).drew;refine aJ.mk' (λw'=>aE w3 w') D1 ⟨.inl ⟨_,rfl⟩,?_⟩;refine yF2 (λw' hw=>h'.box.ext hw) bC eE bJ rfl ?_;refine gY (λw' hw=>hb3.ext hw) aR aF rfl ?_;refine lT aM aF h'.img.fl (λ_ h=>h) (by omega) (by omega) (fD (fY (by omega))) ?_;refine iT aZ [i64 (i.fields.getD k 0)] rfl rfl (by simp) rfl λv w4 ho x4=>⟨D1.trans x4,gE ⟨D1.trans x4,hk _ _ (aA.of_own ho) ((x3.trans D1).trans x4)⟩⟩
 ·exact hk _ _ (aA.nil _ _) x3
 ·have a1:1<=a:=a1;have a2:a<=2:=a2;refine bQ hb3 aR aF rfl (dS.2 ?_);rw [iF (by dsimp only;omega) (by dsimp only;omega)];refine iL.2 ?_;rw [iF (by dsimp only;omega) (by dsimp only;omega)];refine iT aZ [i64 (3+a - 1)] rfl rfl (by simp) rfl λv w4 ho x4=>gE (hk _ _ (aA.of_own ho) (x3.trans x4))
 ·exact hk _ _ (aA.nil _ _) x3
 ·have a1:0<=a:=a1;obtain ⟨k,rfl⟩:∃ k:Nat,a=k:=⟨a.toNat,by omega⟩;have ha:(k:Int) < (i.methods.length:Int):=hn;have D1:aE w3 w3.drew:=(aE.refl _).drew;refine aJ.mk' (λw'=>aE w3 w') D1 ⟨.inl ⟨_,rfl⟩,?_⟩;refine yF2 (λw' hw=>h'.box.ext hw) bC bF fS rfl ?_;refine gY (λw' hw=>hb3.ext hw) aR aF rfl ?_;have hmi:=iI a1 hn;simp only [Int.toNat_natCast] at hmi;refine ySF iA eX aF h'.img.mt (λ_ h=>h) hmi λrow hrow=>?_;obtain ⟨pv9,lv9,cv9,rfl,_,_,_⟩:=hrow;refine ⟨i64 (i.meth (k:Int)).result,rfl,by decide,?_⟩;exact uD λv w4 hv x4=>⟨D1.trans x4,hk _ _ hv ((x3.trans D1).trans x4)⟩
 ·have a1:0<=a:=a1;obtain ⟨k,rfl⟩:∃ k:Nat,a=k:=⟨a.toNat,by omega⟩;have ha:(k:Int) < (i.imports.length:Int):=hn;have D1:aE w3 w3.drew:=(aE.refl _).drew;refine aJ.mk' (λw'=>aE w3 w') D1 ⟨.inl ⟨_,rfl⟩,?_⟩;refine yF2 (λw' hw=>h'.box.ext hw) bC dI iB rfl ?_;refine gY (λw' hw=>hb3.ext hw) aR aF rfl ?_;have hmi:=pU a1 hn;simp only [Int.toNat_natCast] at hmi;refine ySF lH bD aF h'.img.im (λ_ h=>h) hmi λrow hrow=>?_;obtain ⟨pv9,rfl,_⟩:=hrow;refine ⟨i64 (i.imp (k:Int)).result,rfl,by decide,?_⟩;exact uD λv w4 hv x4=>⟨D1.trans x4,hk _ _ hv ((x3.trans D1).trans x4)⟩
 ·exact hk _ _ (aA.nil _ _) x3
end Go.Proofs.YtgkkecladbmjkaaGreatDoor
