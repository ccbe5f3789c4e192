/- RoomServes: Serves, Serve. -/
import Derived.Test.YtgkkecladbmjkaaGreatDoorIe
import Derived.Test.YtgkkecladbmjkaaGreatDoorId
set_option maxHeartbeats 6400000
namespace Go.Proofs.YtgkkecladbmjkaaGreatDoor
open Tryz
open Go.Vc
theorem NE {w:O}:aD prog 94 #[i64 17] w λr w'=>r=i64 (2)/\w'=w:=by
 apply oU;unfold kR;refine ⟨λv w'=>v=.bool false/\w'=w,?_,?_⟩
 ·simp only [aF,Int.reduceEq,decide_false,aA];exact ⟨trivial,trivial⟩
 rintro _ w' ⟨rfl,hw⟩ _;have hw:=hw.symm;subst hw;refine aA.2 ?_;refine ⟨λv w'=>v=.bool true/\w'=w,?_,?_⟩
 ·simp only [aF,Int.reduceEq,decide_false,decide_true,aA,aE];exact ⟨trivial,trivial⟩
 rintro _ w' ⟨rfl,hw⟩ _;have hw:=hw.symm;subst hw;refine aE.2 ?_;exact ⟨rfl,rfl⟩
theorem ND {w:O}:aD prog 94 #[i64 18] w λr w'=>r=i64 (2)/\w'=w:=by
 apply oU;unfold kR;refine ⟨λv w'=>v=.bool false/\w'=w,?_,?_⟩
 ·simp only [aF,Int.reduceEq,decide_false,aA];exact ⟨trivial,trivial⟩
 rintro _ w' ⟨rfl,hw⟩ _;have hw:=hw.symm;subst hw;refine aA.2 ?_;refine ⟨λv w'=>v=.bool true/\w'=w,?_,?_⟩
 ·simp only [aF,Int.reduceEq,decide_false,decide_true,aA,aE];exact ⟨trivial,trivial⟩
 rintro _ w' ⟨rfl,hw⟩ _;have hw:=hw.symm;subst hw;refine aE.2 ?_;exact ⟨rfl,rfl⟩
theorem NC {w:O}:aD prog 94 #[i64 27] w λr w'=>r=i64 (1)/\w'=w:=by
 apply oU;unfold kR;refine ⟨λv w'=>v=.bool true/\w'=w,?_,?_⟩
 ·simp only [aF,Int.reduceEq,decide_false,decide_true,aE];exact ⟨trivial,trivial⟩
 rintro _ w' ⟨rfl,hw⟩ _;have hw:=hw.symm;subst hw;refine aE.2 ?_;exact ⟨rfl,rfl⟩
theorem NB {w:O}:aD prog 94 #[i64 28] w λr w'=>r=i64 (1)/\w'=w:=by
 apply oU;unfold kR;refine ⟨λv w'=>v=.bool true/\w'=w,?_,?_⟩
 ·simp only [aF,Int.reduceEq,decide_false,decide_true,aA];exact ⟨trivial,trivial⟩
 rintro _ w' ⟨rfl,hw⟩ _;have hw:=hw.symm;subst hw;refine aE.2 ?_;exact ⟨rfl,rfl⟩
theorem NA {w:O}:aD prog 94 #[i64 29] w λr w'=>r=i64 (2)/\w'=w:=by
 apply oU;unfold kR;refine ⟨λv w'=>v=.bool false/\w'=w,?_,?_⟩
 ·simp only [aF,Int.reduceEq,decide_false,aA];exact ⟨trivial,trivial⟩
 rintro _ w' ⟨rfl,hw⟩ _;have hw:=hw.symm;subst hw;refine aA.2 ?_;refine ⟨λv w'=>v=.bool true/\w'=w,?_,?_⟩
 ·simp only [aF,Int.reduceEq,decide_false,decide_true,aA];exact ⟨trivial,trivial⟩
 rintro _ w' ⟨rfl,hw⟩ _;have hw:=hw.symm;subst hw;refine aE.2 ?_;exact ⟨rfl,rfl⟩
theorem MZ {w:O}:aD prog 94 #[i64 30] w λr w'=>r=i64 (3)/\w'=w:=by
 apply oU;unfold kR;refine ⟨λv w'=>v=.bool false/\w'=w,?_,?_⟩
 ·simp only [aF,Int.reduceEq,decide_false,aA];exact ⟨trivial,trivial⟩
 rintro _ w' ⟨rfl,hw⟩ _;have hw:=hw.symm;subst hw;refine aA.2 ?_;refine ⟨λv w'=>v=.bool false/\w'=w,?_,?_⟩
 ·simp only [aF,Int.reduceEq,decide_false,aA];exact ⟨trivial,trivial⟩
 rintro _ w' ⟨rfl,hw⟩ _;have hw:=hw.symm;subst hw;refine aA.2 ?_;refine ⟨λv w'=>v=.bool true/\w'=w,?_,?_⟩
 ·simp only [aF,Int.reduceEq,decide_false,decide_true,aE];exact ⟨trivial,trivial⟩
 rintro _ w' ⟨rfl,hw⟩ _;have hw:=hw.symm;subst hw;refine aE.2 ?_;exact ⟨rfl,rfl⟩
theorem MY {w:O}:aD prog 94 #[i64 31] w λr w'=>r=i64 (5)/\w'=w:=by
 apply oU;unfold kR;refine ⟨λv w'=>v=.bool false/\w'=w,?_,?_⟩
 ·simp only [aF,Int.reduceEq,decide_false,aA];exact ⟨trivial,trivial⟩
 rintro _ w' ⟨rfl,hw⟩ _;have hw:=hw.symm;subst hw;refine aA.2 ?_;refine ⟨λv w'=>v=.bool false/\w'=w,?_,?_⟩
 ·simp only [aF,Int.reduceEq,decide_false,aA];exact ⟨trivial,trivial⟩
 rintro _ w' ⟨rfl,hw⟩ _;have hw:=hw.symm;subst hw;refine aA.2 ?_;refine ⟨λv w'=>v=.bool false/\w'=w,?_,?_⟩
 ·simp only [aF,Int.reduceEq,decide_false,aA];exact ⟨trivial,trivial⟩
 rintro _ w' ⟨rfl,hw⟩ _;have hw:=hw.symm;subst hw;refine aA.2 ?_;simp only [aF,Int.reduceEq,decide_false,decide_true,aA,aE];exact ⟨trivial,trivial⟩
theorem MX {w:O}:aD prog 94 #[i64 32] w λr w'=>r=i64 (5)/\w'=w:=by
 apply oU;unfold kR;refine ⟨λv w'=>v=.bool false/\w'=w,?_,?_⟩
 ·simp only [aF,Int.reduceEq,decide_false,aA];exact ⟨trivial,trivial⟩
 rintro _ w' ⟨rfl,hw⟩ _;have hw:=hw.symm;subst hw;refine aA.2 ?_;refine ⟨λv w'=>v=.bool false/\w'=w,?_,?_⟩
 ·simp only [aF,Int.reduceEq,decide_false,aA];exact ⟨trivial,trivial⟩
 rintro _ w' ⟨rfl,hw⟩ _;have hw:=hw.symm;subst hw;refine aA.2 ?_;refine ⟨λv w'=>v=.bool false/\w'=w,?_,?_⟩
 ·simp only [aF,Int.reduceEq,decide_false,aA];exact ⟨trivial,trivial⟩
 rintro _ w' ⟨rfl,hw⟩ _;have hw:=hw.symm;subst hw;refine aA.2 ?_;simp only [aF,Int.reduceEq,decide_false,decide_true,aA,aE];exact ⟨trivial,trivial⟩
theorem MW {w:O}:aD prog 94 #[i64 36] w λr w'=>r=i64 (3)/\w'=w:=by
 apply oU;unfold kR;refine ⟨λv w'=>v=.bool false/\w'=w,?_,?_⟩
 ·simp only [aF,Int.reduceEq,decide_false,aA];exact ⟨trivial,trivial⟩
 rintro _ w' ⟨rfl,hw⟩ _;have hw:=hw.symm;subst hw;refine aA.2 ?_;refine ⟨λv w'=>v=.bool false/\w'=w,?_,?_⟩
 ·simp only [aF,Int.reduceEq,decide_false,aA];exact ⟨trivial,trivial⟩
 rintro _ w' ⟨rfl,hw⟩ _;have hw:=hw.symm;subst hw;refine aA.2 ?_;refine ⟨λv w'=>v=.bool true/\w'=w,?_,?_⟩
 ·simp only [aF,Int.reduceEq,decide_false,decide_true,aA];exact ⟨trivial,trivial⟩
 rintro _ w' ⟨rfl,hw⟩ _;have hw:=hw.symm;subst hw;refine aE.2 ?_;exact ⟨rfl,rfl⟩
theorem aDr {w:O}:aD prog 67 #[i64 17] w λr w'=>r=i64 (2)/\w'=w:=by
 apply pZ;unfold mI;refine ⟨λv w'=>v=.bool false/\w'=w,?_,?_⟩
 ·simp only [aF,Int.reduceEq,decide_false,aA];exact ⟨trivial,trivial⟩
 rintro _ w' ⟨rfl,hw⟩ _;have hw:=hw.symm;subst hw;refine aA.2 ?_;refine ⟨λv w'=>v=.bool true/\w'=w,?_,?_⟩
 ·simp only [aF,Int.reduceEq,decide_false,decide_true,aA,aE];exact ⟨trivial,trivial⟩
 rintro _ w' ⟨rfl,hw⟩ _;have hw:=hw.symm;subst hw;refine aE.2 ?_;exact ⟨rfl,rfl⟩
theorem aDq {w:O}:aD prog 67 #[i64 18] w λr w'=>r=i64 (2)/\w'=w:=by
 apply pZ;unfold mI;refine ⟨λv w'=>v=.bool false/\w'=w,?_,?_⟩
 ·simp only [aF,Int.reduceEq,decide_false,aA];exact ⟨trivial,trivial⟩
 rintro _ w' ⟨rfl,hw⟩ _;have hw:=hw.symm;subst hw;refine aA.2 ?_;refine ⟨λv w'=>v=.bool true/\w'=w,?_,?_⟩
 ·simp only [aF,Int.reduceEq,decide_false,decide_true,aA,aE];exact ⟨trivial,trivial⟩
 rintro _ w' ⟨rfl,hw⟩ _;have hw:=hw.symm;subst hw;refine aE.2 ?_;exact ⟨rfl,rfl⟩
theorem aDp {w:O}:aD prog 67 #[i64 27] w λr w'=>r=i64 (1)/\w'=w:=by
 apply pZ;unfold mI;refine ⟨λv w'=>v=.bool true/\w'=w,?_,?_⟩
 ·simp only [aF,Int.reduceEq,decide_false,decide_true,aE];exact ⟨trivial,trivial⟩
 rintro _ w' ⟨rfl,hw⟩ _;have hw:=hw.symm;subst hw;refine aE.2 ?_;exact ⟨rfl,rfl⟩
theorem aDo {w:O}:aD prog 67 #[i64 28] w λr w'=>r=i64 (1)/\w'=w:=by
 apply pZ;unfold mI;refine ⟨λv w'=>v=.bool true/\w'=w,?_,?_⟩
 ·simp only [aF,Int.reduceEq,decide_false,decide_true,aA];exact ⟨trivial,trivial⟩
 rintro _ w' ⟨rfl,hw⟩ _;have hw:=hw.symm;subst hw;refine aE.2 ?_;exact ⟨rfl,rfl⟩
theorem aDn {w:O}:aD prog 67 #[i64 29] w λr w'=>r=i64 (2)/\w'=w:=by
 apply pZ;unfold mI;refine ⟨λv w'=>v=.bool false/\w'=w,?_,?_⟩
 ·simp only [aF,Int.reduceEq,decide_false,aA];exact ⟨trivial,trivial⟩
 rintro _ w' ⟨rfl,hw⟩ _;have hw:=hw.symm;subst hw;refine aA.2 ?_;refine ⟨λv w'=>v=.bool true/\w'=w,?_,?_⟩
 ·simp only [aF,Int.reduceEq,decide_false,decide_true,aA];exact ⟨trivial,trivial⟩
 rintro _ w' ⟨rfl,hw⟩ _;have hw:=hw.symm;subst hw;refine aE.2 ?_;exact ⟨rfl,rfl⟩
theorem aDm {w:O}:aD prog 67 #[i64 30] w λr w'=>r=i64 (3)/\w'=w:=by
 apply pZ;unfold mI;refine ⟨λv w'=>v=.bool false/\w'=w,?_,?_⟩
 ·simp only [aF,Int.reduceEq,decide_false,aA];exact ⟨trivial,trivial⟩
 rintro _ w' ⟨rfl,hw⟩ _;have hw:=hw.symm;subst hw;refine aA.2 ?_;refine ⟨λv w'=>v=.bool false/\w'=w,?_,?_⟩
 ·simp only [aF,Int.reduceEq,decide_false,aA];exact ⟨trivial,trivial⟩
 rintro _ w' ⟨rfl,hw⟩ _;have hw:=hw.symm;subst hw;refine aA.2 ?_;refine ⟨λv w'=>v=.bool true/\w'=w,?_,?_⟩
 ·simp only [aF,Int.reduceEq,decide_false,decide_true,aE];exact ⟨trivial,trivial⟩
 rintro _ w' ⟨rfl,hw⟩ _;have hw:=hw.symm;subst hw;refine aE.2 ?_;exact ⟨rfl,rfl⟩
theorem aDl {w:O}:aD prog 67 #[i64 31] w λr w'=>r=i64 (5)/\w'=w:=by
 apply pZ;unfold mI;refine ⟨λv w'=>v=.bool false/\w'=w,?_,?_⟩
 ·simp only [aF,Int.reduceEq,decide_false,aA];exact ⟨trivial,trivial⟩
 rintro _ w' ⟨rfl,hw⟩ _;have hw:=hw.symm;subst hw;refine aA.2 ?_;refine ⟨λv w'=>v=.bool false/\w'=w,?_,?_⟩
 ·simp only [aF,Int.reduceEq,decide_false,aA];exact ⟨trivial,trivial⟩
 rintro _ w' ⟨rfl,hw⟩ _;have hw:=hw.symm;subst hw;refine aA.2 ?_;refine ⟨λv w'=>v=.bool false/\w'=w,?_,?_⟩
 ·simp only [aF,Int.reduceEq,decide_false,aA];exact ⟨trivial,trivial⟩
 rintro _ w' ⟨rfl,hw⟩ _;have hw:=hw.symm;subst hw;refine aA.2 ?_;simp only [aF,Int.reduceEq,decide_false,decide_true,aA,aE];exact ⟨trivial,trivial⟩
theorem aDk {w:O}:aD prog 67 #[i64 32] w λr w'=>r=i64 (5)/\w'=w:=by
 apply pZ;unfold mI;refine ⟨λv w'=>v=.bool false/\w'=w,?_,?_⟩
 ·simp only [aF,Int.reduceEq,decide_false,aA];exact ⟨trivial,trivial⟩
 rintro _ w' ⟨rfl,hw⟩ _;have hw:=hw.symm;subst hw;refine aA.2 ?_;refine ⟨λv w'=>v=.bool false/\w'=w,?_,?_⟩
 ·simp only [aF,Int.reduceEq,decide_false,aA];exact ⟨trivial,trivial⟩
 rintro _ w' ⟨rfl,hw⟩ _;have hw:=hw.symm;subst hw;refine aA.2 ?_;refine ⟨λv w'=>v=.bool false/\w'=w,?_,?_⟩
 ·simp only [aF,Int.reduceEq,decide_false,aA];exact ⟨trivial,trivial⟩
 rintro _ w' ⟨rfl,hw⟩ _;have hw:=hw.symm;subst hw;refine aA.2 ?_;simp only [aF,Int.reduceEq,decide_false,decide_true,aA,aE];exact ⟨trivial,trivial⟩
theorem aDj {w:O}:aD prog 67 #[i64 36] w λr w'=>r=i64 (3)/\w'=w:=by
 apply pZ;unfold mI;refine ⟨λv w'=>v=.bool false/\w'=w,?_,?_⟩
 ·simp only [aF,Int.reduceEq,decide_false,aA];exact ⟨trivial,trivial⟩
 rintro _ w' ⟨rfl,hw⟩ _;have hw:=hw.symm;subst hw;refine aA.2 ?_;refine ⟨λv w'=>v=.bool false/\w'=w,?_,?_⟩
 ·simp only [aF,Int.reduceEq,decide_false,aA];exact ⟨trivial,trivial⟩
 rintro _ w' ⟨rfl,hw⟩ _;have hw:=hw.symm;subst hw;refine aA.2 ?_;refine ⟨λv w'=>v=.bool true/\w'=w,?_,?_⟩
 ·simp only [aF,Int.reduceEq,decide_false,decide_true,aA];exact ⟨trivial,trivial⟩
 rintro _ w' ⟨rfl,hw⟩ _;have hw:=hw.symm;subst hw;refine aE.2 ?_;exact ⟨rfl,rfl⟩
def gN (l:List Int):Prop:=∀ z∈l,-2147483648<=z/\z<=2147483647
def pN (s:PS) (a b:Int):zT:=if b=0 then (0,28419,s) else (IntKind.i32.wrap (IntKind.i64.wrap (a.tdiv b)),36864,s)
def pM (s:PS) (a b:Int):zT:=if b=0 then (0,28419,s) else (IntKind.i32.wrap (a.tmod b),36864,s)
theorem uM {P:Program} {w:O} {t:TypeId} {k:IntKind} {a b:Int} (h:b≠0):(binOp .rem t (.int k a) (.int k b)).run P w=.ok (.int k (a.tmod b)) w:=by simp [binOp,Op.intDiv,h]
theorem qM {z:Int} (h:-2147483648<=z/\z<=2147483647):IntKind.i64.wrap z=z:=aW (by omega)
theorem aQa {w:O} {a b:Int} (ha:-2147483648<=a/\a<=2147483647) (hb:-2147483648<=b/\b<=2147483647):aD prog 185 #[i32 a,i32 b] w λr w'=>r=.tuple #[i32 (if b=0 then 0 else IntKind.i32.wrap (IntKind.i64.wrap (a.tdiv b))),.bool (decide (b≠0))]/\w'=w:=by
 apply aJn;unfold HM;refine aF.2 (aL (λh=>⟨by rw [if_pos h,decide_eq_false (λhn=>hn h)],rfl⟩) λh=>?_);refine V.ok (bG underlying21 underlying2) ?_;refine V.ok (bG underlying21 underlying2) ?_;rw [qM ha,qM hb];refine V.ok (EV h) (V.ok (bG underlying2 underlying21) ⟨by rw [if_neg h,decide_eq_true h],rfl⟩)
theorem aOd {w:O} {a b:Int} (ha:-2147483648<=a/\a<=2147483647) (hb:-2147483648<=b/\b<=2147483647):aD prog 186 #[i32 a,i32 b] w λr w'=>r=.tuple #[i32 (if b=0 then 0 else IntKind.i32.wrap (a.tmod b)),.bool (decide (b≠0))]/\w'=w:=by
 apply aJm;unfold HL;refine aF.2 (aL (λh=>⟨by rw [if_pos h,decide_eq_false (λhn=>hn h)],rfl⟩) λh=>?_);refine V.ok (bG underlying21 underlying2) ?_;refine V.ok (bG underlying21 underlying2) ?_;rw [qM ha,qM hb];refine V.ok (uM h) (V.ok (bG underlying2 underlying21) ⟨by rw [if_neg h,decide_eq_true h],rfl⟩)
theorem yE {w:O} {v:Z} {ok:Bool}:aD prog 184 #[v,.bool ok] w λr w'=>r=(if ok then .tuple #[v,i64 36864] else .tuple #[i32 0,i64 28419])/\w'=w:=by
 apply aJo;unfold HN;cases ok
 ·exact dQ.2 (aE.2 ⟨rfl,rfl⟩)
 ·exact dQ.2 (aA.2 ⟨rfl,rfl⟩)
def jS (p:RP):Z:=.pointer (some ⟨p.rb,0,none⟩)
def rL (p:RP):Z:=.pointer (some ⟨p.tb,0,none⟩)
theorem aNr {p:RP} {w:O} {who op sa sb k:Int} {av:Z} {m:Nat} {cs:List Z} (h:cA p w) (hxs:aC w av 1 m cs) (hsv:∀ {w:O},aD prog 94 #[i64 op] w λr w'=>r=i64 k/\w'=w) (hk:(m:Int)≠k) :
  aD prog 136 #[jS p,rL p,i64 who,i64 op,i64 sa,i64 sb,av] w λr w'=>zL p w (0,27013,p.ps) r w':=by
 apply vX;unfold mQ;refine V.ok (eE underlying26) ?_;simp only [dA];refine fZ fT hxs ?_;refine hsv.mono λr w' ⟨hr,hw⟩=>?_;subst hr;have hw:=hw.symm;subst hw;refine aU.2 ?_;simp only [show decide ((m:Int)≠k)=true by simpa using hk,aG,Bool.false_eq_true,reduceIte];refine aE.2 ⟨p,rfl,rfl,h,oB.of_ext (aH.refl _)⟩
theorem lU {op:Int} {nn f:Nat} (hnn:nn<=5) (hsv:∀ {w:O},aD prog 94 #[i64 op] w λr w'=>r=i64 (nn:Int)/\w'=w) (hf:(op=27/\f=187)\/(op=28/\f=188)\/(op=29/\f=189)\/(op=30/\f=190)\/(op=31/\f=191)\/(op=32/\f=192)\/(op=36/\f=193)) {p:RP} {w:O} {who sa sb:Int} {av:Z} {xs:List Int} (hxs:aC w av 1 nn (xs.map i32)) (hl:xs.length=nn) (hsm:gN xs) {Rr:Z->O->Prop}
  (hk:∀ w1 av',aH w w1->w1.ownsRow w.heap.size 3 1 av' nn (xs.map i64)->aD prog f #[oW p who sa sb av'] w1 (λr w'=>∃ p q,r=.tuple #[p,q]/\Rr (.tuple #[p,q]) w')) :
  aD prog 136 #[jS p,rL p,i64 who,i64 op,i64 sa,i64 sb,av] w Rr:=by
 refine vX ?_
 have key:∀ {R:Z->O->Prop},(∀ w1 av',aH w w1->w1.ownsRow w.heap.size 3 1 av' nn (xs.map i64)->aD prog f #[oW p who sa sb av'] w1 (λr w'=>∃ p q,r=.tuple #[p,q]/\R (.tuple #[p,q]) w'))->mQ (jS p) (rL p) (i64 who) (i64 op) (i64 sa) (i64 sb) av w R:=by
  intro R hk;unfold mQ;refine V.ok (eE underlying26) ?_;simp only [dA];refine fZ fT hxs ?_;refine hsv.mono λr w' ⟨hr,hw⟩=>?_;subst hr;have hw:=hw.symm;subst hw;refine aU.2 ?_;simp only [show decide (((nn:Nat):Int)≠(nn:Int))=false by simp,aG,Bool.false_eq_true,reduceIte];refine aA.2 ?_;refine bld LY [(0,jS p),(1,rL p),(2,i64 who),(3,i64 sa),(4,i64 sb)] rfl rfl ?_;refine yL KN rfl rfl λw1 hb1 x1=>?_;refine fZ fT (hxs.ext x1) ?_
  refine ⟨λv w'=>∃ (i:Nat) (ov:Z),v=i64 i/\i<=nn/\aH w w'/\aY w' w.heap.size [jS p,rL p,i64 who,i64 sa,i64 sb,ov] 283/\w'.ownsRow w.heap.size 3 1 ov i ((xs.take i).map i64)/\ov.ownBlock≠some w.heap.size,
   λv _=>nn - (RowKit.intOf v).toNat,⟨0,_,rfl,Nat.zero_le _,x1,hb1,by rw [List.take_zero];exact ⟨rfl,.inl ⟨rfl,rfl⟩⟩,λh=>by cases h⟩,?_⟩
  rintro _ w2 ⟨i,ov,rfl,hi,x2,hb2,ho2,hne2⟩ _;refine aV.2 (aL (λhlt=>?_) λhge=>?_)
  ·obtain ⟨z,hz⟩:=bN (l:=xs) (j:=i) (by omega);have hzb:-2147483648<=z/\z<=2147483647:=hsm z (List.mem_of_getElem? hz);refine mS fT eX (hxs.ext x2) (by omega) (by omega) (by simp [hz]:(xs.map i32)[((i:Nat):Int).toNat]?=some (i32 z)) ?_;refine bA hb2.boxed bJ aZ rfl ?_;refine V.ok (bG underlying21 underlying3) ?_;rw [aW (by omega)];refine kJ bE [i64 z] rfl rfl (by simp) rfl λv3 w3 ho3 x3=>?_;have X3:=x2.trans x3;have hb3:=hb2.ext x3;refine apL bE (x3.own ho2) ho3 (by simp) (by simp [cC]) (by omega) (by unfold maxLen;omega) X3.size λg cap w4 ho4 hg4 hlies=>?_;have f4:Fr (λj=>ov.ownBlock=some j) w3 w4:=Fr.of_grown hg4 λk hk=>hk;have hb4:=f4.blk hb3 hne2;have hbl:=hb3.lt
   have hgne:g≠w.heap.size:=by
    rcases hlies with h|h
    ·intro he;exact hne2 (he▸h)
    ·omega
   refine zK bJ iQ hb4 rfl (by simp) rfl (bS.2 ?_);rw [aW (by omega),cM];have f5:Fr (λj=>j=w.heap.size) w4 (w4.setCell ⟨w.heap.size,5,none⟩ (.slice (some ⟨g,0,none⟩) (i+1) cap)):=Fr.of_set rfl;refine ⟨⟨i+1,_,rfl,by omega,f5.ext (f4.ext X3 λj hj=>(ho2.lt j hj).1) (λj hj=>by omega),hb4.set 5 _,?_,λhe=>hgne (by cases he;rfl)⟩,by simp only [aT];omega⟩;have:=f5.own ho4 λj hj he=>hgne (by cases hj;exact he);rw [List.take_add_one,hz];simpa using this
  ·have hin:i=nn:=by omega
   subst hin;rw [List.take_of_length_le (by omega)] at ho2;have fin:=hk w2 ov x2 ho2;rcases hf with ⟨rfl,rfl⟩|⟨rfl,rfl⟩|⟨rfl,rfl⟩|⟨rfl,rfl⟩|⟨rfl,rfl⟩|⟨rfl,rfl⟩|⟨rfl,rfl⟩ <;>
   ·simp only [aF,Int.reduceEq,decide_false,decide_true,aA,aE];refine pH hb2.boxed gG rfl ?_;refine fin.mono λr w3 ⟨p,q,hr,hR⟩=>?_;subst hr;exact bU.2 (bT.2 hR)
 exact key hk
theorem KK {p:RP} {w:O} {who sa sb a b:Int} {av:Z} (h:cA p w) (hxs:aC w av 1 2 [i32 a,i32 b]) (hsm:gN [a,b]) :
  aD prog 136 #[jS p,rL p,i64 who,i64 17,i64 sa,i64 sb,av] w λr w'=>zL p w (pN p.ps a b) r w':=by
 refine vX ?_;have ha:-2147483648<=a/\a<=2147483647:=hsm a (by simp);have hb:-2147483648<=b/\b<=2147483647:=hsm b (by simp)
 have key:∀ {R:Z->O->Prop},(∀ w',aH w w'->R (.tuple #[i32 (pN p.ps a b).1,i64 (pN p.ps a b).2.1]) w')->mQ (jS p) (rL p) (i64 who) (i64 17) (i64 sa) (i64 sb) av w R:=by
  intro R hk;obtain ⟨xs,hxe⟩:∃ xs:List Int,xs=[a,b]:=⟨_,rfl⟩;have hxs:aC w av 1 2 (xs.map i32):=by rw [hxe];exact hxs
  have hl:xs.length=2:=by rw [hxe];rfl
  have hsm:gN xs:=by rw [hxe];exact hsm
  unfold mQ;refine V.ok (eE underlying26) ?_;simp only [dA];refine fZ fT hxs ?_;refine NE.mono λr w' ⟨hr,hw⟩=>?_;subst hr;have hw:=hw.symm;subst hw;refine aU.2 ?_;simp only [show decide (((2:Nat):Int)≠2)=false by decide,aG,Bool.false_eq_true,reduceIte];refine aA.2 ?_;refine bld LY [(0,jS p),(1,rL p),(2,i64 who),(3,i64 sa),(4,i64 sb)] rfl rfl ?_;refine yL KN rfl rfl λw1 hb1 x1=>?_;refine fZ fT (hxs.ext x1) ?_
  refine ⟨λv w'=>∃ (i:Nat) (ov:Z),v=i64 i/\i<=2/\aH w w'/\aY w' w.heap.size [jS p,rL p,i64 who,i64 sa,i64 sb,ov] 283/\w'.ownsRow w.heap.size 3 1 ov i ((xs.take i).map i64)/\ov.ownBlock≠some w.heap.size,
   λv _=>2 - (RowKit.intOf v).toNat,⟨0,_,rfl,Nat.zero_le _,x1,hb1,by rw [List.take_zero];exact ⟨rfl,.inl ⟨rfl,rfl⟩⟩,λh=>by cases h⟩,?_⟩
  rintro _ w2 ⟨i,ov,rfl,hi,x2,hb2,ho2,hne2⟩ _;refine aV.2 (aL (λhlt=>?_) λhge=>?_)
  ·obtain ⟨z,hz⟩:=bN (l:=xs) (j:=i) (by omega);have hzb:-2147483648<=z/\z<=2147483647:=hsm z (List.mem_of_getElem? hz);refine mS fT eX (hxs.ext x2) (by omega) (by omega) (by simp [hz]:(xs.map i32)[((i:Nat):Int).toNat]?=some (i32 z)) ?_;refine bA hb2.boxed bJ aZ rfl ?_;refine V.ok (bG underlying21 underlying3) ?_;rw [aW (by omega)];refine kJ bE [i64 z] rfl rfl (by simp) rfl λv3 w3 ho3 x3=>?_;have X3:=x2.trans x3;have hb3:=hb2.ext x3;refine apL bE (x3.own ho2) ho3 (by simp) (by simp [cC]) (by omega) (by unfold maxLen;omega) X3.size λg cap w4 ho4 hg4 hlies=>?_;have f4:Fr (λj=>ov.ownBlock=some j) w3 w4:=Fr.of_grown hg4 λk hk=>hk;have hb4:=f4.blk hb3 hne2;have hbl:=hb3.lt
   have hgne:g≠w.heap.size:=by
    rcases hlies with h|h
    ·intro he;exact hne2 (he▸h)
    ·omega
   refine zK bJ iQ hb4 rfl (by simp) rfl (bS.2 ?_);rw [aW (by omega),cM];have f5:Fr (λj=>j=w.heap.size) w4 (w4.setCell ⟨w.heap.size,5,none⟩ (.slice (some ⟨g,0,none⟩) (i+1) cap)):=Fr.of_set rfl;refine ⟨⟨i+1,_,rfl,by omega,f5.ext (f4.ext X3 λj hj=>(ho2.lt j hj).1) (λj hj=>by omega),hb4.set 5 _,?_,λhe=>hgne (by cases he;rfl)⟩,by simp only [aT];omega⟩;have:=f5.own ho4 λj hj he=>hgne (by cases hj;exact he);rw [List.take_add_one,hz];simpa using this
  ·have hin:i=2:=by omega
   subst hin;simp only [aF,Int.reduceEq,decide_false,decide_true,aA,aE];have D2:aH w2 w2.drew:=(aH.refl _).drew;have hx2:=hxs.ext x2;have g0:(xs.map i32)[(0:Int).toNat]?=some (i32 a):=by rw [hxe];rfl
   have g1:(xs.map i32)[(1:Int).toNat]?=some (i32 b):=by rw [hxe];rfl
   refine aI.mk' (λw'=>aH w2 w') D2 ?_;refine gV fT eX hx2 (λw' hw=>hw) (by omega) (by omega) g0 ?_;refine gV fT eX hx2 (λw' hw=>hw) (by omega) (by omega) g1 ?_;refine (aQa ha hb).mono λr w3 ⟨hr,hw⟩=>?_;subst hr;have hw:=hw.symm;subst hw;refine ⟨D2,?_⟩;refine aB.ok (λw' _=>fV) ?_;refine aB.ok (λw' _=>fU) ?_;refine yE.mono λr w3 ⟨hr,hw⟩=>?_;have hw:=hw.symm;subst hw;have hkk:=hk w2.drew (x2.trans D2);unfold pN at hkk;by_cases hb0:b=0
   ·rw [decide_eq_false (λhn=>hn hb0)] at hr;rw [if_pos hb0] at hkk;subst hr;refine ⟨D2,?_⟩;refine aB.ok (λw' _=>fV) ?_;refine aB.ok (λw' _=>fU) ?_;exact hkk
   ·rw [decide_eq_true hb0,if_neg hb0] at hr;rw [if_neg hb0] at hkk;subst hr;refine ⟨D2,?_⟩;refine aB.ok (λw' _=>fV) ?_;refine aB.ok (λw' _=>fU) ?_;exact hkk
 refine key λw' hx=>⟨p,rfl,?_,h.ext hx,oB.of_ext hx⟩;unfold pN;split<;>rfl
theorem KJ {p:RP} {w:O} {who sa sb a b:Int} {av:Z} (h:cA p w) (hxs:aC w av 1 2 [i32 a,i32 b]) (hsm:gN [a,b]) :
  aD prog 136 #[jS p,rL p,i64 who,i64 18,i64 sa,i64 sb,av] w λr w'=>zL p w (pM p.ps a b) r w':=by
 refine vX ?_;have ha:-2147483648<=a/\a<=2147483647:=hsm a (by simp);have hb:-2147483648<=b/\b<=2147483647:=hsm b (by simp)
 have key:∀ {R:Z->O->Prop},(∀ w',aH w w'->R (.tuple #[i32 (pM p.ps a b).1,i64 (pM p.ps a b).2.1]) w')->mQ (jS p) (rL p) (i64 who) (i64 18) (i64 sa) (i64 sb) av w R:=by
  intro R hk;obtain ⟨xs,hxe⟩:∃ xs:List Int,xs=[a,b]:=⟨_,rfl⟩;have hxs:aC w av 1 2 (xs.map i32):=by rw [hxe];exact hxs
  have hl:xs.length=2:=by rw [hxe];rfl
  have hsm:gN xs:=by rw [hxe];exact hsm
  unfold mQ;refine V.ok (eE underlying26) ?_;simp only [dA];refine fZ fT hxs ?_;refine ND.mono λr w' ⟨hr,hw⟩=>?_;subst hr;have hw:=hw.symm;subst hw;refine aU.2 ?_;simp only [show decide (((2:Nat):Int)≠2)=false by decide,aG,Bool.false_eq_true,reduceIte];refine aA.2 ?_;refine bld LY [(0,jS p),(1,rL p),(2,i64 who),(3,i64 sa),(4,i64 sb)] rfl rfl ?_;refine yL KN rfl rfl λw1 hb1 x1=>?_;refine fZ fT (hxs.ext x1) ?_
  refine ⟨λv w'=>∃ (i:Nat) (ov:Z),v=i64 i/\i<=2/\aH w w'/\aY w' w.heap.size [jS p,rL p,i64 who,i64 sa,i64 sb,ov] 283/\w'.ownsRow w.heap.size 3 1 ov i ((xs.take i).map i64)/\ov.ownBlock≠some w.heap.size,
   λv _=>2 - (RowKit.intOf v).toNat,⟨0,_,rfl,Nat.zero_le _,x1,hb1,by rw [List.take_zero];exact ⟨rfl,.inl ⟨rfl,rfl⟩⟩,λh=>by cases h⟩,?_⟩
  rintro _ w2 ⟨i,ov,rfl,hi,x2,hb2,ho2,hne2⟩ _;refine aV.2 (aL (λhlt=>?_) λhge=>?_)
  ·obtain ⟨z,hz⟩:=bN (l:=xs) (j:=i) (by omega);have hzb:-2147483648<=z/\z<=2147483647:=hsm z (List.mem_of_getElem? hz);refine mS fT eX (hxs.ext x2) (by omega) (by omega) (by simp [hz]:(xs.map i32)[((i:Nat):Int).toNat]?=some (i32 z)) ?_;refine bA hb2.boxed bJ aZ rfl ?_;refine V.ok (bG underlying21 underlying3) ?_;rw [aW (by omega)];refine kJ bE [i64 z] rfl rfl (by simp) rfl λv3 w3 ho3 x3=>?_;have X3:=x2.trans x3;have hb3:=hb2.ext x3;refine apL bE (x3.own ho2) ho3 (by simp) (by simp [cC]) (by omega) (by unfold maxLen;omega) X3.size λg cap w4 ho4 hg4 hlies=>?_;have f4:Fr (λj=>ov.ownBlock=some j) w3 w4:=Fr.of_grown hg4 λk hk=>hk;have hb4:=f4.blk hb3 hne2;have hbl:=hb3.lt
   have hgne:g≠w.heap.size:=by
    rcases hlies with h|h
    ·intro he;exact hne2 (he▸h)
    ·omega
   refine zK bJ iQ hb4 rfl (by simp) rfl (bS.2 ?_);rw [aW (by omega),cM];have f5:Fr (λj=>j=w.heap.size) w4 (w4.setCell ⟨w.heap.size,5,none⟩ (.slice (some ⟨g,0,none⟩) (i+1) cap)):=Fr.of_set rfl;refine ⟨⟨i+1,_,rfl,by omega,f5.ext (f4.ext X3 λj hj=>(ho2.lt j hj).1) (λj hj=>by omega),hb4.set 5 _,?_,λhe=>hgne (by cases he;rfl)⟩,by simp only [aT];omega⟩;have:=f5.own ho4 λj hj he=>hgne (by cases hj;exact he);rw [List.take_add_one,hz];simpa using this
  ·have hin:i=2:=by omega
   subst hin;simp only [aF,Int.reduceEq,decide_false,decide_true,aA,aE];have D2:aH w2 w2.drew:=(aH.refl _).drew;have hx2:=hxs.ext x2;have g0:(xs.map i32)[(0:Int).toNat]?=some (i32 a):=by rw [hxe];rfl
   have g1:(xs.map i32)[(1:Int).toNat]?=some (i32 b):=by rw [hxe];rfl
   refine aI.mk' (λw'=>aH w2 w') D2 ?_;refine gV fT eX hx2 (λw' hw=>hw) (by omega) (by omega) g0 ?_;refine gV fT eX hx2 (λw' hw=>hw) (by omega) (by omega) g1 ?_;refine (aOd ha hb).mono λr w3 ⟨hr,hw⟩=>?_;subst hr;have hw:=hw.symm;subst hw;refine ⟨D2,?_⟩;refine aB.ok (λw' _=>fV) ?_;refine aB.ok (λw' _=>fU) ?_;refine yE.mono λr w3 ⟨hr,hw⟩=>?_;have hw:=hw.symm;subst hw;have hkk:=hk w2.drew (x2.trans D2);unfold pM at hkk;by_cases hb0:b=0
   ·rw [decide_eq_false (λhn=>hn hb0)] at hr;rw [if_pos hb0] at hkk;subst hr;refine ⟨D2,?_⟩;refine aB.ok (λw' _=>fV) ?_;refine aB.ok (λw' _=>fU) ?_;exact hkk
   ·rw [decide_eq_true hb0,if_neg hb0] at hr;rw [if_neg hb0] at hkk;subst hr;refine ⟨D2,?_⟩;refine aB.ok (λw' _=>fV) ?_;refine aB.ok (λw' _=>fU) ?_;exact hkk
 refine key λw' hx=>⟨p,rfl,?_,h.ext hx,oB.of_ext hx⟩;unfold pM;split<;>rfl
section
variable {p:RP} {w w':O}
theorem wQ {ar:List bW} {k:Nat} {x:bW} (hk:ar[k]?=some x) (v':Z) (d':List Int):iG (ar.set k { x with dv:=v',data:=d' })=(iG ar).set (k*5+4) v':=by
 have hkl:k < ar.length:=(List.getElem?_eq_some_iff.1 hk).1;apply List.ext_getElem?;intro j;by_cases hj:j < ar.length*5
 ·obtain ⟨a,ha⟩:=bN (l:=ar) (j:=j / 5) (by omega);have e:j=j / 5*5+j % 5:=by omega
  have hm:j % 5 < 5:=Nat.mod_lt _ (by decide);by_cases hjk:k=j / 5
  ·have h1:(ar.set k { x with dv:=v',data:=d' })[j / 5]?=some { x with dv:=v',data:=d' }:=by rw [<- hjk,List.getElem?_set_self hkl]
   have hL:(iG (ar.set k { x with dv:=v',data:=d' }))[j]?=({ x with dv:=v',data:=d' }:bW).cells[j % 5]?:=by
    have:=iY h1 hm
    rwa [<- e] at this
   rw [hL];by_cases h4:k*5+4=j
   ·have:j % 5=4:=by omega
    rw [<- h4,List.getElem?_set_self (by rw [qO];omega),h4,this];rfl
   ·rw [List.getElem?_set_ne h4]
    have hR:(iG ar)[j]?=x.cells[j % 5]?:=by
     have:=iY (ar:=ar) (k:=j / 5) (a:=x) (j:=j % 5) (by rw [<- hjk];exact hk) hm
     rwa [<- e] at this
    rw [hR];have h5:j % 5=0\/j % 5=1\/j % 5=2\/j % 5=3:=by omega
    rcases h5 with h5|h5|h5|h5<;>rw [h5]<;>rfl
  ·have h1:(ar.set k { x with dv:=v',data:=d' })[j / 5]?=some a:=by rw [List.getElem?_set_ne hjk];exact ha
   have hL:=iY h1 hm;have hR:=iY ha hm;rw [<- e] at hL hR;rw [hL,List.getElem?_set_ne (by omega),hR]
 ·rw [List.getElem?_eq_none (by rw [qO];simp;omega),List.getElem?_eq_none (by simp [qO];omega)]
theorem vI {P:Program} {t e:TypeId} {z:Z} {by_:Nat} (ht:P.underlying t=some (.slice e)) (hi:cS P e z 1 by_) {ty:TypeId} {a b:Option Addr} {n c d:Nat} (hn:n<=c) :
  (Builtin.append_ #[t,t] ty #[.slice a n c,.slice b 0 d]).run P w=.ok (.slice a n c) w:=by
 obtain ⟨i,hi',_,_,_⟩:=info_parts hi;have h0:(Builtin.firstCells i.size 0 (.slice b 0 d)).run P w=.ok #[] w:=by cases b<;>simp [Builtin.firstCells,loadCells,loadCellsFrom]
 cases a<;>simp [Builtin.append_,run_underlying ht,sizeOf,typeInfo,hi',Builtin.lenOf,hn,h0,storeCells]
theorem TK {v:Z} {l:List Int} (h:hY w v l) (hl:l.length<=4294967296):aD prog 58 #[v] w λr w'=>w'.ownsRow w.heap.size 5 1 r l.length (l.map u8)/\aH w w':=by
 rcases h with ⟨rfl,rfl⟩|⟨ad,c,rfl,hb⟩
 ·exact rC (l:=[]) (aC.nil _ _) (by simp)
 ·by_cases h0:0 < l.length
  ·exact rC (hb h0) hl
  ·have hl0:l=[]:=List.eq_nil_of_length_eq_zero (by omega);subst hl0;apply YV;unfold DM;refine V.ok (kA underlying23) (aA.2 ?_);refine kJ lL [] rfl rfl (by simp) rfl λv1 w1 ho x1=>?_;obtain ⟨a,c1,rfl⟩:=(aC.of_own ho).shape;refine V.ok (vI underlying23 mU (Nat.zero_le _)) ⟨ho,x1⟩
theorem hY.shape {v:Z} {l:List Int} (h:hY w v l):∃ a c,v=.slice a l.length c:=by
 rcases h with ⟨rfl,rfl⟩|⟨ad,c,rfl,_⟩
 ·exact ⟨none,0,rfl⟩
 ·exact ⟨_,_,rfl⟩
def jV (s:PS) (a b:List Int):Bool × PS:=if a.length > 64\/b.length > 64 then (false,s) else (true,{ s with ar:=EM (EM s.ar 1 a) 2 b,tp:=[],ts:=[] })
theorem uJ {ar:List bW} {r:Int} {k:Nat} {x:bW} (hk:ar[k]?=some x) (hr:r=(k:Int)+1) (v':Z) (d:List Int):(ar.set k { x with dv:=v',data:=d }).map pa=EM (ar.map pa) r d:=by
 unfold EM;rw [List.getElem?_map,show r.toNat - 1=k by omega,hk,map_set];rfl
theorem EF (h:cA p w):aD prog 24 #[jS p] w λr w'=>(∃ v1 v2,r=.tuple #[v1,v2]/\cJ w' v1 p.tp/\cJ w' v2 p.ts)/\aH w w':=by
 apply aSr;unfold QO;have m1:=h.lp;have m2:=h.ls;have D:aH w w.drew:=(aH.refl _).drew;refine aI.mk' (λw'=>aH w w') D ⟨.inl ⟨_,rfl⟩,?_⟩;refine dS (λw' hw=>(h.room.ext hw).boxed) fA fO rfl ⟨.inl ⟨_,rfl⟩,?_⟩;refine dS (λw' hw=>(h.room.ext hw).boxed) eZ fO rfl ?_;refine (rC (aC.of_own (D.own h.qp)) (by omega)).mono λv1 w1 ⟨ho1,x1⟩=>?_;have X1:=D.trans x1;refine ⟨X1,?_⟩;refine (rC (aC.of_own (X1.own h.qs)) (by omega)).mono λv2 w2 ⟨ho2,x2⟩=>?_;exact ⟨X1.trans x2,⟨_,_,rfl,aC.of_own (x2.own ho1),aC.of_own ho2⟩,X1.trans x2⟩
theorem kS (h:cA p w):aD prog 39 #[jS p] w λr w'=>r=.pointer (some ⟨p.hb,0,none⟩)/\w'=w:=by
 apply YY;unfold DS;exact ⟨.inl ⟨_,rfl⟩,bA h.room.boxed bV eA rfl ⟨rfl,rfl⟩⟩
theorem sU (h:cA p w):aD prog 55 #[.pointer (some ⟨p.hb,0,none⟩)] w λr w'=>r=i64 ((p.ar.length:Nat):Int)/\w'=w:=by
 apply aRz;unfold QA;exact ⟨.inl ⟨_,rfl⟩,bA h.h.heap.boxed cF cL rfl (kM.2 ⟨rfl,rfl⟩)⟩
theorem PC (h:cA p w) (hl:p.tr.length<=100000):aD prog 22 #[rL p] w λr w'=>aC w' r 4 p.tr.length (nI p.tr)/\aH w w':=by
 apply aSt;unfold QQ;refine V.ok (eE underlying48) (aA.2 ⟨.inl ⟨_,rfl⟩,?_⟩);refine bA h.tbox.boxed dW rZ rfl ?_;have hs:=aC.of_own h.trow;refine aD.mono (R:=λr w'=>aC w' r 4 p.tr.length (nI p.tr)/\aH w w') ?_ λ_ _ h=>h;apply aSa;unfold QB;obtain ⟨a,c,hv⟩:=hs.shape;rw [hv] at hs ⊢;refine V.ok (kA underlying50) ?_;cases a with
 | none=>
  refine aE.2 ⟨?_,aH.refl _⟩;rcases hs.2 with ⟨he,h0⟩|⟨_,_,_,he,_⟩
  ·rw [he] at hs;exact hs
  ·simp at he
 | some a=>
  refine aA.2 ?_;refine V.ok (v:=.slice (some ⟨w.heap.size,0,none⟩) 0 0) (w':=w.alloc (.cells (([]:List Z)).toArray 54)) (by kernel_rfl) ?_;have hb1:aY (w.alloc (.cells (([]:List Z)).toArray 54)) w.heap.size [] 54:=by unfold aY;rw [heap_alloc_new]
  have x1:aH w (w.alloc (.cells (([]:List Z)).toArray 54)):=(aH.refl _).alloc _;generalize w.alloc (.cells (([]:List Z)).toArray 54)=w1 at hb1 x1 ⊢;have ho1:w1.ownsRow w.heap.size 54 4 (.slice (some ⟨w.heap.size,0,none⟩) 0 0) 0 []:=dZ hb1 rfl (Nat.le_refl _) (by unfold maxLen;omega);have s1:=x1.size;refine apA underlying50 AY rfl (by omega) ho1 (hs.ext x1) (aDg _) (by omega) (by unfold maxLen;omega) (by omega) λv2 w2 ho2 hg=>?_;rw [Nat.zero_add,List.nil_append] at ho2;exact ⟨aC.of_own ho2,x1.grown hg λk hk=>(ho1.lt k hk).1⟩
end
structure QP where
 (xb yb ub g cap:Nat) (size:Int) (ar:List bW) (iv fv pub sec uv:Z) (tp ts:List Int) (tr:List qK)
def QP.ps (q:QP):PS:=⟨q.size,q.ar.map pa,q.tp,q.ts,q.tr⟩
def nZ (q:QP) (i:Nat):Prop:=i=q.xb\/i=q.yb\/i=q.ub\/q.uv.ownBlock=some i
def DD (q:QP) (i:Nat):Prop:=i=q.g\/(∃ a∈q.ar,a.dv.ownBlock=some i)\/q.pub.ownBlock=some i\/q.sec.ownBlock=some i
structure dH (q:QP) (w:O):Prop where
 xbox:lK w q.xb 0 [.pointer (some ⟨q.yb,0,none⟩),q.iv,q.fv,q.pub,q.sec]
 ybox:aY w q.yb [i64 q.size,.slice (some ⟨q.g,0,none⟩) q.ar.length q.cap] 156
 ubox:aY w q.ub [q.uv] 66
 list:w.ownsRow 0 127 5 (.slice (some ⟨q.g,0,none⟩) q.ar.length q.cap) q.ar.length (iG q.ar)
 data:∀ a∈q.ar,w.ownsRow 0 5 1 a.dv a.data.length (a.data.map u8)
 len:∀ a∈q.ar,a.data.length<=64
 qp:w.ownsRow 0 5 1 q.pub q.tp.length (q.tp.map u8)
 qs:w.ownsRow 0 5 1 q.sec q.ts.length (q.ts.map u8)
 lp:q.tp.length<=128
 ls:q.ts.length<=128
 trow:w.ownsRow 0 54 4 q.uv q.tr.length (nI q.tr)
 xy:q.xb≠q.yb
 xu:q.xb≠q.ub
 yu:q.yb≠q.ub
 une:∀ i,q.uv.ownBlock=some i->i≠q.xb/\i≠q.yb/\i≠q.ub
 dj:∀ i,nZ q i->¬ DD q i
 two:2<=q.ar.length
 cnt:q.ar.length<=1000
 sz:0<=q.size/\q.size<=1000
variable {q:QP} {w w':O}
theorem dH.hi (h:dH q w):∀ i,nZ q i\/DD q i->i < w.heap.size:=by
 intro i hm;rcases hm with (rfl|rfl|rfl|he)|rfl|⟨a,ha,he⟩|he|he
 ·exact h.xbox.lt
 ·exact h.ybox.lt
 ·exact h.ubox.lt
 ·exact (h.trow.lt _ he).2
 ·exact (h.list.lt _ rfl).2
 ·exact ((h.data a ha).lt _ he).2
 ·exact (h.qp.lt _ he).2
 ·exact (h.qs.lt _ he).2
theorem dH.fr {S:Nat->Prop} (h:dH q w) (f:Fr S w w') (hn:∀ i,S i->¬ nZ q i/\¬ DD q i):dH q w':=
 ⟨f.seg h.xbox λhs=>(hn _ hs).1 (.inl rfl),f.blk h.ybox λhs=>(hn _ hs).1 (.inr (.inl rfl)),f.blk h.ubox λhs=>(hn _ hs).1 (.inr (.inr (.inl rfl))),
  f.own h.list λi hi hs=>(hn i hs).2 (.inl (by simpa [Value.ownBlock] using hi.symm)),λa ha=>f.own (h.data a ha) λi hi hs=>(hn i hs).2 (.inr (.inl ⟨a,ha,hi⟩)),h.len,
  f.own h.qp λi hi hs=>(hn i hs).2 (.inr (.inr (.inl hi))),f.own h.qs λi hi hs=>(hn i hs).2 (.inr (.inr (.inr hi))),h.lp,h.ls,f.own h.trow λi hi hs=>(hn i hs).1 (.inr (.inr (.inr hi))),h.xy,h.xu,h.yu,h.une,h.dj,h.two,h.cnt,h.sz⟩
theorem dH.ext (h:dH q w) (hx:aH w w'):dH q w':=h.fr (Fr.of_ext (S:=λ_=>False) hx) λ_ hf=>hf.elim
structure mP (q q':QP) (w w':O):Prop where
 xb:q'.xb=q.xb
 yb:q'.yb=q.yb
 ub:q'.ub=q.ub
 size:q'.size=q.size
 iv:q'.iv=q.iv
 fv:q'.fv=q.fv
 mu:∀ i,nZ q' i\/DD q' i->nZ q i\/DD q i\/w.heap.size<=i
 mm:∀ i,nZ q' i->nZ q i\/w.heap.size<=i
 fr:Fr (nZ q) w w'
theorem mP.of_ext (hx:aH w w'):mP q q w w':=⟨rfl,rfl,rfl,rfl,rfl,rfl,λ_ hi=>hi.elim .inl λh=>.inr (.inl h),λ_ hi=>.inl hi,Fr.of_ext hx⟩
theorem mP.trans {q1 q2:QP} {w1 w2:O} (h:mP q q1 w w1) (k:mP q1 q2 w1 w2):mP q q2 w w2:=
 ⟨k.xb.trans h.xb,k.yb.trans h.yb,k.ub.trans h.ub,k.size.trans h.size,k.iv.trans h.iv,k.fv.trans h.fv,λi hi=>by
  rcases k.mu i hi with h1|h1|h1
  ·exact h.mu i (.inl h1)
  ·exact h.mu i (.inr h1)
  ·exact .inr (.inr (Nat.le_trans h.fr.size h1)),λi hi=>by
  rcases k.mm i hi with h1|h1
  ·exact h.mm i h1
  ·exact .inr (Nat.le_trans h.fr.size h1),h.fr.trans k.fr λi hi hs=>by
  rcases h.mm i hs with h1|h1
  ·exact h1
  ·omega⟩
def MO (q:QP):Z:=.pointer (some ⟨q.yb,0,none⟩)
def rV (q:QP):Z:=.pointer (some ⟨q.xb,0,none⟩)
def ubT (q:QP):Z:=.pointer (some ⟨q.ub,0,none⟩)
theorem dH.get (h:dH q w) {k:Nat} {a:bW} (hk:q.ar[k]?=some a) {j:Nat} (hj:j < 5):w.cell? ⟨q.g,k*5+j,none⟩=a.cells[j]?:=by
 obtain ⟨u,hu⟩:=bN (l:=a.cells) (j:=j) (by simp [bW.cells];omega);have:=h.list.cells (g:=q.g) rfl (k*5+j) u (by rw [iY hk hj];exact hu);rw [fS] at this;rw [hu];simpa using this
theorem dH.one (h:dH q w) {k:Nat} {a:bW} (hk:q.ar[k]?=some a):cC a.dv=true:=bQ (h.data a (List.mem_of_getElem? hk))
theorem CZ (h:dH q w) {k:Nat} {x:bW} (hk:q.ar[k]?=some x) {r:Int} (hr:r=(k:Int)+1) :
  aD prog 105 #[MO q,i64 r] w λv w'=>v=.tuple #[.agg x.cells.toArray,.bool true]/\aH w w':=by
 have hkl:k < q.ar.length:=(List.getElem?_eq_some_iff.1 hk).1;have hc:=h.cnt;apply RG;unfold uE;refine MF fG λw1 hz x1=>?_;refine aV.2 ?_;simp only [show ¬ r < 1 by omega,dA,aG,reduceIte,Bool.false_eq_true,decide_false];refine ⟨.inl ⟨_,rfl⟩,?_⟩;refine bA (h.ybox.ext x1).boxed bZ cL rfl (kM.2 ?_);simp only [show ¬ r > ((q.ar.length:Nat):Int) by omega,cY,aA,decide_false];refine ⟨.inl ⟨_,rfl⟩,?_⟩;refine bA (h.ybox.ext x1).boxed bZ cL rfl (iK.2 ?_);rw [show IntKind.i64.wrap (r - 1)=(k:Int) from by rw [aW (by omega)];omega];refine V.ok (nP (by omega) (by omega)) ?_;have e:0+((k:Nat):Int).toNat*5=k*5:=by omega
 rw [e];refine V.ok (wT (cs:=x.cells) rfl λj hj=>(h.ext x1).get hk hj) ?_;refine EK fG hz (l:=x.cells) rfl rfl rfl (fH (h.one hk)) λw6 h6 hch=>?_;exact ⟨_,rX underlying127 rfl fG h6 rfl,⟨_,rfl⟩,rfl,hch.ext w x1 (Nat.le_refl _)⟩
theorem aFo (h:dH q w) {r:Int} (hr:¬ (1<=r/\r<=q.ar.length)) :
  aD prog 105 #[MO q,i64 r] w λv w'=>v=.tuple #[.agg YE.cells.toArray,.bool false]/\aH w w':=by
 apply RG
 have key:∀ {R:Z->O->Prop},(∀ w',aH w w'->R (.tuple #[.agg YE.cells.toArray,.bool false]) w')->uE (MO q) (i64 r) w R:=by
  intro R hR;unfold uE;refine MF fG λw1 hz x1=>?_
  have fin:V prog (Instr.build 127 #[]) w1 λt17 w11=>U prog (Instr.storeAt 127 (.pointer (some ⟨w.heap.size,0,none⟩)) t17) w11 λ_ w12=>
    ∃ r1,(loadVar 127 (match (Value.pointer (some ⟨w.heap.size,0,none⟩)) with|.pointer (some p)=>p|_=>⟨0,0,none⟩)).run prog w12=.ok r1 w12/\(∃ p,(Value.pointer (some ⟨w.heap.size,0,none⟩))=Value.pointer (some p))/\R (.tuple #[r1,(Value.bool false)]) w12:=by
   refine bld lI [] rfl rfl ?_;refine EK fG hz (l:=YE.cells) rfl rfl rfl rfl λw6 h6 hch=>?_;exact ⟨_,rX underlying127 rfl fG h6 rfl,⟨_,rfl⟩,hR _ (hch.ext w x1 (Nat.le_refl _))⟩
  refine aV.2 ?_;by_cases h1:r < 1
  ·simp only [h1,iB,aG,aE,reduceIte,decide_true];exact fin
  simp only [h1,dA,aG,reduceIte,Bool.false_eq_true,decide_false];refine ⟨.inl ⟨_,rfl⟩,?_⟩;refine bA (h.ybox.ext x1).boxed bZ cL rfl (kM.2 ?_);simp only [show r > ((q.ar.length:Nat):Int) by omega,cY,aE,decide_true];exact fin
 exact key λw' hx=>⟨rfl,hx⟩
theorem aEo {a:bW} {who:Int}:aD prog 141 #[.agg a.cells.toArray,i64 who] w λr w'=>r=.bool (pR a who)/\aH w w':=by
 apply aKv;unfold IY;refine bx λb w1 hb x1=>?_;refine bA hb cW aJ rfl (aF.2 ?_);by_cases h1:a.owner=-1
 ·simp only [h1,iB,aG,reduceIte,decide_true];exact ⟨by simp [pR,h1],x1⟩
 simp only [h1,dA,aG,reduceIte,Bool.false_eq_true,decide_false];refine bA hb cW aJ rfl (aF.2 ?_);by_cases h2:a.owner=who
 ·simp only [h2,iB,aG,reduceIte,decide_true];exact ⟨by simp [pR,h2],x1⟩
 simp only [h2,dA,aG,reduceIte,Bool.false_eq_true,decide_false];refine bA hb dN mT rfl ?_;exact ⟨by simp [pR,h1,h2],x1⟩
theorem BG (h:dH q w) {r who:Int} :
  aD prog 104 #[MO q,i64 r,i64 who] w λv w'=>v=i64 (DZ q.ar r who)/\aH w w':=by
 apply aLy;unfold JU;by_cases h1:1<=r/\r<=q.ar.length
 ·obtain ⟨k,a,hk,hr⟩:=KP h1;refine (CZ h hk hr).mono λv w1 ⟨hv,x1⟩=>?_;subst hv;refine bU.2 (bT.2 ?_);refine yL mR rfl (fH (h.one hk)) λw2 hc x2=>?_;refine dQ.2 (aA.2 ?_);refine pH hc.boxed xL rfl ?_;refine aEo.mono λv w3 ⟨hv,x3⟩=>?_;subst hv;have X:=(x1.trans x2).trans x3;rw [LV hk hr];refine dQ.2 (aO.mk (λhn=>⟨?_,X⟩) λhn=>⟨?_,X⟩)
  ·have:pR a who=false:=by simpa using hn
   rw [if_neg (by rw [this];simp)]
  ·have:pR a who=true:=by simpa using hn
   rw [if_pos this]
 ·refine (aFo h h1).mono λv w1 ⟨hv,x1⟩=>?_;subst hv;refine bU.2 (bT.2 ?_);refine yL mR rfl rfl λw2 hc x2=>?_;refine dQ.2 (aE.2 ⟨?_,x1.trans x2⟩);unfold DZ;rw [if_neg h1]
theorem kW (h:dH q w) {r a n who:Int} :
  aD prog 106 #[MO q,i64 r,i64 a,i64 n,i64 who] w λv w'=>v=i64 (gW (q.ar.map pa) r a n who)/\aH w w':=by
 rw [<- jH];apply aLx;unfold JT;refine (BG h).mono λv w1 ⟨hv,x1⟩=>?_;subst hv;refine aU.2 (aL (λhne=>?_) λhfine=>?_)
 ·refine ⟨?_,x1⟩;unfold CF;rw [if_neg hne]
 have hfine':DZ q.ar r who=36864:=by omega
 obtain ⟨k,x,hk,hr,hm⟩:=rD hfine';have hxl:=h.len x (List.mem_of_getElem? hk)
 have er:CF q.ar r a n who=if a < 0\/n < 0\/a > x.data.length\/n > x.data.length - a then 28418 else 36864:=by
  unfold CF;rw [if_pos hfine',show r.toNat - 1=k by omega,hk]
 rw [er];refine (CZ (h.ext x1) hk hr).mono λv w2 ⟨hv,x2⟩=>?_;subst hv;refine bU.2 (bT.2 ?_);refine yL mR rfl (fH (h.one hk)) λw3 hc x3=>?_;have X:=(x1.trans x2).trans x3;have hs:=aC.of_own (X.own (h.data x (List.mem_of_getElem? hk)));refine aV.2 ?_;by_cases h1:a < 0
 ·simp only [h1,iB,aG,aE,reduceIte,decide_true];exact ⟨by rw [if_pos (.inl trivial)],X⟩
 simp only [h1,aV,dA,aG,reduceIte,Bool.false_eq_true,decide_false];by_cases h2:n < 0
 ·simp only [h2,iB,aG,aE,reduceIte,decide_true];exact ⟨by rw [if_pos (.inr (.inl trivial))],X⟩
 simp only [h2,dA,reduceIte,Bool.false_eq_true,decide_false];refine bA hc.boxed bH fO rfl ?_;refine fZ iO hs (cY.2 ?_);by_cases h3:a > ((x.data.length:Nat):Int)
 ·simp only [h3,iB,aG,aE,reduceIte,decide_true];exact ⟨by rw [if_pos (.inr (.inr (.inl trivial)))],X⟩
 simp only [h3,dA,aG,reduceIte,Bool.false_eq_true,decide_false];refine bA hc.boxed bH fO rfl (fZ iO hs (iK.2 ?_));rw [aW (by omega)];by_cases h4:n > ((x.data.length:Nat):Int) - a
 ·simp only [h4,cY,aE,decide_true];exact ⟨by simp,X⟩
 simp only [h4,cY,aA,decide_false];exact ⟨by simp,X⟩
theorem EC (h:dH q w):aD prog 140 #[MO q] w λv w'=>(v=i64 ((gJ (q.ar.map pa):Nat):Int)/\gJ (q.ar.map pa)<=72*(q.ar.length - 2))/\w'=w:=by
 apply aKw;unfold IZ;have hc:=h.cnt;have h2:=h.two;refine ⟨λv v' w'=>∃ z i:Nat,v=i64 (z:Int)/\v'=i64 ((i+2:Nat):Int)/\i<=q.ar.length - 2/\z<=72*i/\z=EE (q.ar.map pa) i/\w'=w,λ_ v _=>q.ar.length - (RowKit.intOf v).toNat,⟨0,0,rfl,rfl,Nat.zero_le _,Nat.le_refl _,rfl,rfl⟩,?_⟩;rintro _ _ w1 ⟨z,i,rfl,rfl,hi,hz2,hz,hw⟩ _;have hw:=hw.symm;subst hw;refine ⟨.inl ⟨_,rfl⟩,?_⟩;refine bA h.ybox.boxed bZ cL rfl (kM.2 ?_);refine aV.2 (aL (λhlt=>?_) λhge=>?_)
 ·obtain ⟨a,ha⟩:=bN (l:=q.ar) (j:=i+2) (by omega);have hal:=h.len a (List.mem_of_getElem? ha);have ho:=h.data a (List.mem_of_getElem? ha);refine bS.2 ?_;rw [aW (by omega)];refine ⟨.inl ⟨_,rfl⟩,?_⟩;refine bA h.ybox.boxed bZ cL rfl ?_;refine V.ok (nP (by omega) (by omega)) ?_;have e:0+((i+2:Nat):Int).toNat*5=(i+2)*5:=by omega
  rw [e];refine V.ok iT ?_;refine V.ok (jM (h.get ha (by omega:4 < 5))) ?_;refine fZ iO (aC.of_own ho) ?_;refine bS.2 ?_;rw [aW (by omega)];refine bS.2 ?_;rw [aW (by omega)];exact ⟨⟨z+(8+a.data.length),i+1,by congr 1;omega,by congr 1,by omega,by omega,by rw [zU ha,hz],rfl⟩,by simp only [RowKit.intOf];omega⟩
 ·have e:i=q.ar.length - 2:=by omega
  have e2:gJ (q.ar.map pa)=z:=by unfold gJ;rw [List.length_map,<- e,hz]
  rw [e2];exact ⟨⟨rfl,by omega⟩,rfl⟩
theorem UK (h:dH q w) (hl:q.tr.length<=100000) {e:qK}:aD prog 61 #[ubT q,.agg e.cells.toArray] w λ_ w'=>
  ∃ uv',dH { q with uv:=uv',tr:=q.tr++[e] } w'/\mP q { q with uv:=uv',tr:=q.tr++[e] } w w':=by
 apply aRx;unfold PY;refine uG λw0 hb0 x0=>?_;have h0:=h.ext x0;refine V.ok (AD underlying62) ?_;simp only [uU];refine ⟨.inl ⟨_,rfl⟩,?_⟩;refine bA h0.ubox.boxed lG rZ rfl (fZ qA (aC.of_own h0.trow) (aV.2 ?_));simp only [show ((q.tr.length:Nat):Int) < 200000 by omega,decide_true,aG,reduceIte];refine aE.2 ?_;have D:aH w0 w0.drew:=(aH.refl _).drew;have s0:=x0.size;have hub:∀ i,q.uv.ownBlock=some i->i < w.heap.size:=λi hi=>h.hi i (.inl (.inr (.inr (.inr hi))));have hnb:¬ q.uv.ownBlock=some w.heap.size:=λhe=>by have:=hub _ he;omega
 have hnu:¬ q.uv.ownBlock=some q.ub:=λhe=>(h.une _ he).2.2 rfl;refine aI.mk' (λw'=>Fr (λi=>q.uv.ownBlock=some i) w0 w') (Fr.of_ext D) ⟨.inl ⟨_,rfl⟩,?_⟩;refine dS (λw' hw=>(hw.blk h0.ubox hnu).boxed) lG rZ rfl ?_;refine yA (λw' hw=>(hw.blk hb0 hnb).boxed) OB rfl ?_;refine V.ok (v:=.slice (some ⟨w0.drew.heap.size,0,none⟩) 1 1) (w':=w0.drew.alloc (.cells e.cells.toArray 54)) (by kernel_rfl) ?_;have hb1:aY (w0.drew.alloc (.cells e.cells.toArray 54)) w0.drew.heap.size e.cells 54:=by unfold aY;rw [heap_alloc_new]
 have x1:aH w0.drew (w0.drew.alloc (.cells e.cells.toArray 54)):=(aH.refl _).alloc _;have d0:=D.size;have hdz:w0.drew.heap.size=w0.heap.size:=rfl;generalize w0.drew.alloc (.cells e.cells.toArray 54)=w1 at hb1 x1 ⊢;have X1:=D.trans x1;have s1:=X1.size;refine ⟨Fr.of_ext X1,?_⟩;have ho1:w1.ownsRow 0 54 4 (.slice (some ⟨w0.drew.heap.size,0,none⟩) 1 1) 1 e.cells:=dZ hb1 rfl (Nat.zero_le _) (by unfold maxLen;omega);have h1:=h0.ext X1;refine apZ underlying50 AY rfl (by omega) h1.trow ho1 (by omega) (by rfl) (by omega) (by unfold maxLen;omega) (by omega) λg' cap' w2 ho2 hg2 hlies=>?_;have f2:Fr (λi=>q.uv.ownBlock=some i) w1 w2:=Fr.of_grown hg2 λk hk=>hk;have f02:Fr (λi=>q.uv.ownBlock=some i) w0 w2:=(Fr.of_ext (S:=λi=>q.uv.ownBlock=some i) X1).trans f2 λ_ _ h=>h;refine ⟨f02,.inl ⟨_,rfl⟩,?_⟩;refine aB.ok (λw' _=>SC) ?_;have hb2:=f02.blk h0.ubox hnu;have hul:=h.ubox.lt;refine tF AZ hb2 rfl (by simp) rfl ?_;have f3:Fr (λi=>i=q.ub) w2 (w2.setCell ⟨q.ub,0,none⟩ (.slice (some ⟨g',0,none⟩) (q.tr.length+1) cap')):=Fr.of_set rfl;have hb3:=hb2.set 0 (.slice (some ⟨g',0,none⟩) (q.tr.length+1) cap')
 have hlie:q.uv.ownBlock=some g'\/w.heap.size<=g':=by
  rcases hlies with hl|hl
  ·exact .inl hl
  ·exact .inr (by omega)
 have hgu:¬ g'=q.ub:=λhe=>by
  rcases hlie with hl|hl
  ·exact hnu (he▸hl)
  ·omega
 have ho3:=f3.own ho2 λk hk=>by
  have:g'=k:=by simpa [Value.ownBlock] using hk
  omega
 generalize w2.setCell ⟨q.ub,0,none⟩ (.slice (some ⟨g',0,none⟩) (q.tr.length+1) cap')=w3 at f3 hb3 ho3 ⊢;have F:Fr (λi=>i=q.ub\/q.uv.ownBlock=some i) w w3:=((Fr.of_ext (S:=λi=>q.uv.ownBlock=some i) x0).trans f02 λ_ _ h=>h).or f3 |>.mono λi hi=>hi.symm;have hM:∀ i,(i=q.ub\/q.uv.ownBlock=some i)->nZ q i:=λi hi=>hi.elim (λh=>.inr (.inr (.inl h))) λh=>.inr (.inr (.inr h));have hC:∀ i,(i=q.ub\/q.uv.ownBlock=some i)->¬ DD q i:=λi hi=>h.dj i (hM i hi);have hx:¬ (q.xb=q.ub\/q.uv.ownBlock=some q.xb):=λhi=>hi.elim h.xu λe=>(h.une _ e).1 rfl;have hy:¬ (q.yb=q.ub\/q.uv.ownBlock=some q.yb):=λhi=>hi.elim h.yu λe=>(h.une _ e).2.1 rfl;have hxl:=h.xbox.lt;have hyl:=h.ybox.lt
 have mm:∀ i,nZ { q with uv:=.slice (some ⟨g',0,none⟩) (q.tr.length+1) cap',tr:=q.tr++[e] } i->nZ q i\/w.heap.size<=i:=λi hi=>by
  rcases hi with hi|hi|hi|hi
  ·exact .inl (.inl hi)
  ·exact .inl (.inr (.inl hi))
  ·exact .inl (.inr (.inr (.inl hi)))
  ·have:g'=i:=by simpa [Value.ownBlock] using hi
   subst this;exact hlie.imp (λh=>.inr (.inr (.inr h))) id
 refine ⟨.slice (some ⟨g',0,none⟩) (q.tr.length+1) cap',⟨F.seg h.xbox hx,F.blk h.ybox hy,hb3,F.own h.list λi hi hs=>hC i hs (.inl (by simpa [Value.ownBlock] using hi.symm)),λa ha=>F.own (h.data a ha) λi hi hs=>hC i hs (.inr (.inl ⟨a,ha,hi⟩)),h.len,F.own h.qp λi hi hs=>hC i hs (.inr (.inr (.inl hi))),F.own h.qs λi hi hs=>hC i hs (.inr (.inr (.inr hi))),h.lp,h.ls,?_,h.xy,h.xu,h.yu,λi hi=>?_,λi hi hc=>?_,h.two,h.cnt,h.sz⟩,⟨rfl,rfl,rfl,rfl,rfl,rfl,λi hi=>?_,mm,F.mono hM⟩⟩
 ·show w3.ownsRow 0 54 4 (.slice (some ⟨g',0,none⟩) (q.tr.length+1) cap') (q.tr++[e]).length (nI (q.tr++[e]));rw [MV,List.length_append];have:nI [e]=e.cells:=by simp [nI]
  rw [this];exact ho3
 ·have hgi:g'=i:=by simpa [Value.ownBlock] using hi
  subst hgi;rcases hlie with hl|hl
  ·exact h.une _ hl
  ·exact ⟨by show g'≠q.xb;omega,by show g'≠q.yb;omega,by show g'≠q.ub;omega⟩
 ·rcases mm i hi with hm|hm
  ·exact h.dj i hm hc
  ·have:=h.hi i (.inr hc);omega
 ·rcases hi with hi|hi
  ·exact (mm i hi).imp id .inr
  ·exact .inr (.inl hi)
section
variable {w w':O} {K:Z->O->Prop}
theorem GI (hk:∀ w',w'.ownsRow w.heap.size 127 5 (.slice (some ⟨w.heap.size,0,none⟩) 0 0) 0 []->aH w w'->w.heap.size < w'.heap.size->K (.slice (some ⟨w.heap.size,0,none⟩) 0 0) w'):V prog (Instr.buildSlice 154 0 #[]) w K:=by
 refine V.ok (v:=.slice (some ⟨w.heap.size,0,none⟩) 0 0) (w':=w.alloc (.cells (([]:List Z)).toArray 127)) (by kernel_rfl) ?_;have hb1:aY (w.alloc (.cells (([]:List Z)).toArray 127)) w.heap.size [] 127:=by unfold aY;rw [heap_alloc_new]
 exact hk _ (dZ hb1 rfl (Nat.le_refl _) (by unfold maxLen;omega)) ((aH.refl _).alloc _) hb1.lt
theorem OR {B g cap n:Nat} {v:Z} {cs:List Z} (ho:w.ownsRow B 127 5 v 0 []) (hs:w.ownsRow 0 127 5 (.slice (some ⟨g,0,none⟩) n cap) n cs) (hn:0 < n) (hn2:n<=1000) (h1:cs.all cC=true) (hB:B<=w.heap.size)
  (hk:∀ g' cap' w',w'.ownsRow B 127 5 (.slice (some ⟨g',0,none⟩) n cap') n cs->w.grownBy w' v.ownBlock->(v.ownBlock=some g'\/g'=w.heap.size)->g' < w'.heap.size->K (.slice (some ⟨g',0,none⟩) n cap') w') :
  V prog (Builtin.append_ #[154,154] 154 #[v,.slice (some ⟨g,0,none⟩) n cap]) w K:=by
 refine apZ underlying154 fG rfl (by omega) ho hs hn h1 (by omega) (by unfold maxLen;omega) hB λg' cap' w2 ho2 hg2 hlies=>?_;rw [Nat.zero_add,List.nil_append] at ho2;rw [Nat.zero_add];exact hk g' cap' w2 ho2 hg2 hlies (ho2.lt _ rfl).2
theorem ER {ar:List bW} (h:∀ a∈ar,cC a.dv=true):(iG ar).all cC=true:=by
 rw [List.all_eq_true];intro v hv;obtain ⟨a,ha,he⟩:=List.mem_flatMap.1 hv;exact List.all_eq_true.1 (fH (h a ha)) v he
end
section
variable {q:QP} {w w':O}
theorem dH.rowOne (h:dH q w):(iG q.ar).all cC=true:=ER λa ha=>bQ (h.data a ha)
theorem dH.setL (h:dH q w) {g' cap':Nat} {ar':List bW} (hl:w.ownsRow 0 127 5 (.slice (some ⟨g',0,none⟩) ar'.length cap') ar'.length (iG ar')) (hd:∀ a∈ar',w.ownsRow 0 5 1 a.dv a.data.length (a.data.map u8)) (hlen:∀ a∈ar',a.data.length<=64) (h2:2<=ar'.length) (hc:ar'.length<=1000) (hg:¬ nZ q g') (hn:∀ a∈ar',∀ i,a.dv.ownBlock=some i->¬ nZ q i) :
  dH { q with g:=g',cap:=cap',ar:=ar' } (w.setCell ⟨q.yb,1,none⟩ (.slice (some ⟨g',0,none⟩) ar'.length cap'))/\Fr (λi=>i=q.yb) w (w.setCell ⟨q.yb,1,none⟩ (.slice (some ⟨g',0,none⟩) ar'.length cap')):=by
 have f:Fr (λi=>i=q.yb) w (w.setCell ⟨q.yb,1,none⟩ (.slice (some ⟨g',0,none⟩) ar'.length cap')):=Fr.of_set rfl;have hM:nZ q q.yb:=.inr (.inl rfl)
 refine ⟨⟨f.seg h.xbox h.xy,h.ybox.set 1 _,f.blk h.ubox λe=>h.yu e.symm,f.own hl λi hi e=>hg (by have h1:g'=i:=(by simpa [Value.ownBlock] using hi);rw [h1,e];exact hM),λa ha=>f.own (hd a ha) λi hi e=>hn a ha i hi (e▸hM),hlen,
  f.own h.qp λi hi e=>h.dj i (e▸hM) (.inr (.inr (.inl hi))),f.own h.qs λi hi e=>h.dj i (e▸hM) (.inr (.inr (.inr hi))),h.lp,h.ls,f.own h.trow λi hi e=>(h.une i hi).2.1 e,h.xy,h.xu,h.yu,h.une,λi hi hr=>?_,h2,hc,h.sz⟩,f⟩
 rcases hr with hr|⟨a,ha,he⟩|hr|hr
 ·have hr:i=g':=hr;exact hg (hr▸hi)
 ·exact hn a ha i he hi
 ·exact h.dj i hi (.inr (.inr (.inl hr)))
 ·exact h.dj i hi (.inr (.inr (.inr hr)))
theorem dH.stpL (_:dH q w) {w1:O} {g' cap':Nat} {ar':List bW} (hf:Fr (nZ q) w w1) (hg:g'=q.g\/w.heap.size<=g') (hn:∀ a∈ar',∀ i,a.dv.ownBlock=some i->(∃ b∈q.ar,b.dv.ownBlock=some i)\/w.heap.size<=i):mP q { q with g:=g',cap:=cap',ar:=ar' } w w1:=by
 refine ⟨rfl,rfl,rfl,rfl,rfl,rfl,λi hi=>?_,λi hi=>.inl hi,hf⟩;rcases hi with hi|hi|⟨a,ha,he⟩|hi
 ·exact .inl hi
 ·have hi:i=g':=hi;rcases hg with hg|hg
  ·exact .inr (.inl (.inl (hi.trans hg)))
  ·exact .inr (.inr (hi▸hg))
 ·rcases hn a ha i he with ⟨b,hb,e⟩|hs
  ·exact .inr (.inl (.inr (.inl ⟨b,hb,e⟩)))
  ·exact .inr (.inr hs)
 ·exact .inr (.inl (.inr (.inr hi)))
theorem MT:∀ (l:List PA) (i:Nat),i<=l.length - 2->8*i<=EE l i
 | l,0,_=>Nat.zero_le _
 | l,i+1,hi=>by
  have ih:=MT l i (by omega);obtain ⟨a,ha⟩:=bN (l:=l) (j:=i+2) (by omega);have hd:(l.drop 2)[i]?=some a:=by rw [List.getElem?_drop,show 2+i=i+2 by omega];exact ha
  unfold EE at ih ⊢;rw [List.take_add_one,hd];simp [List.sum_append] at ih ⊢;omega
theorem ED (ar:List bW) (_:2<=ar.length):8*(ar.length - 2)<=gJ (ar.map pa):=by
 have:=MT (ar.map pa) (ar.length - 2) (by simp);unfold gJ;simpa using this
theorem ME (h:dH q w) {who life:Int} {n:Nat} {share:Bool} (hl:0<=life/\life<=3) (hn:n<=64) :
  aD prog 103 #[MO q,i64 who,i64 3,i64 life,.bool share,i64 (n:Int)] w λv w'=>
   ((life > 2\/8+(n:Int) > q.size - gJ (q.ar.map pa))/\v=.tuple #[i64 0,.bool false]/\aH w w')\/(¬ (life > 2\/8+(n:Int) > q.size - gJ (q.ar.map pa))/\v=.tuple #[i64 ((q.ar.length+1:Nat):Int),.bool true]/\∃ g' cap' dv,dH { q with g:=g',cap:=cap',ar:=q.ar++[⟨who,3,life,share,dv,List.replicate n 0⟩] } w'/\mP q { q with g:=g',cap:=cap',ar:=q.ar++[⟨who,3,life,share,dv,List.replicate n 0⟩] } w w'/\Fr (λi=>i=q.yb) w w'):=by
 apply RH;unfold zI;have hcnt:=h.cnt;have htwo:=h.two;have hszq:=h.sz;have D0:aH w w.drew:=(aH.refl _).drew;refine aI.mk' (λw'=>aH w w') D0 ?_;refine aB.ok (λw' _=>oM) ?_;simp only [show decide ((3:Int)≠3)=false by decide,jP,CW,aG,reduceIte,Bool.false_eq_true];refine aB.ok (λw' _=>nO) ?_;simp only [show ¬ life < 0 by omega,jP,aG,reduceIte,Bool.false_eq_true,decide_false];refine aB.ok (λw' _=>nR) ?_;by_cases hlife:life > 2
 ·simp only [hlife,iB,sV,aG,aE,reduceIte,decide_true];exact ⟨D0,.inl ⟨.inl (by first|exact hlife|trivial),by first|rfl|trivial,D0⟩⟩
 simp only [hlife,jP,aG,reduceIte,Bool.false_eq_true,decide_false];refine aB.ok (λw' _=>nO) ?_;simp only [show ¬ ((n:Nat):Int) < 0 by omega,jP,aG,reduceIte,Bool.false_eq_true,decide_false];refine aB.ok (λw' _=>nR) ?_;simp only [show ¬ ((n:Nat):Int) > 64 by omega,dA,jP,aG,reduceIte,Bool.false_eq_true,decide_false];refine aB.ok (λw' _=>lO) ?_;rw [aW (by omega)];refine ⟨.inl ⟨_,rfl⟩,?_⟩;refine dS (λw' hw=>(h.ybox.ext hw).boxed) eI aJ rfl ?_;refine (EC (h.ext D0)).mono λv w' ⟨⟨hv,hz2⟩,hw⟩=>?_;subst hv;have hw:=hw.symm;subst hw;refine ⟨D0,?_⟩;refine aB.ok (λw' _=>nN) ?_;rw [aW (by omega)];refine aB.ok (λw' _=>nR) ?_;refine aL (λhfull=>.inl ⟨by first|exact .inr hfull|exact hfull|omega,by first|rfl|trivial,D0⟩) λhroom=>?_;have X3:aH w w.drew.drew:=D0.drew;have hz3:=X3.size;refine ⟨λw'=>∃ g' cap' dv,dH { q with g:=g',cap:=cap',ar:=q.ar++[⟨who,3,life,share,dv,List.replicate n 0⟩] } w'/\mP q { q with g:=g',cap:=cap',ar:=q.ar++[⟨who,3,life,share,dv,List.replicate n 0⟩] } w w'/\Fr (λi=>i=q.yb) w w',?_,?_⟩
 ·refine aI.mk' (λw'=>aH w w') X3 ⟨.inl ⟨_,rfl⟩,?_⟩;refine dS (λw' hw=>(h.ybox.ext hw).boxed) bZ cL rfl ?_
  have fin:∀ {w7:O} {b60 g54 c54 b62:Nat},aY w7 b60 (List.replicate n (u8 0)) 5->w7.ownsRow w.heap.size 127 5 (.slice (some ⟨g54,0,none⟩) q.ar.length c54) q.ar.length (iG q.ar)->aY w7 b62 (⟨who,3,life,share,.slice (some ⟨b60,0,none⟩) n n,List.replicate n 0⟩:bW).cells 127->aH w w7->w.heap.size<=b60->b60≠g54->b60≠b62->g54≠b62 ->
    V prog (Builtin.append_ #[154,154] 154 #[.slice (some ⟨g54,0,none⟩) q.ar.length c54,.slice (some ⟨b62,0,none⟩) 1 1]) w7 λt63 w8=>aH w w8/\Go.Vc.aN (MO q)/\aB prog (λw'=>aH w w') (Instr.fieldAt 156 (MO q) 1) λt65=>U prog (Instr.storeAt 154 t65 t63) w8 λ_ w9=>
     ∃ g' cap' dv,dH { q with g:=g',cap:=cap',ar:=q.ar++[⟨who,3,life,share,dv,List.replicate n 0⟩] } w9/\mP q { q with g:=g',cap:=cap',ar:=q.ar++[⟨who,3,life,share,dv,List.replicate n 0⟩] } w w9/\Fr (λi=>i=q.yb) w w9:=by
   intro w7 b60 g54 c54 b62 hdv h54 h62 X7 hb60 hne1 hne2 hne3;have s7:=X7.size;have ho62:w7.ownsRow 0 127 5 (.slice (some ⟨b62,0,none⟩) 1 1) 1 _:=dZ h62 rfl (Nat.zero_le _) (by unfold maxLen;omega);refine apZ underlying154 fG rfl (by omega) h54 ho62 (by omega) rfl (by omega) (by unfold maxLen;omega) s7 λg' cap' w8 ho8 hg8 hlies=>?_;have f8:Fr (λi=>i=g54) w7 w8:=Fr.of_grown hg8 λi hi=>by simpa [Value.ownBlock] using hi.symm
   have X8:aH w w8:=X7.grown hg8 λi hi=>(h54.lt i hi).1;have hlies:g'=g54\/g'=w7.heap.size:=hlies.imp (λh=>by simpa [Value.ownBlock] using h.symm) id;have hg54:w.heap.size<=g54:=(h54.lt _ rfl).1;have h8:=h.ext X8;have hdl:=hdv.lt;have hg'w:w.heap.size<=g':=by omega
   have hdv8:w8.ownsRow 0 5 1 (.slice (some ⟨b60,0,none⟩) n n) (List.replicate n (0:Int)).length ((List.replicate n (0:Int)).map u8):=by
    have:=dZ (B:=0) (size:=1) (n:=n) (f8.blk hdv hne1) (by simp) (Nat.zero_le _) (by unfold maxLen;omega);simpa using this
   have hnM:∀ i,w.heap.size<=i->¬ nZ q i:=λi hi hm=>by have:=h.hi i (.inl hm);omega
   refine ⟨X8,.inl ⟨_,rfl⟩,?_⟩;refine aB.ok (λw' _=>pO) ?_;refine tF oR h8.ybox rfl (by simp) rfl ?_
   have hlist:w8.ownsRow 0 127 5 (.slice (some ⟨g',0,none⟩) (q.ar++[(⟨who,3,life,share,.slice (some ⟨b60,0,none⟩) n n,List.replicate n 0⟩:bW)]).length cap') (q.ar++[(⟨who,3,life,share,.slice (some ⟨b60,0,none⟩) n n,List.replicate n 0⟩:bW)]).length (iG (q.ar++[⟨who,3,life,share,.slice (some ⟨b60,0,none⟩) n n,List.replicate n 0⟩])):=by
    rw [uK,List.length_append];exact aQ ho8 (Nat.zero_le _)
   have used:8*(q.ar.length - 2)<=gJ (q.ar.map pa):=ED q.ar htwo
   obtain ⟨h9,f9⟩:=h8.setL hlist (λa ha=>by
    rcases List.mem_append.1 ha with ha|ha
    ·exact h8.data a ha
    ·obtain rfl:=List.mem_singleton.1 ha;exact hdv8) (λa ha=>by
    rcases List.mem_append.1 ha with ha|ha
    ·exact h.len a ha
    ·obtain rfl:=List.mem_singleton.1 ha;simpa using hn) (by simp;omega) (by simp;omega) (hnM _ hg'w) (λa ha i hi=>by
    rcases List.mem_append.1 ha with ha|ha
    ·exact λhm=>h.dj i hm (.inr (.inl ⟨a,ha,hi⟩))
    ·obtain rfl:=List.mem_singleton.1 ha;have:b60=i:=by simpa [Value.ownBlock] using hi
     exact hnM i (by omega))
   rw [List.length_append] at h9 f9;refine ⟨g',cap',_,h9,h.stpL ((Fr.of_ext (S:=nZ q) X8).trans (f9.mono λi hi=>.inr (.inl hi)) λ_ _ h=>h) (.inr hg'w) λa ha i hi=>?_,(Fr.of_ext (S:=λi=>i=q.yb) X8).trans f9 λ_ _ h=>h⟩;rcases List.mem_append.1 ha with ha|ha
   ·exact .inl ⟨a,ha,hi⟩
   ·obtain rfl:=List.mem_singleton.1 ha;have:b60=i:=by simpa [Value.ownBlock] using hi
    exact .inr (by omega)
  generalize w.drew.drew=w3 at X3 hz3 ⊢;refine ⟨?_,?_⟩
  ·refine GI λw4 h49 x4 l4=>?_;have X4:=X3.trans x4;have h49:=aQ h49 X3.size;have s4:=x4.size;have t4:=X4.size;refine ⟨X4,?_⟩;refine ⟨?_,?_⟩
   ·refine OR h49 (X4.own h.list) (by omega) (by omega) h.rowOne X4.size λg54 c54 w5 h54 hg54 hl54 l5=>?_;have X5:aH w w5:=X4.grown hg54 λi hi=>(h49.lt i hi).1;have f54:Fr (λi=>i=w3.heap.size) w4 w5:=Fr.of_grown hg54 λi hi=>by simpa [Value.ownBlock] using hi.symm
    have s5:=f54.size;have hl54:g54=w3.heap.size\/g54=w4.heap.size:=hl54.imp (λh=>by simpa [Value.ownBlock] using h.symm) id;have t5:=X5.size;refine ⟨X5,?_⟩;refine xJ (n:=n) rfl underlying23 mU rfl (by omega) (by omega) λw6 hdv x6 l6=>?_;have X6:=X5.trans x6;have s6:=x6.size;have h54:=x6.own h54;have t6:=X6.size;refine ⟨X6,?_⟩;refine qL lI [(0,i64 who),(1,i64 3),(2,i64 life),(3,.bool share),(4,.slice (some ⟨w5.heap.size,0,none⟩) n n)] rfl rfl ?_;refine V.ok (v:=.slice (some ⟨w6.heap.size,0,none⟩) 1 1) (w':=w6.alloc (.cells (⟨who,3,life,share,.slice (some ⟨w5.heap.size,0,none⟩) n n,List.replicate n 0⟩:bW).cells.toArray 127)) (by kernel_rfl) ?_;have h62:aY (w6.alloc (.cells (⟨who,3,life,share,.slice (some ⟨w5.heap.size,0,none⟩) n n,List.replicate n 0⟩:bW).cells.toArray 127)) w6.heap.size (⟨who,3,life,share,.slice (some ⟨w5.heap.size,0,none⟩) n n,List.replicate n 0⟩:bW).cells 127:=by unfold aY;rw [heap_alloc_new]
    have x7:aH w6 (w6.alloc (.cells (⟨who,3,life,share,.slice (some ⟨w5.heap.size,0,none⟩) n n,List.replicate n 0⟩:bW).cells.toArray 127)):=(aH.refl _).alloc _;have l7:=h62.lt;generalize w6.alloc (.cells (⟨who,3,life,share,.slice (some ⟨w5.heap.size,0,none⟩) n n,List.replicate n 0⟩:bW).cells.toArray 127)=w7 at h62 x7 l7 ⊢;have X7:=X6.trans x7;have s7:=x7.size;have h54:=x7.own h54;have hdv:=hdv.ext x7;have t7:=X7.size;refine ⟨X7,?_⟩;exact fin hdv h54 h62 X7 (by omega) (by omega) (by omega) (by omega)
   ·refine xJ (n:=n) rfl underlying23 mU rfl (by omega) (by omega) λw5 hdv x5 l5=>?_;have X5:=X4.trans x5;have s5:=x5.size;have h49:=x5.own h49;have t5:=X5.size;refine ⟨X5,?_⟩;refine qL lI [(0,i64 who),(1,i64 3),(2,i64 life),(3,.bool share),(4,.slice (some ⟨w4.heap.size,0,none⟩) n n)] rfl rfl ?_;refine ⟨?_,?_⟩
    ·refine OR h49 (X5.own h.list) (by omega) (by omega) h.rowOne X5.size λg54 c54 w6 h54 hg54 hl54 l6=>?_;have X6:aH w w6:=X5.grown hg54 λi hi=>(h49.lt i hi).1;have f54:Fr (λi=>i=w3.heap.size) w5 w6:=Fr.of_grown hg54 λi hi=>by simpa [Value.ownBlock] using hi.symm
     have s6:=f54.size;have hl54:g54=w3.heap.size\/g54=w5.heap.size:=hl54.imp (λh=>by simpa [Value.ownBlock] using h.symm) id;have hdv:=f54.blk hdv (by omega);have t6:=X6.size;refine ⟨X6,?_⟩;refine V.ok (v:=.slice (some ⟨w6.heap.size,0,none⟩) 1 1) (w':=w6.alloc (.cells (⟨who,3,life,share,.slice (some ⟨w4.heap.size,0,none⟩) n n,List.replicate n 0⟩:bW).cells.toArray 127)) (by kernel_rfl) ?_;have h62:aY (w6.alloc (.cells (⟨who,3,life,share,.slice (some ⟨w4.heap.size,0,none⟩) n n,List.replicate n 0⟩:bW).cells.toArray 127)) w6.heap.size (⟨who,3,life,share,.slice (some ⟨w4.heap.size,0,none⟩) n n,List.replicate n 0⟩:bW).cells 127:=by unfold aY;rw [heap_alloc_new]
     have x7:aH w6 (w6.alloc (.cells (⟨who,3,life,share,.slice (some ⟨w4.heap.size,0,none⟩) n n,List.replicate n 0⟩:bW).cells.toArray 127)):=(aH.refl _).alloc _;have l7:=h62.lt;generalize w6.alloc (.cells (⟨who,3,life,share,.slice (some ⟨w4.heap.size,0,none⟩) n n,List.replicate n 0⟩:bW).cells.toArray 127)=w7 at h62 x7 l7 ⊢;have X7:=X6.trans x7;have s7:=x7.size;have hdv:=hdv.ext x7;have h54:=x7.own h54;have t7:=X7.size;refine ⟨X7,?_⟩;exact fin hdv h54 h62 X7 (by omega) (by omega) (by omega) (by omega)
    ·refine V.ok (v:=.slice (some ⟨w5.heap.size,0,none⟩) 1 1) (w':=w5.alloc (.cells (⟨who,3,life,share,.slice (some ⟨w4.heap.size,0,none⟩) n n,List.replicate n 0⟩:bW).cells.toArray 127)) (by kernel_rfl) ?_;have h62:aY (w5.alloc (.cells (⟨who,3,life,share,.slice (some ⟨w4.heap.size,0,none⟩) n n,List.replicate n 0⟩:bW).cells.toArray 127)) w5.heap.size (⟨who,3,life,share,.slice (some ⟨w4.heap.size,0,none⟩) n n,List.replicate n 0⟩:bW).cells 127:=by unfold aY;rw [heap_alloc_new]
     have x6:aH w5 (w5.alloc (.cells (⟨who,3,life,share,.slice (some ⟨w4.heap.size,0,none⟩) n n,List.replicate n 0⟩:bW).cells.toArray 127)):=(aH.refl _).alloc _;have l6:=h62.lt;generalize w5.alloc (.cells (⟨who,3,life,share,.slice (some ⟨w4.heap.size,0,none⟩) n n,List.replicate n 0⟩:bW).cells.toArray 127)=w6 at h62 x6 l6 ⊢;have X6:=X5.trans x6;have s6:=x6.size;have h49:=x6.own h49;have hdv:=hdv.ext x6;have t6:=X6.size;refine ⟨X6,?_⟩;refine OR h49 (X6.own h.list) (by omega) (by omega) h.rowOne X6.size λg54 c54 w7 h54 hg54 hl54 l7=>?_;have X7:aH w w7:=X6.grown hg54 λi hi=>(h49.lt i hi).1;have f54:Fr (λi=>i=w3.heap.size) w6 w7:=Fr.of_grown hg54 λi hi=>by simpa [Value.ownBlock] using hi.symm
     have s7:=f54.size;have hl54:g54=w3.heap.size\/g54=w6.heap.size:=hl54.imp (λh=>by simpa [Value.ownBlock] using h.symm) id;have hdv:=f54.blk hdv (by omega);have h62:=f54.blk h62 (by omega);have t7:=X7.size;refine ⟨X7,?_⟩;exact fin hdv h54 h62 X7 (by omega) (by omega) (by omega) (by omega)
  ·refine xJ (n:=n) rfl underlying23 mU rfl (by omega) (by omega) λw4 hdv x4 l4=>?_;have X4:=X3.trans x4;have s4:=x4.size;have t4:=X4.size;refine ⟨X4,?_⟩;refine qL lI [(0,i64 who),(1,i64 3),(2,i64 life),(3,.bool share),(4,.slice (some ⟨w3.heap.size,0,none⟩) n n)] rfl rfl ?_;refine ⟨?_,?_⟩
   ·refine GI λw5 h49 x5 l5=>?_;have X5:=X4.trans x5;have h49:=aQ h49 X4.size;have s5:=x5.size;have hdv:=hdv.ext x5;have t5:=X5.size;refine ⟨X5,?_⟩;refine ⟨?_,?_⟩
    ·refine OR h49 (X5.own h.list) (by omega) (by omega) h.rowOne X5.size λg54 c54 w6 h54 hg54 hl54 l6=>?_;have X6:aH w w6:=X5.grown hg54 λi hi=>(h49.lt i hi).1;have f54:Fr (λi=>i=w4.heap.size) w5 w6:=Fr.of_grown hg54 λi hi=>by simpa [Value.ownBlock] using hi.symm
     have s6:=f54.size;have hl54:g54=w4.heap.size\/g54=w5.heap.size:=hl54.imp (λh=>by simpa [Value.ownBlock] using h.symm) id;have hdv:=f54.blk hdv (by omega);have t6:=X6.size;refine ⟨X6,?_⟩;refine V.ok (v:=.slice (some ⟨w6.heap.size,0,none⟩) 1 1) (w':=w6.alloc (.cells (⟨who,3,life,share,.slice (some ⟨w3.heap.size,0,none⟩) n n,List.replicate n 0⟩:bW).cells.toArray 127)) (by kernel_rfl) ?_;have h62:aY (w6.alloc (.cells (⟨who,3,life,share,.slice (some ⟨w3.heap.size,0,none⟩) n n,List.replicate n 0⟩:bW).cells.toArray 127)) w6.heap.size (⟨who,3,life,share,.slice (some ⟨w3.heap.size,0,none⟩) n n,List.replicate n 0⟩:bW).cells 127:=by unfold aY;rw [heap_alloc_new]
     have x7:aH w6 (w6.alloc (.cells (⟨who,3,life,share,.slice (some ⟨w3.heap.size,0,none⟩) n n,List.replicate n 0⟩:bW).cells.toArray 127)):=(aH.refl _).alloc _;have l7:=h62.lt;generalize w6.alloc (.cells (⟨who,3,life,share,.slice (some ⟨w3.heap.size,0,none⟩) n n,List.replicate n 0⟩:bW).cells.toArray 127)=w7 at h62 x7 l7 ⊢;have X7:=X6.trans x7;have s7:=x7.size;have hdv:=hdv.ext x7;have h54:=x7.own h54;have t7:=X7.size;refine ⟨X7,?_⟩;exact fin hdv h54 h62 X7 (by omega) (by omega) (by omega) (by omega)
    ·refine V.ok (v:=.slice (some ⟨w5.heap.size,0,none⟩) 1 1) (w':=w5.alloc (.cells (⟨who,3,life,share,.slice (some ⟨w3.heap.size,0,none⟩) n n,List.replicate n 0⟩:bW).cells.toArray 127)) (by kernel_rfl) ?_;have h62:aY (w5.alloc (.cells (⟨who,3,life,share,.slice (some ⟨w3.heap.size,0,none⟩) n n,List.replicate n 0⟩:bW).cells.toArray 127)) w5.heap.size (⟨who,3,life,share,.slice (some ⟨w3.heap.size,0,none⟩) n n,List.replicate n 0⟩:bW).cells 127:=by unfold aY;rw [heap_alloc_new]
     have x6:aH w5 (w5.alloc (.cells (⟨who,3,life,share,.slice (some ⟨w3.heap.size,0,none⟩) n n,List.replicate n 0⟩:bW).cells.toArray 127)):=(aH.refl _).alloc _;have l6:=h62.lt;generalize w5.alloc (.cells (⟨who,3,life,share,.slice (some ⟨w3.heap.size,0,none⟩) n n,List.replicate n 0⟩:bW).cells.toArray 127)=w6 at h62 x6 l6 ⊢;have X6:=X5.trans x6;have s6:=x6.size;have hdv:=hdv.ext x6;have h49:=x6.own h49;have t6:=X6.size;refine ⟨X6,?_⟩;refine OR h49 (X6.own h.list) (by omega) (by omega) h.rowOne X6.size λg54 c54 w7 h54 hg54 hl54 l7=>?_;have X7:aH w w7:=X6.grown hg54 λi hi=>(h49.lt i hi).1;have f54:Fr (λi=>i=w4.heap.size) w6 w7:=Fr.of_grown hg54 λi hi=>by simpa [Value.ownBlock] using hi.symm
     have s7:=f54.size;have hl54:g54=w4.heap.size\/g54=w6.heap.size:=hl54.imp (λh=>by simpa [Value.ownBlock] using h.symm) id;have hdv:=f54.blk hdv (by omega);have h62:=f54.blk h62 (by omega);have t7:=X7.size;refine ⟨X7,?_⟩;exact fin hdv h54 h62 X7 (by omega) (by omega) (by omega) (by omega)
   ·refine V.ok (v:=.slice (some ⟨w4.heap.size,0,none⟩) 1 1) (w':=w4.alloc (.cells (⟨who,3,life,share,.slice (some ⟨w3.heap.size,0,none⟩) n n,List.replicate n 0⟩:bW).cells.toArray 127)) (by kernel_rfl) ?_;have h62:aY (w4.alloc (.cells (⟨who,3,life,share,.slice (some ⟨w3.heap.size,0,none⟩) n n,List.replicate n 0⟩:bW).cells.toArray 127)) w4.heap.size (⟨who,3,life,share,.slice (some ⟨w3.heap.size,0,none⟩) n n,List.replicate n 0⟩:bW).cells 127:=by unfold aY;rw [heap_alloc_new]
    have x5:aH w4 (w4.alloc (.cells (⟨who,3,life,share,.slice (some ⟨w3.heap.size,0,none⟩) n n,List.replicate n 0⟩:bW).cells.toArray 127)):=(aH.refl _).alloc _;have l5:=h62.lt;generalize w4.alloc (.cells (⟨who,3,life,share,.slice (some ⟨w3.heap.size,0,none⟩) n n,List.replicate n 0⟩:bW).cells.toArray 127)=w5 at h62 x5 l5 ⊢;have X5:=X4.trans x5;have s5:=x5.size;have hdv:=hdv.ext x5;have t5:=X5.size;refine ⟨X5,?_⟩;refine GI λw6 h49 x6 l6=>?_;have X6:=X5.trans x6;have h49:=aQ h49 X5.size;have s6:=x6.size;have hdv:=hdv.ext x6;have h62:=h62.ext x6;have t6:=X6.size;refine ⟨X6,?_⟩;refine OR h49 (X6.own h.list) (by omega) (by omega) h.rowOne X6.size λg54 c54 w7 h54 hg54 hl54 l7=>?_;have X7:aH w w7:=X6.grown hg54 λi hi=>(h49.lt i hi).1;have f54:Fr (λi=>i=w5.heap.size) w6 w7:=Fr.of_grown hg54 λi hi=>by simpa [Value.ownBlock] using hi.symm
    have s7:=f54.size;have hl54:g54=w5.heap.size\/g54=w6.heap.size:=hl54.imp (λh=>by simpa [Value.ownBlock] using h.symm) id;have hdv:=f54.blk hdv (by omega);have h62:=f54.blk h62 (by omega);have t7:=X7.size;refine ⟨X7,?_⟩;exact fin hdv h54 h62 X7 (by omega) (by omega) (by omega) (by omega)
 ·rintro w9 ⟨g',cap',dv,h9,s9,f9⟩ _;refine ⟨.inl ⟨_,rfl⟩,?_⟩;refine bA h9.ybox.boxed bZ cL rfl (kM.2 ?_);exact .inr ⟨by first|exact hroom|omega|(intro hh;rcases hh with hh|hh<;>first|exact hh.elim|omega|exact absurd hh hroom),by simp,g',cap',dv,h9,s9,f9⟩
theorem MD (h:dH q w) {who life:Int} {n:Nat} {share:Bool} (hl:0<=life/\life<=3) (hn:n<=64) :
  aD prog 103 #[MO q,i64 who,i64 4,i64 life,.bool share,i64 (n:Int)] w λv w'=>
   ((life > 2\/8+(n:Int) > q.size - gJ (q.ar.map pa))/\v=.tuple #[i64 0,.bool false]/\aH w w')\/(¬ (life > 2\/8+(n:Int) > q.size - gJ (q.ar.map pa))/\v=.tuple #[i64 ((q.ar.length+1:Nat):Int),.bool true]/\∃ g' cap' dv,dH { q with g:=g',cap:=cap',ar:=q.ar++[⟨who,4,life,share,dv,List.replicate n 0⟩] } w'/\mP q { q with g:=g',cap:=cap',ar:=q.ar++[⟨who,4,life,share,dv,List.replicate n 0⟩] } w w'/\Fr (λi=>i=q.yb) w w'):=by
 apply RH;unfold zI;have hcnt:=h.cnt;have htwo:=h.two;have hszq:=h.sz;have D0:aH w w.drew:=(aH.refl _).drew;refine aI.mk' (λw'=>aH w w') D0 ?_;refine aB.ok (λw' _=>oM) ?_;simp only [show decide ((4:Int)≠3)=true by decide,OK,aG,reduceIte];refine aB.ok (λw' _=>oM) ?_;simp only [show decide ((4:Int)≠4)=false by decide,jP,aG,reduceIte,Bool.false_eq_true];refine aB.ok (λw' _=>nO) ?_;simp only [show ¬ life < 0 by omega,jP,aG,reduceIte,Bool.false_eq_true,decide_false];refine aB.ok (λw' _=>nR) ?_;by_cases hlife:life > 2
 ·simp only [hlife,iB,sV,aG,aE,reduceIte,decide_true];exact ⟨D0,.inl ⟨.inl (by first|exact hlife|trivial),by first|rfl|trivial,D0⟩⟩
 simp only [hlife,jP,aG,reduceIte,Bool.false_eq_true,decide_false];refine aB.ok (λw' _=>nO) ?_;simp only [show ¬ ((n:Nat):Int) < 0 by omega,jP,aG,reduceIte,Bool.false_eq_true,decide_false];refine aB.ok (λw' _=>nR) ?_;simp only [show ¬ ((n:Nat):Int) > 64 by omega,dA,jP,aG,reduceIte,Bool.false_eq_true,decide_false];refine aB.ok (λw' _=>lO) ?_;rw [aW (by omega)];refine ⟨.inl ⟨_,rfl⟩,?_⟩;refine dS (λw' hw=>(h.ybox.ext hw).boxed) eI aJ rfl ?_;refine (EC (h.ext D0)).mono λv w' ⟨⟨hv,hz2⟩,hw⟩=>?_;subst hv;have hw:=hw.symm;subst hw;refine ⟨D0,?_⟩;refine aB.ok (λw' _=>nN) ?_;rw [aW (by omega)];refine aB.ok (λw' _=>nR) ?_;refine aL (λhfull=>.inl ⟨by first|exact .inr hfull|exact hfull|omega,by first|rfl|trivial,D0⟩) λhroom=>?_;have X3:aH w w.drew.drew:=D0.drew;have hz3:=X3.size;refine ⟨λw'=>∃ g' cap' dv,dH { q with g:=g',cap:=cap',ar:=q.ar++[⟨who,4,life,share,dv,List.replicate n 0⟩] } w'/\mP q { q with g:=g',cap:=cap',ar:=q.ar++[⟨who,4,life,share,dv,List.replicate n 0⟩] } w w'/\Fr (λi=>i=q.yb) w w',?_,?_⟩
 ·refine aI.mk' (λw'=>aH w w') X3 ⟨.inl ⟨_,rfl⟩,?_⟩;refine dS (λw' hw=>(h.ybox.ext hw).boxed) bZ cL rfl ?_
  have fin:∀ {w7:O} {b60 g54 c54 b62:Nat},aY w7 b60 (List.replicate n (u8 0)) 5->w7.ownsRow w.heap.size 127 5 (.slice (some ⟨g54,0,none⟩) q.ar.length c54) q.ar.length (iG q.ar)->aY w7 b62 (⟨who,4,life,share,.slice (some ⟨b60,0,none⟩) n n,List.replicate n 0⟩:bW).cells 127->aH w w7->w.heap.size<=b60->b60≠g54->b60≠b62->g54≠b62 ->
    V prog (Builtin.append_ #[154,154] 154 #[.slice (some ⟨g54,0,none⟩) q.ar.length c54,.slice (some ⟨b62,0,none⟩) 1 1]) w7 λt63 w8=>aH w w8/\Go.Vc.aN (MO q)/\aB prog (λw'=>aH w w') (Instr.fieldAt 156 (MO q) 1) λt65=>U prog (Instr.storeAt 154 t65 t63) w8 λ_ w9=>
     ∃ g' cap' dv,dH { q with g:=g',cap:=cap',ar:=q.ar++[⟨who,4,life,share,dv,List.replicate n 0⟩] } w9/\mP q { q with g:=g',cap:=cap',ar:=q.ar++[⟨who,4,life,share,dv,List.replicate n 0⟩] } w w9/\Fr (λi=>i=q.yb) w w9:=by
   intro w7 b60 g54 c54 b62 hdv h54 h62 X7 hb60 hne1 hne2 hne3;have s7:=X7.size;have ho62:w7.ownsRow 0 127 5 (.slice (some ⟨b62,0,none⟩) 1 1) 1 _:=dZ h62 rfl (Nat.zero_le _) (by unfold maxLen;omega);refine apZ underlying154 fG rfl (by omega) h54 ho62 (by omega) rfl (by omega) (by unfold maxLen;omega) s7 λg' cap' w8 ho8 hg8 hlies=>?_;have f8:Fr (λi=>i=g54) w7 w8:=Fr.of_grown hg8 λi hi=>by simpa [Value.ownBlock] using hi.symm
   have X8:aH w w8:=X7.grown hg8 λi hi=>(h54.lt i hi).1;have hlies:g'=g54\/g'=w7.heap.size:=hlies.imp (λh=>by simpa [Value.ownBlock] using h.symm) id;have hg54:w.heap.size<=g54:=(h54.lt _ rfl).1;have h8:=h.ext X8;have hdl:=hdv.lt;have hg'w:w.heap.size<=g':=by omega
   have hdv8:w8.ownsRow 0 5 1 (.slice (some ⟨b60,0,none⟩) n n) (List.replicate n (0:Int)).length ((List.replicate n (0:Int)).map u8):=by
    have:=dZ (B:=0) (size:=1) (n:=n) (f8.blk hdv hne1) (by simp) (Nat.zero_le _) (by unfold maxLen;omega);simpa using this
   have hnM:∀ i,w.heap.size<=i->¬ nZ q i:=λi hi hm=>by have:=h.hi i (.inl hm);omega
   refine ⟨X8,.inl ⟨_,rfl⟩,?_⟩;refine aB.ok (λw' _=>pO) ?_;refine tF oR h8.ybox rfl (by simp) rfl ?_
   have hlist:w8.ownsRow 0 127 5 (.slice (some ⟨g',0,none⟩) (q.ar++[(⟨who,4,life,share,.slice (some ⟨b60,0,none⟩) n n,List.replicate n 0⟩:bW)]).length cap') (q.ar++[(⟨who,4,life,share,.slice (some ⟨b60,0,none⟩) n n,List.replicate n 0⟩:bW)]).length (iG (q.ar++[⟨who,4,life,share,.slice (some ⟨b60,0,none⟩) n n,List.replicate n 0⟩])):=by
    rw [uK,List.length_append];exact aQ ho8 (Nat.zero_le _)
   have used:8*(q.ar.length - 2)<=gJ (q.ar.map pa):=ED q.ar htwo
   obtain ⟨h9,f9⟩:=h8.setL hlist (λa ha=>by
    rcases List.mem_append.1 ha with ha|ha
    ·exact h8.data a ha
    ·obtain rfl:=List.mem_singleton.1 ha;exact hdv8) (λa ha=>by
    rcases List.mem_append.1 ha with ha|ha
    ·exact h.len a ha
    ·obtain rfl:=List.mem_singleton.1 ha;simpa using hn) (by simp;omega) (by simp;omega) (hnM _ hg'w) (λa ha i hi=>by
    rcases List.mem_append.1 ha with ha|ha
    ·exact λhm=>h.dj i hm (.inr (.inl ⟨a,ha,hi⟩))
    ·obtain rfl:=List.mem_singleton.1 ha;have:b60=i:=by simpa [Value.ownBlock] using hi
     exact hnM i (by omega))
   rw [List.length_append] at h9 f9;refine ⟨g',cap',_,h9,h.stpL ((Fr.of_ext (S:=nZ q) X8).trans (f9.mono λi hi=>.inr (.inl hi)) λ_ _ h=>h) (.inr hg'w) λa ha i hi=>?_,(Fr.of_ext (S:=λi=>i=q.yb) X8).trans f9 λ_ _ h=>h⟩;rcases List.mem_append.1 ha with ha|ha
   ·exact .inl ⟨a,ha,hi⟩
   ·obtain rfl:=List.mem_singleton.1 ha;have:b60=i:=by simpa [Value.ownBlock] using hi
    exact .inr (by omega)
  generalize w.drew.drew=w3 at X3 hz3 ⊢;refine ⟨?_,?_⟩
  ·refine GI λw4 h49 x4 l4=>?_;have X4:=X3.trans x4;have h49:=aQ h49 X3.size;have s4:=x4.size;have t4:=X4.size;refine ⟨X4,?_⟩;refine ⟨?_,?_⟩
   ·refine OR h49 (X4.own h.list) (by omega) (by omega) h.rowOne X4.size λg54 c54 w5 h54 hg54 hl54 l5=>?_;have X5:aH w w5:=X4.grown hg54 λi hi=>(h49.lt i hi).1;have f54:Fr (λi=>i=w3.heap.size) w4 w5:=Fr.of_grown hg54 λi hi=>by simpa [Value.ownBlock] using hi.symm
    have s5:=f54.size;have hl54:g54=w3.heap.size\/g54=w4.heap.size:=hl54.imp (λh=>by simpa [Value.ownBlock] using h.symm) id;have t5:=X5.size;refine ⟨X5,?_⟩;refine xJ (n:=n) rfl underlying23 mU rfl (by omega) (by omega) λw6 hdv x6 l6=>?_;have X6:=X5.trans x6;have s6:=x6.size;have h54:=x6.own h54;have t6:=X6.size;refine ⟨X6,?_⟩;refine qL lI [(0,i64 who),(1,i64 4),(2,i64 life),(3,.bool share),(4,.slice (some ⟨w5.heap.size,0,none⟩) n n)] rfl rfl ?_;refine V.ok (v:=.slice (some ⟨w6.heap.size,0,none⟩) 1 1) (w':=w6.alloc (.cells (⟨who,4,life,share,.slice (some ⟨w5.heap.size,0,none⟩) n n,List.replicate n 0⟩:bW).cells.toArray 127)) (by kernel_rfl) ?_;have h62:aY (w6.alloc (.cells (⟨who,4,life,share,.slice (some ⟨w5.heap.size,0,none⟩) n n,List.replicate n 0⟩:bW).cells.toArray 127)) w6.heap.size (⟨who,4,life,share,.slice (some ⟨w5.heap.size,0,none⟩) n n,List.replicate n 0⟩:bW).cells 127:=by unfold aY;rw [heap_alloc_new]
    have x7:aH w6 (w6.alloc (.cells (⟨who,4,life,share,.slice (some ⟨w5.heap.size,0,none⟩) n n,List.replicate n 0⟩:bW).cells.toArray 127)):=(aH.refl _).alloc _;have l7:=h62.lt;generalize w6.alloc (.cells (⟨who,4,life,share,.slice (some ⟨w5.heap.size,0,none⟩) n n,List.replicate n 0⟩:bW).cells.toArray 127)=w7 at h62 x7 l7 ⊢;have X7:=X6.trans x7;have s7:=x7.size;have h54:=x7.own h54;have hdv:=hdv.ext x7;have t7:=X7.size;refine ⟨X7,?_⟩;exact fin hdv h54 h62 X7 (by omega) (by omega) (by omega) (by omega)
   ·refine xJ (n:=n) rfl underlying23 mU rfl (by omega) (by omega) λw5 hdv x5 l5=>?_;have X5:=X4.trans x5;have s5:=x5.size;have h49:=x5.own h49;have t5:=X5.size;refine ⟨X5,?_⟩;refine qL lI [(0,i64 who),(1,i64 4),(2,i64 life),(3,.bool share),(4,.slice (some ⟨w4.heap.size,0,none⟩) n n)] rfl rfl ?_;refine ⟨?_,?_⟩
    ·refine OR h49 (X5.own h.list) (by omega) (by omega) h.rowOne X5.size λg54 c54 w6 h54 hg54 hl54 l6=>?_;have X6:aH w w6:=X5.grown hg54 λi hi=>(h49.lt i hi).1;have f54:Fr (λi=>i=w3.heap.size) w5 w6:=Fr.of_grown hg54 λi hi=>by simpa [Value.ownBlock] using hi.symm
     have s6:=f54.size;have hl54:g54=w3.heap.size\/g54=w5.heap.size:=hl54.imp (λh=>by simpa [Value.ownBlock] using h.symm) id;have hdv:=f54.blk hdv (by omega);have t6:=X6.size;refine ⟨X6,?_⟩;refine V.ok (v:=.slice (some ⟨w6.heap.size,0,none⟩) 1 1) (w':=w6.alloc (.cells (⟨who,4,life,share,.slice (some ⟨w4.heap.size,0,none⟩) n n,List.replicate n 0⟩:bW).cells.toArray 127)) (by kernel_rfl) ?_;have h62:aY (w6.alloc (.cells (⟨who,4,life,share,.slice (some ⟨w4.heap.size,0,none⟩) n n,List.replicate n 0⟩:bW).cells.toArray 127)) w6.heap.size (⟨who,4,life,share,.slice (some ⟨w4.heap.size,0,none⟩) n n,List.replicate n 0⟩:bW).cells 127:=by unfold aY;rw [heap_alloc_new]
     have x7:aH w6 (w6.alloc (.cells (⟨who,4,life,share,.slice (some ⟨w4.heap.size,0,none⟩) n n,List.replicate n 0⟩:bW).cells.toArray 127)):=(aH.refl _).alloc _;have l7:=h62.lt;generalize w6.alloc (.cells (⟨who,4,life,share,.slice (some ⟨w4.heap.size,0,none⟩) n n,List.replicate n 0⟩:bW).cells.toArray 127)=w7 at h62 x7 l7 ⊢;have X7:=X6.trans x7;have s7:=x7.size;have hdv:=hdv.ext x7;have h54:=x7.own h54;have t7:=X7.size;refine ⟨X7,?_⟩;exact fin hdv h54 h62 X7 (by omega) (by omega) (by omega) (by omega)
    ·refine V.ok (v:=.slice (some ⟨w5.heap.size,0,none⟩) 1 1) (w':=w5.alloc (.cells (⟨who,4,life,share,.slice (some ⟨w4.heap.size,0,none⟩) n n,List.replicate n 0⟩:bW).cells.toArray 127)) (by kernel_rfl) ?_;have h62:aY (w5.alloc (.cells (⟨who,4,life,share,.slice (some ⟨w4.heap.size,0,none⟩) n n,List.replicate n 0⟩:bW).cells.toArray 127)) w5.heap.size (⟨who,4,life,share,.slice (some ⟨w4.heap.size,0,none⟩) n n,List.replicate n 0⟩:bW).cells 127:=by unfold aY;rw [heap_alloc_new]
     have x6:aH w5 (w5.alloc (.cells (⟨who,4,life,share,.slice (some ⟨w4.heap.size,0,none⟩) n n,List.replicate n 0⟩:bW).cells.toArray 127)):=(aH.refl _).alloc _;have l6:=h62.lt;generalize w5.alloc (.cells (⟨who,4,life,share,.slice (some ⟨w4.heap.size,0,none⟩) n n,List.replicate n 0⟩:bW).cells.toArray 127)=w6 at h62 x6 l6 ⊢;have X6:=X5.trans x6;have s6:=x6.size;have h49:=x6.own h49;have hdv:=hdv.ext x6;have t6:=X6.size;refine ⟨X6,?_⟩;refine OR h49 (X6.own h.list) (by omega) (by omega) h.rowOne X6.size λg54 c54 w7 h54 hg54 hl54 l7=>?_;have X7:aH w w7:=X6.grown hg54 λi hi=>(h49.lt i hi).1;have f54:Fr (λi=>i=w3.heap.size) w6 w7:=Fr.of_grown hg54 λi hi=>by simpa [Value.ownBlock] using hi.symm
     have s7:=f54.size;have hl54:g54=w3.heap.size\/g54=w6.heap.size:=hl54.imp (λh=>by simpa [Value.ownBlock] using h.symm) id;have hdv:=f54.blk hdv (by omega);have h62:=f54.blk h62 (by omega);have t7:=X7.size;refine ⟨X7,?_⟩;exact fin hdv h54 h62 X7 (by omega) (by omega) (by omega) (by omega)
  ·refine xJ (n:=n) rfl underlying23 mU rfl (by omega) (by omega) λw4 hdv x4 l4=>?_;have X4:=X3.trans x4;have s4:=x4.size;have t4:=X4.size;refine ⟨X4,?_⟩;refine qL lI [(0,i64 who),(1,i64 4),(2,i64 life),(3,.bool share),(4,.slice (some ⟨w3.heap.size,0,none⟩) n n)] rfl rfl ?_;refine ⟨?_,?_⟩
   ·refine GI λw5 h49 x5 l5=>?_;have X5:=X4.trans x5;have h49:=aQ h49 X4.size;have s5:=x5.size;have hdv:=hdv.ext x5;have t5:=X5.size;refine ⟨X5,?_⟩;refine ⟨?_,?_⟩
    ·refine OR h49 (X5.own h.list) (by omega) (by omega) h.rowOne X5.size λg54 c54 w6 h54 hg54 hl54 l6=>?_;have X6:aH w w6:=X5.grown hg54 λi hi=>(h49.lt i hi).1;have f54:Fr (λi=>i=w4.heap.size) w5 w6:=Fr.of_grown hg54 λi hi=>by simpa [Value.ownBlock] using hi.symm
     have s6:=f54.size;have hl54:g54=w4.heap.size\/g54=w5.heap.size:=hl54.imp (λh=>by simpa [Value.ownBlock] using h.symm) id;have hdv:=f54.blk hdv (by omega);have t6:=X6.size;refine ⟨X6,?_⟩;refine V.ok (v:=.slice (some ⟨w6.heap.size,0,none⟩) 1 1) (w':=w6.alloc (.cells (⟨who,4,life,share,.slice (some ⟨w3.heap.size,0,none⟩) n n,List.replicate n 0⟩:bW).cells.toArray 127)) (by kernel_rfl) ?_;have h62:aY (w6.alloc (.cells (⟨who,4,life,share,.slice (some ⟨w3.heap.size,0,none⟩) n n,List.replicate n 0⟩:bW).cells.toArray 127)) w6.heap.size (⟨who,4,life,share,.slice (some ⟨w3.heap.size,0,none⟩) n n,List.replicate n 0⟩:bW).cells 127:=by unfold aY;rw [heap_alloc_new]
     have x7:aH w6 (w6.alloc (.cells (⟨who,4,life,share,.slice (some ⟨w3.heap.size,0,none⟩) n n,List.replicate n 0⟩:bW).cells.toArray 127)):=(aH.refl _).alloc _;have l7:=h62.lt;generalize w6.alloc (.cells (⟨who,4,life,share,.slice (some ⟨w3.heap.size,0,none⟩) n n,List.replicate n 0⟩:bW).cells.toArray 127)=w7 at h62 x7 l7 ⊢;have X7:=X6.trans x7;have s7:=x7.size;have hdv:=hdv.ext x7;have h54:=x7.own h54;have t7:=X7.size;refine ⟨X7,?_⟩;exact fin hdv h54 h62 X7 (by omega) (by omega) (by omega) (by omega)
    ·refine V.ok (v:=.slice (some ⟨w5.heap.size,0,none⟩) 1 1) (w':=w5.alloc (.cells (⟨who,4,life,share,.slice (some ⟨w3.heap.size,0,none⟩) n n,List.replicate n 0⟩:bW).cells.toArray 127)) (by kernel_rfl) ?_;have h62:aY (w5.alloc (.cells (⟨who,4,life,share,.slice (some ⟨w3.heap.size,0,none⟩) n n,List.replicate n 0⟩:bW).cells.toArray 127)) w5.heap.size (⟨who,4,life,share,.slice (some ⟨w3.heap.size,0,none⟩) n n,List.replicate n 0⟩:bW).cells 127:=by unfold aY;rw [heap_alloc_new]
     have x6:aH w5 (w5.alloc (.cells (⟨who,4,life,share,.slice (some ⟨w3.heap.size,0,none⟩) n n,List.replicate n 0⟩:bW).cells.toArray 127)):=(aH.refl _).alloc _;have l6:=h62.lt;generalize w5.alloc (.cells (⟨who,4,life,share,.slice (some ⟨w3.heap.size,0,none⟩) n n,List.replicate n 0⟩:bW).cells.toArray 127)=w6 at h62 x6 l6 ⊢;have X6:=X5.trans x6;have s6:=x6.size;have hdv:=hdv.ext x6;have h49:=x6.own h49;have t6:=X6.size;refine ⟨X6,?_⟩;refine OR h49 (X6.own h.list) (by omega) (by omega) h.rowOne X6.size λg54 c54 w7 h54 hg54 hl54 l7=>?_;have X7:aH w w7:=X6.grown hg54 λi hi=>(h49.lt i hi).1;have f54:Fr (λi=>i=w4.heap.size) w6 w7:=Fr.of_grown hg54 λi hi=>by simpa [Value.ownBlock] using hi.symm
     have s7:=f54.size;have hl54:g54=w4.heap.size\/g54=w6.heap.size:=hl54.imp (λh=>by simpa [Value.ownBlock] using h.symm) id;have hdv:=f54.blk hdv (by omega);have h62:=f54.blk h62 (by omega);have t7:=X7.size;refine ⟨X7,?_⟩;exact fin hdv h54 h62 X7 (by omega) (by omega) (by omega) (by omega)
   ·refine V.ok (v:=.slice (some ⟨w4.heap.size,0,none⟩) 1 1) (w':=w4.alloc (.cells (⟨who,4,life,share,.slice (some ⟨w3.heap.size,0,none⟩) n n,List.replicate n 0⟩:bW).cells.toArray 127)) (by kernel_rfl) ?_;have h62:aY (w4.alloc (.cells (⟨who,4,life,share,.slice (some ⟨w3.heap.size,0,none⟩) n n,List.replicate n 0⟩:bW).cells.toArray 127)) w4.heap.size (⟨who,4,life,share,.slice (some ⟨w3.heap.size,0,none⟩) n n,List.replicate n 0⟩:bW).cells 127:=by unfold aY;rw [heap_alloc_new]
    have x5:aH w4 (w4.alloc (.cells (⟨who,4,life,share,.slice (some ⟨w3.heap.size,0,none⟩) n n,List.replicate n 0⟩:bW).cells.toArray 127)):=(aH.refl _).alloc _;have l5:=h62.lt;generalize w4.alloc (.cells (⟨who,4,life,share,.slice (some ⟨w3.heap.size,0,none⟩) n n,List.replicate n 0⟩:bW).cells.toArray 127)=w5 at h62 x5 l5 ⊢;have X5:=X4.trans x5;have s5:=x5.size;have hdv:=hdv.ext x5;have t5:=X5.size;refine ⟨X5,?_⟩;refine GI λw6 h49 x6 l6=>?_;have X6:=X5.trans x6;have h49:=aQ h49 X5.size;have s6:=x6.size;have hdv:=hdv.ext x6;have h62:=h62.ext x6;have t6:=X6.size;refine ⟨X6,?_⟩;refine OR h49 (X6.own h.list) (by omega) (by omega) h.rowOne X6.size λg54 c54 w7 h54 hg54 hl54 l7=>?_;have X7:aH w w7:=X6.grown hg54 λi hi=>(h49.lt i hi).1;have f54:Fr (λi=>i=w5.heap.size) w6 w7:=Fr.of_grown hg54 λi hi=>by simpa [Value.ownBlock] using hi.symm
    have s7:=f54.size;have hl54:g54=w5.heap.size\/g54=w6.heap.size:=hl54.imp (λh=>by simpa [Value.ownBlock] using h.symm) id;have hdv:=f54.blk hdv (by omega);have h62:=f54.blk h62 (by omega);have t7:=X7.size;refine ⟨X7,?_⟩;exact fin hdv h54 h62 X7 (by omega) (by omega) (by omega) (by omega)
 ·rintro w9 ⟨g',cap',dv,h9,s9,f9⟩ _;refine ⟨.inl ⟨_,rfl⟩,?_⟩;refine bA h9.ybox.boxed bZ cL rfl (kM.2 ?_);exact .inr ⟨by first|exact hroom|omega|(intro hh;rcases hh with hh|hh<;>first|exact hh.elim|omega|exact absurd hh hroom),by simp,g',cap',dv,h9,s9,f9⟩
end
section
variable {q:QP} {w w':O} {K:Z->O->Prop}
theorem aQv {B:Nat} {v sv:Z} {l:List Int} (ho:w.ownsRow B 5 1 v 0 []) (h:hY w sv l) (hl:l.length<=1000000) (hB:B<=w.heap.size)
  (hk:∀ v' w',w'.ownsRow B 5 1 v' l.length (l.map u8)->w.grownBy w' v.ownBlock->(v'.ownBlock=v.ownBlock\/v'.ownBlock=some w.heap.size)->K v' w') :
  V prog (Builtin.append_ #[23,23] 23 #[v,sv]) w K:=by
 have go:aC w sv 1 l.length (l.map u8)->V prog (Builtin.append_ #[23,23] 23 #[v,sv]) w K:=λhs=>by
  refine apS lL ho hs (oS _) (by omega) (by unfold maxLen;omega) hB λv' w' ho' hg hl=>?_;rw [Nat.zero_add,List.nil_append] at ho';exact hk v' w' ho' hg hl
 rcases h with ⟨rfl,rfl⟩|⟨ad,c,rfl,hb⟩
 ·exact go (aC.nil _ _)
 ·by_cases h0:0 < l.length
  ·exact go (hb h0)
  ·have hl0:l=[]:=List.eq_nil_of_length_eq_zero (by omega);subst hl0;obtain ⟨a,c1,hv⟩:=(aC.of_own ho).shape;subst hv;refine V.ok (vI underlying23 mU (Nat.zero_le _)) (hk _ _ ho ⟨rfl,rfl,rfl,Nat.le_refl _,λ_ _ _=>rfl⟩ (.inl rfl))
theorem dH.relist (h:dH q w) {B g54 c54:Nat} {dv:Z} {d':List Int} {k:Nat} {x:bW} (hk:q.ar[k]?=some x) (h54:w.ownsRow B 127 5 (.slice (some ⟨g54,0,none⟩) q.ar.length c54) q.ar.length (iG q.ar)) (hdv:w.ownsRow B 5 1 dv d'.length (d'.map u8)) (hne:dv.ownBlock≠some g54) (hd:d'.length<=64) (hB:∀ i,B<=i->¬ nZ q i/\¬ DD q i) :
  dH { q with g:=g54,cap:=c54,ar:=q.ar.set k { x with dv:=dv,data:=d' } } ((w.setCell ⟨g54,k*5+4,none⟩ dv).setCell ⟨q.yb,1,none⟩ (.slice (some ⟨g54,0,none⟩) q.ar.length c54))/\Fr (λi=>i=g54) w (w.setCell ⟨g54,k*5+4,none⟩ dv)/\Fr (λi=>i=q.yb) (w.setCell ⟨g54,k*5+4,none⟩ dv) ((w.setCell ⟨g54,k*5+4,none⟩ dv).setCell ⟨q.yb,1,none⟩ (.slice (some ⟨g54,0,none⟩) q.ar.length c54)):=by
 have hkl:k < q.ar.length:=(List.getElem?_eq_some_iff.1 hk).1;have hgB:B<=g54:=(h54.lt _ rfl).1;have f1:Fr (λi=>i=g54) w (w.setCell ⟨g54,k*5+4,none⟩ dv):=Fr.of_set rfl;have h1:=h.fr f1 λi hi=>hB i (hi▸hgB);have row1:=(h54.stored (k*5+4) dv).1;rw [<- wQ hk dv d'] at row1;have hdv1:=f1.own hdv λi hi e=>hne (e▸hi)
 have each:∀ a∈q.ar.set k { x with dv:=dv,data:=d' },a={ x with dv:=dv,data:=d' }\/a∈q.ar:=by
  intro a ha;obtain ⟨i,hi⟩:=List.getElem?_of_mem ha;by_cases hik:k=i
  ·subst hik;rw [List.getElem?_set_self hkl] at hi;cases hi;exact .inl rfl
  ·rw [List.getElem?_set_ne hik] at hi;exact .inr (List.mem_of_getElem? hi)
 have hlen:(q.ar.set k { x with dv:=dv,data:=d' }).length=q.ar.length:=by simp
 obtain ⟨h2,f2⟩:=h1.setL (g':=g54) (cap':=c54) (ar':=q.ar.set k { x with dv:=dv,data:=d' }) (by rw [hlen];exact aQ row1 (Nat.zero_le _)) (λa ha=>by
   rcases each a ha with rfl|ha
   ·exact aQ hdv1 (Nat.zero_le _)
   ·exact h1.data a ha) (λa ha=>by
   rcases each a ha with rfl|ha
   ·exact hd
   ·exact h.len a ha) (by rw [hlen];exact h.two) (by rw [hlen];exact h.cnt) (hB g54 hgB).1 (λa ha i hi=>by
   rcases each a ha with rfl|ha
   ·exact (hB i (hdv.lt i hi).1).1
   ·exact λhm=>h.dj i hm (.inr (.inl ⟨a,ha,hi⟩)))
 rw [hlen] at h2 f2;exact ⟨h2,f1,f2⟩
theorem dH.stpR (h:dH q w) {w1:O} {g54 c54:Nat} {dv:Z} {d':List Int} {k:Nat} {x:bW} (hk:q.ar[k]?=some x) (hf:Fr (nZ q) w w1) (hg:w.heap.size<=g54) (hdv:∀ i,dv.ownBlock=some i->w.heap.size<=i):mP q { q with g:=g54,cap:=c54,ar:=q.ar.set k { x with dv:=dv,data:=d' } } w w1:=by
 have hkl:k < q.ar.length:=(List.getElem?_eq_some_iff.1 hk).1;refine h.stpL hf (.inr hg) λa ha i hi=>?_;obtain ⟨j,hj⟩:=List.getElem?_of_mem ha;by_cases hik:k=j
 ·subst hik;rw [List.getElem?_set_self hkl] at hj;cases hj;exact .inr (hdv i hi)
 ·rw [List.getElem?_set_ne hik] at hj;exact .inl ⟨a,List.mem_of_getElem? hj,hi⟩
theorem dH.above (h:dH q w):∀ i,w.heap.size<=i->¬ nZ q i/\¬ DD q i:=λi hi=>⟨λhm=>by have:=h.hi i (.inl hm);omega,λhm=>by have:=h.hi i (.inr hm);omega⟩
theorem NQ (h:dH q w) {k:Nat} {x:bW} (hk:q.ar[k]?=some x) {r:Int} (hr:r=(k:Int)+1) {a:Nat} {sv:Z} {S:List Int} (hS:cJ w sv S) (hn:a+S.length<=x.data.length) :
  aD prog 107 #[MO q,i64 r,i64 (a:Int),sv] w λ_ w'=>∃ g' cap' dv,dH { q with g:=g',cap:=cap',ar:=q.ar.set k { x with dv:=dv,data:=x.data.take a++S++x.data.drop (a+S.length) } } w'/\mP q { q with g:=g',cap:=cap',ar:=q.ar.set k { x with dv:=dv,data:=x.data.take a++S++x.data.drop (a+S.length) } } w w'/\Fr (λi=>i=q.yb) w w':=by
 have hkl:k < q.ar.length:=(List.getElem?_eq_some_iff.1 hk).1;have hxm:=List.mem_of_getElem? hk;have hxl:=h.len x hxm;have hcnt:=h.cnt;have hw:=h.hi;apply aLw;unfold JS;refine kJ lL [] rfl rfl (by simp) rfl λv1 w1 ho1 x1=>?_;refine ⟨.inl ⟨_,rfl⟩,?_⟩;refine bA (h.ybox.ext x1).boxed bZ cL rfl (iK.2 ?_);rw [show IntKind.i64.wrap (r - 1)=(k:Int) from by rw [aW (by omega)];omega];refine V.ok (nP (by omega) (by omega)) ?_;have e:0+((k:Nat):Int).toNat*5=k*5:=by omega
 rw [e];refine V.ok iT ?_;refine V.ok (jM ((h.ext x1).get hk (by omega:4 < 5))) ?_;have s1:=x1.size;refine apS lL ho1 (aC.of_own (x1.own (h.data x hxm))) (oS _) (by omega) (by unfold maxLen;omega) s1 λv2 w2 ho2 hg2 hl2=>?_;rw [Nat.zero_add,List.nil_append] at ho2;have x2:aH w w2:=x1.grown hg2 λi hi=>(ho1.lt i hi).1;refine ⟨λv w'=>∃ (i:Nat) (cur:List Int),v=i64 i/\i<=S.length/\rJ x.data S a i cur/\w'.ownsRow w.heap.size 5 1 v2 x.data.length (cur.map u8)/\aH w w',λv _=>S.length - (RowKit.intOf v).toNat,⟨0,x.data,rfl,Nat.zero_le _,⟨rfl,λj=>by rw [if_neg (by omega)]⟩,ho2,x2⟩,?_⟩;rintro _ w3 ⟨i,cur,rfl,hi,hcur,ho3,x3⟩ _;have hS3:=hS.ext x3;refine fZ iO hS3 ?_;refine aV.2 (aL (λhlt=>?_) λhge=>?_)
 ·refine bS.2 ?_;rw [show IntKind.i64.wrap ((a:Int)+(i:Int))=((a+i:Nat):Int) from by rw [aW (by omega)];omega];refine mS iO uS hS3 (by omega) (by omega) (rR (by omega)) ?_;refine stO iO mU ho3 (by omega) (by omega) rfl λw4 ho4 hg4=>?_;rw [Int.toNat_natCast] at ho4;refine mK (by omega) ?_;refine ⟨⟨i+1,cur.set (a+i) (S.getD i 0),rfl,by omega,hcur.step (by omega) (by omega),?_,x3.grown hg4 λj hj=>(ho3.lt j hj).1⟩,by simp only [aT];omega⟩;simpa [List.map_set] using ho4
 ·have hin:i=S.length:=by omega
  subst hin;have hd:=hcur.done hn;refine GI λw4 h49 x4 l4=>?_;have X4:=x3.trans x4;have h49:=aQ h49 x3.size;have s4:=X4.size;have z3:=x3.size;refine ⟨.inl ⟨_,rfl⟩,?_⟩;refine bA (h.ybox.ext X4).boxed bZ cL rfl ?_;refine OR h49 (X4.own h.list) (by omega) (by omega) h.rowOne s4 λg54 c54 w5 h54 hg54 hl54 l5=>?_;have X5:aH w w5:=X4.grown hg54 λi hi=>(h49.lt i hi).1;have f54:Fr (λi=>i=w3.heap.size) w4 w5:=Fr.of_grown hg54 λi hi=>by simpa [Value.ownBlock] using hi.symm
  have hl54:g54=w3.heap.size\/g54=w4.heap.size:=hl54.imp (λh=>by simpa [Value.ownBlock] using h.symm) id;have hv2:∀ j,v2.ownBlock=some j->j < w3.heap.size:=λj hj=>(ho3.lt j hj).2;have ho5:=f54.own (x4.own ho3) λj hj e=>by have:=hv2 j hj;omega
  refine iK.2 ?_;rw [show IntKind.i64.wrap (r - 1)=(k:Int) from by rw [aW (by omega)];omega];refine V.ok (nP (by omega) (by omega)) ?_;rw [e];refine V.ok iT ?_;have hcell:=h54.cellAt (k*5+4) (by omega);rw [iY hk (by omega:4 < 5)] at hcell;refine U.ok (kO kY (bQ ho5) hcell (h54.frozenAt _)) ?_;refine ⟨.inl ⟨_,rfl⟩,?_⟩;have hB:=h.above;have hl:(x.data.take a++S++x.data.drop (a+S.length)).length=x.data.length:=by rw [<- hd];exact hcur.1
  have ho5':w5.ownsRow w.heap.size 5 1 v2 (x.data.take a++S++x.data.drop (a+S.length)).length ((x.data.take a++S++x.data.drop (a+S.length)).map u8):=by
   rw [hl,<- hd];exact ho5
  obtain ⟨h6,f6,f7⟩:=(h.ext X5).relist hk h54 ho5' (λe=>by have:=hv2 _ e;omega) (by rw [hl];exact hxl) hB;refine V.ok pO ?_;have hy6:=f6.blk ((h.ext X5).ybox) (λe=>(hB _ (h54.lt _ rfl).1).1 (.inr (.inl e.symm)));refine tF oR hy6 rfl (by simp) rfl ?_;refine ⟨g54,c54,v2,h6,h.stpR hk ?_ (h54.lt _ rfl).1 (λi hi=>(ho5.lt i hi).1),?_⟩
  all_goals have g1:aH w (w5.setCell ⟨g54,k*5+4,none⟩ v2):=f6.ext X5 λi hi=>by rw [hi];exact (h54.lt _ rfl).1
  ·exact (Fr.of_ext (S:=nZ q) g1).trans (f7.mono λi hi=>.inr (.inl hi)) λ_ _ h=>h
  ·exact (Fr.of_ext (S:=λi=>i=q.yb) g1).trans f7 λ_ _ h=>h
end
def jW (t0 t2 t3 t4 t5 t6 t16:Z) (w16:O) (R:Z->O->Prop):Prop:=
 ∃ J3:NP 1,
 (V prog (do eqGuard .eql 3 (.tmp 75) (.const (i64 17)) t3 (i64 17);binOp .eql 3 t3 (i64 17)) w16 λt77 w21=>
 aO t77 (
 J3 t77 w21) (
 V prog (do eqGuard .eql 3 (.tmp 75) (.const (i64 18)) t3 (i64 18);binOp .eql 3 t3 (i64 18)) w21 λt78 w22=>
 J3 t78 w22)) /\
 ∀ (t76:Z),∀ w23:O,J3 t76 w23->∀ _f:bL,
 aO t76 (
 V prog (Instr.indexAt 42 t16 (i64 1)) w23 λt80 w24=>
 V prog (Instr.loadAt 3 t80) w24 λt81 w25=>
 V prog (do eqGuard .eql 3 (.tmp 81) (.const (i64 0)) t81 (i64 0);binOp .eql 3 t81 (i64 0)) w25 λt82 w26=>
 aO t82 (
 R (.tuple #[(Value.int IntKind.i32 0),(i64 28419)]) w26) (
 aI w26 λS18 w27=>
 aB prog S18 (Instr.indexAt 37 t6 (i64 0)) λt85=>
 aB prog S18 (Instr.loadAt 21 t85) λt86=>
 aB prog S18 (Instr.indexAt 37 t6 (i64 1)) λt88=>
 aB prog S18 (Instr.loadAt 21 t88) λt89=>
 aD prog 68 #[t3,t86,t89] w27 λt90 w28=>
 S18 w28 /\
 R (.tuple #[t90,(i64 36864)]) w28)) (
 V prog (do eqGuard .eql 3 (.tmp 75) (.const (i64 27)) t3 (i64 27);binOp .eql 3 t3 (i64 27)) w23 λt92 w29=>
 aO t92 (
 V prog (Instr.indexAt 42 t16 (i64 0)) w29 λt94 w30=>
 V prog (Instr.loadAt 3 t94) w30 λt95 w31=>
 V prog (binOp .lss 3 t95 (i64 0)) w31 λt96 w32=>
 gd t96 false (λK=>K t16 w32) w32 λt98 w33=>
 gd t96 false (λK=>V prog (Instr.indexAt 42 t98 (i64 0)) w33 K) w33 λt99 w34=>
 gd t96 false (λK=>V prog (Instr.loadAt 3 t99) w34 K) w34 λt100 w35=>
 gd t96 false (λK=>V prog (binOp .gtr 3 t100 (i64 64)) w35 K) w35 λt101 w36=>
 aM t96 (.bool true) t101 λt102=>
 aO t102 (
 R (.tuple #[(Value.int IntKind.i32 0),(i64 28425)]) w36) (
 aI w36 λS22 w38=>
 Go.Vc.aN (t0) /\
 aB prog S22 (Instr.fieldAt 139 t0 0) λt106=>
 aB prog S22 (Instr.loadAt 137 t106) λt107=>
 aB prog S22 (binOp .rem 3 t5 (i64 4)) λt111=>
 aB prog S22 (binOp .add 3 t111 (i64 4)) λt112=>
 aB prog S22 (binOp .rem 3 t112 (i64 4)) λt113=>
 aB prog S22 (binOp .geq 3 t5 (i64 4)) λt115=>
 aB prog S22 (Instr.indexAt 42 t16 (i64 0)) λt117=>
 aB prog S22 (Instr.loadAt 3 t117) λt118=>
 aD prog 103 #[t107,t2,t4,t113,t115,t118] w38 λt119 w39=>
 S22 w39 /\
 aB prog S22 (Instr.extract t119 0) λt120=>
 aB prog S22 (Instr.extract t119 1) λt121=>
 V prog (Op.unary UnOp.not t121) w39 λt123 w40=>
 aO t123 (
 R (.tuple #[(Value.int IntKind.i32 0),(i64 28421)]) w40) (
 V prog (convert 3 21 t120) w40 λt125 w41=>
 R (.tuple #[t125,(i64 36864)]) w41))) (
 V prog (do eqGuard .eql 3 (.tmp 75) (.const (i64 28)) t3 (i64 28);binOp .eql 3 t3 (i64 28)) w29 λt127 w42=>
 aO t127 (
 aI w42 λS27 w43=>
 Go.Vc.aN (t0) /\
 aB prog S27 (Instr.fieldAt 139 t0 0) λt130=>
 aB prog S27 (Instr.loadAt 137 t130) λt131=>
 aB prog S27 (Instr.indexAt 42 t16 (i64 0)) λt133=>
 aB prog S27 (Instr.loadAt 3 t133) λt134=>
 aD prog 104 #[t131,t134,t2] w43 λt136 w44=>
 S27 w44 /\
 V prog (do eqGuard .neq 3 (.tmp 137) (.const (i64 36864)) t136 (i64 36864);binOp .neq 3 t136 (i64 36864)) w44 λt138 w45=>
 aO t138 (
 R (.tuple #[(Value.int IntKind.i32 0),t136]) w45) (
 ∃ J4:NP 1,
 (aI w45 λS30 w46=>
 Go.Vc.aN (t0) /\
 aB prog S30 (Instr.fieldAt 139 t0 0) λt143=>
 aB prog S30 (Instr.loadAt 137 t143) λt144=>
 aB prog S30 (Instr.indexAt 42 t16 (i64 0)) λt146=>
 aB prog S30 (Instr.loadAt 3 t146) λt147=>
 (aD prog 105 #[t144,t147] w46 λt148 w47=>
 S30 w47 /\
 aB prog S30 (Instr.extract t148 0) λt149=>
 aB prog S30 (Instr.extract t148 1) λ_=>
 V prog (Instr.alloc 127 true (.tuple #[])) w47 λt23 w48=>
 S30 w48 /\
 U prog (Instr.storeAt 127 t23 t149) w48 λ_ w49=>
 S30 w49 /\
 J4 t23 w49) /\
 (V prog (Instr.alloc 127 true (.tuple #[])) w46 λt23_1 w50=>
 S30 w50 /\
 aD prog 105 #[t144,t147] w50 λt148_1 w51=>
 S30 w51 /\
 aB prog S30 (Instr.extract t148_1 0) λt149_1=>
 aB prog S30 (Instr.extract t148_1 1) λ_=>
 U prog (Instr.storeAt 127 t23_1 t149_1) w51 λ_ w52=>
 S30 w52 /\
 J4 t23_1 w52)) /\
 ∀ (t23_2:Z),∀ w53:O,J4 t23_2 w53->∀ _f:bL,
 V prog (Instr.fieldAt 127 t23_2 4) w53 λt151 w54=>
 V prog (Instr.loadAt 23 t151) w54 λt152 w55=>
 V prog (Builtin.len_ #[23] 3 #[t152]) w55 λt153 w56=>
 V prog (convert 3 21 t153) w56 λt154 w57=>
 R (.tuple #[t154,(i64 36864)]) w57)) (
 ∃ J5:NP 1,
 (V prog (do eqGuard .eql 3 (.tmp 75) (.const (i64 29)) t3 (i64 29);binOp .eql 3 t3 (i64 29)) w42 λt156 w58=>
 aO t156 (
 J5 t156 w58) (
 V prog (do eqGuard .eql 3 (.tmp 75) (.const (i64 30)) t3 (i64 30);binOp .eql 3 t3 (i64 30)) w58 λt157 w59=>
 J5 t157 w59)) /\
 ∀ (t155:Z),∀ w60:O,J5 t155 w60->∀ _f:bL,
 aO t155 (
 aI w60 λS34 w61=>
 Go.Vc.aN (t0) /\
 aB prog S34 (Instr.fieldAt 139 t0 0) λt160=>
 aB prog S34 (Instr.loadAt 137 t160) λt161=>
 aB prog S34 (Instr.indexAt 42 t16 (i64 0)) λt163=>
 aB prog S34 (Instr.loadAt 3 t163) λt164=>
 aB prog S34 (Instr.indexAt 42 t16 (i64 1)) λt166=>
 aB prog S34 (Instr.loadAt 3 t166) λt167=>
 aD prog 106 #[t161,t164,t167,(i64 1),t2] w61 λt169 w62=>
 S34 w62 /\
 V prog (do eqGuard .neq 3 (.tmp 170) (.const (i64 36864)) t169 (i64 36864);binOp .neq 3 t169 (i64 36864)) w62 λt171 w63=>
 aO t171 (
 R (.tuple #[(Value.int IntKind.i32 0),t169]) w63) (
 V prog (do eqGuard .eql 3 (.tmp 173) (.const (i64 30)) t3 (i64 30);binOp .eql 3 t3 (i64 30)) w63 λt174 w64=>
 aO t174 (
 aI w64 λS38 w65=>
 Go.Vc.aN (t0) /\
 aB prog S38 (Instr.fieldAt 139 t0 0) λt177=>
 aB prog S38 (Instr.loadAt 137 t177) λt178=>
 aB prog S38 (Instr.indexAt 42 t16 (i64 0)) λt180=>
 aB prog S38 (Instr.loadAt 3 t180) λt181=>
 aB prog S38 (Instr.indexAt 42 t16 (i64 1)) λt183=>
 aB prog S38 (Instr.loadAt 3 t183) λt184=>
 aB prog S38 (Instr.indexAt 42 t16 (i64 2)) λt186=>
 aB prog S38 (Instr.loadAt 3 t186) λt187=>
 aB prog S38 (convert 3 5 t187) λt188=>
 V prog (Instr.buildSlice 23 1 #[(0,t188)]) w65 λt189 w66=>
 S38 w66 /\
 aD prog 107 #[t178,t181,t184,t189] w66 λ_ w67=>
 S38 w67 /\
 R (.tuple #[(Value.int IntKind.i32 0),(i64 36864)]) w67) (
 ∃ J6:NP 1,
 (aI w64 λS40 w68=>
 Go.Vc.aN (t0) /\
 aB prog S40 (Instr.fieldAt 139 t0 0) λt194=>
 aB prog S40 (Instr.loadAt 137 t194) λt195=>
 aB prog S40 (Instr.indexAt 42 t16 (i64 0)) λt197=>
 aB prog S40 (Instr.loadAt 3 t197) λt198=>
 (aD prog 105 #[t195,t198] w68 λt199 w69=>
 S40 w69 /\
 aB prog S40 (Instr.extract t199 0) λt200=>
 aB prog S40 (Instr.extract t199 1) λ_=>
 V prog (Instr.alloc 127 true (.tuple #[])) w69 λt26 w70=>
 S40 w70 /\
 U prog (Instr.storeAt 127 t26 t200) w70 λ_ w71=>
 S40 w71 /\
 J6 t26 w71) /\
 (V prog (Instr.alloc 127 true (.tuple #[])) w68 λt26_1 w72=>
 S40 w72 /\
 aD prog 105 #[t195,t198] w72 λt199_1 w73=>
 S40 w73 /\
 aB prog S40 (Instr.extract t199_1 0) λt200_1=>
 aB prog S40 (Instr.extract t199_1 1) λ_=>
 U prog (Instr.storeAt 127 t26_1 t200_1) w73 λ_ w74=>
 S40 w74 /\
 J6 t26_1 w74)) /\
 ∀ (t26_2:Z),∀ w75:O,J6 t26_2 w75->∀ _f:bL,
 aI w75 λS41 w76=>
 aB prog S41 (Instr.fieldAt 127 t26_2 4) λt202=>
 aB prog S41 (Instr.loadAt 23 t202) λt203=>
 aB prog S41 (Instr.indexAt 42 t16 (i64 1)) λt205=>
 aB prog S41 (Instr.loadAt 3 t205) λt206=>
 aB prog S41 (Instr.indexAt 23 t203 t206) λt207=>
 aB prog S41 (Instr.loadAt 5 t207) λt208=>
 aB prog S41 (convert 5 21 t208) λt209=>
 R (.tuple #[t209,(i64 36864)]) w76))) (
 ∃ J7:NP 1,
 (V prog (do eqGuard .eql 3 (.tmp 75) (.const (i64 31)) t3 (i64 31);binOp .eql 3 t3 (i64 31)) w60 λt211 w77=>
 aO t211 (
 J7 t211 w77) (
 V prog (do eqGuard .eql 3 (.tmp 75) (.const (i64 32)) t3 (i64 32);binOp .eql 3 t3 (i64 32)) w77 λt212 w78=>
 J7 t212 w78)) /\
 ∀ (t210:Z),∀ w79:O,J7 t210 w79->∀ _f:bL,
 aO t210 (
 aI w79 λS44 w80=>
 Go.Vc.aN (t0) /\
 aB prog S44 (Instr.fieldAt 139 t0 0) λt215=>
 aB prog S44 (Instr.loadAt 137 t215) λt216=>
 aB prog S44 (Instr.indexAt 42 t16 (i64 0)) λt218=>
 aB prog S44 (Instr.loadAt 3 t218) λt219=>
 aB prog S44 (Instr.indexAt 42 t16 (i64 1)) λt221=>
 aB prog S44 (Instr.loadAt 3 t221) λt222=>
 aB prog S44 (Instr.indexAt 42 t16 (i64 4)) λt224=>
 aB prog S44 (Instr.loadAt 3 t224) λt225=>
 aD prog 106 #[t216,t219,t222,t225,t2] w80 λt227 w81=>
 S44 w81 /\
 V prog (do eqGuard .neq 3 (.tmp 228) (.const (i64 36864)) t227 (i64 36864);binOp .neq 3 t227 (i64 36864)) w81 λt229 w82=>
 aO t229 (
 R (.tuple #[(Value.int IntKind.i32 0),t227]) w82) (
 aI w82 λS47 w83=>
 Go.Vc.aN (t0) /\
 aB prog S47 (Instr.fieldAt 139 t0 0) λt233=>
 aB prog S47 (Instr.loadAt 137 t233) λt234=>
 aB prog S47 (Instr.indexAt 42 t16 (i64 2)) λt236=>
 aB prog S47 (Instr.loadAt 3 t236) λt237=>
 aB prog S47 (Instr.indexAt 42 t16 (i64 3)) λt239=>
 aB prog S47 (Instr.loadAt 3 t239) λt240=>
 aB prog S47 (Instr.indexAt 42 t16 (i64 4)) λt242=>
 aB prog S47 (Instr.loadAt 3 t242) λt243=>
 aD prog 106 #[t234,t237,t240,t243,t2] w83 λt245 w84=>
 S47 w84 /\
 V prog (do eqGuard .neq 3 (.tmp 246) (.const (i64 36864)) t245 (i64 36864);binOp .neq 3 t245 (i64 36864)) w84 λt247 w85=>
 aO t247 (
 R (.tuple #[(Value.int IntKind.i32 0),t245]) w85) (
 ∃ J8:NP 1,
 (aI w85 λS50 w86=>
 Go.Vc.aN (t0) /\
 aB prog S50 (Instr.fieldAt 139 t0 0) λt252=>
 aB prog S50 (Instr.loadAt 137 t252) λt253=>
 aB prog S50 (Instr.indexAt 42 t16 (i64 0)) λt255=>
 aB prog S50 (Instr.loadAt 3 t255) λt256=>
 (aD prog 105 #[t253,t256] w86 λt257 w87=>
 S50 w87 /\
 aB prog S50 (Instr.extract t257 0) λt258=>
 aB prog S50 (Instr.extract t257 1) λ_=>
 V prog (Instr.alloc 127 true (.tuple #[])) w87 λt30 w88=>
 S50 w88 /\
 U prog (Instr.storeAt 127 t30 t258) w88 λ_ w89=>
 S50 w89 /\
 J8 t30 w89) /\
 (V prog (Instr.alloc 127 true (.tuple #[])) w86 λt30_1 w90=>
 S50 w90 /\
 aD prog 105 #[t253,t256] w90 λt257_1 w91=>
 S50 w91 /\
 aB prog S50 (Instr.extract t257_1 0) λt258_1=>
 aB prog S50 (Instr.extract t257_1 1) λ_=>
 U prog (Instr.storeAt 127 t30_1 t258_1) w91 λ_ w92=>
 S50 w92 /\
 J8 t30_1 w92)) /\
 ∀ (t30_2:Z),∀ w93:O,J8 t30_2 w93->∀ _f:bL,
 ∃ J9:NP 1,
 (aI w93 λS51 w94=>
 Go.Vc.aN (t0) /\
 aB prog S51 (Instr.fieldAt 139 t0 0) λt263=>
 aB prog S51 (Instr.loadAt 137 t263) λt264=>
 aB prog S51 (Instr.indexAt 42 t16 (i64 2)) λt266=>
 aB prog S51 (Instr.loadAt 3 t266) λt267=>
 (aD prog 105 #[t264,t267] w94 λt268 w95=>
 S51 w95 /\
 aB prog S51 (Instr.extract t268 0) λt269=>
 aB prog S51 (Instr.extract t268 1) λ_=>
 V prog (Instr.alloc 127 true (.tuple #[])) w95 λt32 w96=>
 S51 w96 /\
 U prog (Instr.storeAt 127 t32 t269) w96 λ_ w97=>
 S51 w97 /\
 J9 t32 w97) /\
 (V prog (Instr.alloc 127 true (.tuple #[])) w94 λt32_1 w98=>
 S51 w98 /\
 aD prog 105 #[t264,t267] w98 λt268_1 w99=>
 S51 w99 /\
 aB prog S51 (Instr.extract t268_1 0) λt269_1=>
 aB prog S51 (Instr.extract t268_1 1) λ_=>
 U prog (Instr.storeAt 127 t32_1 t269_1) w99 λ_ w100=>
 S51 w100 /\
 J9 t32_1 w100)) /\
 ∀ (t32_2:Z),∀ w101:O,J9 t32_2 w101->∀ _f:bL,
 aI w101 λS52 w102=>
 aB prog S52 (Instr.fieldAt 127 t32_2 4) λt271=>
 aB prog S52 (Instr.loadAt 23 t271) λt272=>
 aB prog S52 (Instr.indexAt 42 t16 (i64 3)) λt274=>
 aB prog S52 (Instr.loadAt 3 t274) λt275=>
 aB prog S52 (Instr.indexAt 42 t16 (i64 3)) λt277=>
 aB prog S52 (Instr.loadAt 3 t277) λt278=>
 aB prog S52 (Instr.indexAt 42 t16 (i64 4)) λt280=>
 aB prog S52 (Instr.loadAt 3 t280) λt281=>
 aB prog S52 (binOp .add 3 t278 t281) λt282=>
 aB prog S52 (Instr.sliceAt 23 t272 (some t275) (some t282) none) λt283=>
 V prog (do eqGuard .eql 3 (.tmp 284) (.const (i64 31)) t3 (i64 31);binOp .eql 3 t3 (i64 31)) w102 λt285 w103=>
 aO t285 (
 aI w103 λS54 w104=>
 Go.Vc.aN (t0) /\
 aB prog S54 (Instr.fieldAt 139 t0 0) λt288=>
 aB prog S54 (Instr.loadAt 137 t288) λt289=>
 aB prog S54 (Instr.indexAt 42 t16 (i64 0)) λt291=>
 aB prog S54 (Instr.loadAt 3 t291) λt292=>
 aB prog S54 (Instr.indexAt 42 t16 (i64 1)) λt294=>
 aB prog S54 (Instr.loadAt 3 t294) λt295=>
 aD prog 107 #[t289,t292,t295,t283] w104 λ_ w105=>
 S54 w105 /\
 R (.tuple #[(Value.int IntKind.i32 0),(i64 36864)]) w105) (
 aI w103 λS56 w106=>
 aB prog S56 (Instr.fieldAt 127 t30_2 4) λt298=>
 aB prog S56 (Instr.loadAt 23 t298) λt299=>
 aB prog S56 (Instr.indexAt 42 t16 (i64 1)) λt301=>
 aB prog S56 (Instr.loadAt 3 t301) λt302=>
 aB prog S56 (Instr.indexAt 42 t16 (i64 1)) λt304=>
 aB prog S56 (Instr.loadAt 3 t304) λt305=>
 aB prog S56 (Instr.indexAt 42 t16 (i64 4)) λt307=>
 aB prog S56 (Instr.loadAt 3 t307) λt308=>
 aB prog S56 (binOp .add 3 t305 t308) λt309=>
 aB prog S56 (Instr.sliceAt 23 t299 (some t302) (some t309) none) λt310=>
 aB prog S56 (convert 23 9 t310) λt311=>
 aB prog S56 (convert 23 9 t283) λt313=>
 aB prog S56 (do eqGuard .eql 9 (.tmp 311) (.tmp 313) t311 t313;binOp .eql 9 t311 t313) λt314=>
 aO t314 (
 R (.tuple #[(Value.int IntKind.i32 1),(i64 36864)]) w106) (
 R (.tuple #[(Value.int IntKind.i32 0),(i64 36864)]) w106))))) (
 aI w79 λS59 w107=>
 Go.Vc.aN (t0) /\
 aB prog S59 (Instr.fieldAt 139 t0 0) λt317=>
 aB prog S59 (Instr.loadAt 137 t317) λt318=>
 aB prog S59 (Instr.indexAt 42 t16 (i64 0)) λt320=>
 aB prog S59 (Instr.loadAt 3 t320) λt321=>
 aB prog S59 (Instr.indexAt 42 t16 (i64 1)) λt323=>
 aB prog S59 (Instr.loadAt 3 t323) λt324=>
 aB prog S59 (Instr.indexAt 42 t16 (i64 2)) λt326=>
 aB prog S59 (Instr.loadAt 3 t326) λt327=>
 aD prog 106 #[t318,t321,t324,t327,t2] w107 λt329 w108=>
 S59 w108 /\
 V prog (do eqGuard .neq 3 (.tmp 330) (.const (i64 36864)) t329 (i64 36864);binOp .neq 3 t329 (i64 36864)) w108 λt331 w109=>
 aO t331 (
 R (.tuple #[(Value.int IntKind.i32 0),t329]) w109) (
 ∃ J10:NP 1,
 (aI w109 λS62 w110=>
 Go.Vc.aN (t0) /\
 aB prog S62 (Instr.fieldAt 139 t0 0) λt336=>
 aB prog S62 (Instr.loadAt 137 t336) λt337=>
 aB prog S62 (Instr.indexAt 42 t16 (i64 0)) λt339=>
 aB prog S62 (Instr.loadAt 3 t339) λt340=>
 (aD prog 105 #[t337,t340] w110 λt341 w111=>
 S62 w111 /\
 aB prog S62 (Instr.extract t341 0) λt342=>
 aB prog S62 (Instr.extract t341 1) λ_=>
 V prog (Instr.alloc 127 true (.tuple #[])) w111 λt36 w112=>
 S62 w112 /\
 U prog (Instr.storeAt 127 t36 t342) w112 λ_ w113=>
 S62 w113 /\
 J10 t36 w113) /\
 (V prog (Instr.alloc 127 true (.tuple #[])) w110 λt36_1 w114=>
 S62 w114 /\
 aD prog 105 #[t337,t340] w114 λt341_1 w115=>
 S62 w115 /\
 aB prog S62 (Instr.extract t341_1 0) λt342_1=>
 aB prog S62 (Instr.extract t341_1 1) λ_=>
 U prog (Instr.storeAt 127 t36_1 t342_1) w115 λ_ w116=>
 S62 w116 /\
 J10 t36_1 w116)) /\
 ∀ (t36_2:Z),∀ w117:O,J10 t36_2 w117->∀ _f:bL,
 Go.Vc.aN (t0) /\
 V prog (Instr.fieldAt 139 t0 3) w117 λt346 w119=>
 ∃ J11:NP 1,
 (V prog (do eqGuard .neq 3 (.tmp 347) (.const (i64 1)) t4 (i64 1);binOp .neq 3 t4 (i64 1)) w119 λt348 w120=>
 aO t348 (
 Go.Vc.aN (t0) /\
 V prog (Instr.fieldAt 139 t0 4) w120 λt351 w122=>
 J11 t351 w122) (
 J11 t346 w120)) /\
 ∀ (t38:Z),∀ w123:O,J11 t38 w123->∀ _f:bL,
 aI w123 λS66 w124=>
 aB prog S66 (Instr.indexAt 42 t16 (i64 2)) λt353=>
 aB prog S66 (Instr.loadAt 3 t353) λt354=>
 Go.Vc.aN (t38) /\
 aB prog S66 (Instr.loadAt 23 t38) λt357=>
 aB prog S66 (Builtin.len_ #[23] 3 #[t357]) λt358=>
 aB prog S66 (binOp .sub 3 (i64 128) t358) λt359=>
 aB prog S66 (binOp .gtr 3 t354 t359) λt360=>
 aO t360 (
 R (.tuple #[(Value.int IntKind.i32 0),(i64 28425)]) w124) (
 aI w124 λS68 w125=>
 Go.Vc.aN (t38) /\
 aB prog S68 (Instr.loadAt 23 t38) λt365=>
 aB prog S68 (Instr.fieldAt 127 t36_2 4) λt367=>
 aB prog S68 (Instr.loadAt 23 t367) λt368=>
 aB prog S68 (Instr.indexAt 42 t16 (i64 1)) λt370=>
 aB prog S68 (Instr.loadAt 3 t370) λt371=>
 aB prog S68 (Instr.indexAt 42 t16 (i64 1)) λt373=>
 aB prog S68 (Instr.loadAt 3 t373) λt374=>
 aB prog S68 (Instr.indexAt 42 t16 (i64 2)) λt376=>
 aB prog S68 (Instr.loadAt 3 t376) λt377=>
 aB prog S68 (binOp .add 3 t374 t377) λt378=>
 aB prog S68 (Instr.sliceAt 23 t368 (some t371) (some t378) none) λt379=>
 V prog (Instr.buildSlice 23 0 #[]) w125 λt362 w126=>
 S68 w126 /\
 V prog (Builtin.append_ #[23,23] 23 #[t362,t365]) w126 λt366 w127=>
 S68 w127 /\
 V prog (Builtin.append_ #[23,23] 23 #[t366,t379]) w127 λt380 w128=>
 S68 w128 /\
 Go.Vc.aN (t38) /\
 U prog (Instr.storeAt 23 t38 t380) w128 λ_ w129=>
 R (.tuple #[(Value.int IntKind.i32 0),(i64 36864)]) w129)))))))
theorem MU:∀ {l:List qK} {k:Nat} {e:qK} {j:Nat},l[k]?=some e->j < 4->(nI l)[k*4+j]?=e.cells[j]?
 | [],k,e,j,h,_=>by simp at h
 | b::l,0,e,j,h,hj=>by
  simp at h;subst h;show (b.cells++nI l)[0*4+j]?=_;rw [List.getElem?_append_left (by simp [qK.cells];omega)];simp
 | b::l,k+1,e,j,h,hj=>by
  have h':l[k]?=some e:=by simpa using h
  show (b.cells++nI l)[(k+1)*4+j]?=_;rw [List.getElem?_append_right (by simp [qK.cells];omega),<- MU h' hj]
  congr 1
  simp [qK.cells];omega
section
variable {w w':O}
theorem LW {t:TypeId} {w:O} {K:Z->O->Prop} {n:Nat} {parts:Array (Nat × Z)} {cs:List Z} (hr:(Instr.buildSlice t n parts).run prog w=.ok (.slice (some ⟨w.heap.size,0,none⟩) n n) (w.alloc (.cells cs.toArray 54))) (hn:cs.length=n*4) (hm:n<=maxLen) (hk:∀ w',w'.ownsRow w.heap.size 54 4 (.slice (some ⟨w.heap.size,0,none⟩) n n) n cs->aH w w'->K (.slice (some ⟨w.heap.size,0,none⟩) n n) w'):V prog (Instr.buildSlice t n parts) w K:=by
 refine V.ok hr ?_;have hb1:aY (w.alloc (.cells cs.toArray 54)) w.heap.size cs 54:=by unfold aY;rw [heap_alloc_new]
 exact hk _ (dZ hb1 hn (Nat.le_refl _) hm) ((aH.refl _).alloc _)
theorem aC.ldxE {t x:TypeId} {w:O} {v:Z} {n:Nat} {l:List qK} {i:Nat} {e:qK} {K:Z->O->Prop} (hx:XA prog t 4) (ht:∃ d z by_,prog.underlying x=some d/\mO d=true/\cS prog x z 4 by_) (hs:aC w v 4 n (nI l)) (hi:i < n) (he:l[i]?=some e) (hk:K (.agg e.cells.toArray) w) :
  V prog (Instr.indexAt t v (.int .i64 (i:Int))) w λp w1=>V prog (Instr.loadAt x p) w1 K:=by
 obtain ⟨e',z,b',hte,hinf⟩:=hx;obtain ⟨d,z2,by2,hd,ha,hi2⟩:=ht;obtain ⟨b,off,cap,rfl,hc⟩:=hs.there (by omega);refine V.ok (eW hte hinf (by omega) (by omega)) (V.ok (jE hd ha hi2 (cs:=e.cells) rfl λj hj=>?_) hk);have hj4:j < 4:=hj;obtain ⟨u,hu⟩:=bN (l:=e.cells) (j:=j) hj;have:=hc (i*4+j) u (by rw [MU he hj4];exact hu);rw [hu,Int.toNat_natCast,Nat.add_assoc];exact this
end
theorem KH {w:O} {sa sb x0 x1:Int} {ov:Z} (_:aC w ov 1 2 [i64 x0,i64 x1]):aD prog 102 #[i64 17,i64 sa,i64 sb,ov] w λr w'=>(w'.ownsRow w.heap.size 54 4 r 0 (nI []))/\aH w w':=by
 apply nC
 have key:∀ {R:Z->O->Prop},(∀ r w',w'.ownsRow w.heap.size 54 4 r 0 (nI [])->aH w w'->R r w')->eP (i64 17) (i64 sa) (i64 sb) ov w R:=by
  intro R hR;unfold eP;simp only [aF,Int.reduceEq,decide_false,aA];refine ⟨λv w'=>v=.bool false/\w'=w,(by first|exact ⟨rfl,rfl⟩|(simp only [aF,Int.reduceEq,decide_false,decide_true,aA,aE];exact ⟨trivial,trivial⟩)|(simp only [aF,Int.reduceEq,decide_false,decide_true,aA,aE];exact ⟨rfl,rfl⟩)),?_⟩;rintro _ w' ⟨rfl,hw⟩ _;have hw:=hw.symm;subst hw;refine aA.2 ?_;refine ⟨λv w'=>v=.bool false/\w'=w,(by first|exact ⟨rfl,rfl⟩|(simp only [aF,Int.reduceEq,decide_false,decide_true,aA,aE];exact ⟨trivial,trivial⟩)|(simp only [aF,Int.reduceEq,decide_false,decide_true,aA,aE];exact ⟨rfl,rfl⟩)),?_⟩;rintro _ w' ⟨rfl,hw⟩ _;have hw:=hw.symm;subst hw;refine aA.2 ?_
  try simp only [aF,Int.reduceEq,decide_false,decide_true,aA,aE]
  exact hR _ _ (World.ownsRow_nil _ _ _ _) (aH.refl _)
 exact key λr w' h1 h2=>⟨h1,h2⟩
theorem KG {w:O} {sa sb x0 x1:Int} {ov:Z} (_:aC w ov 1 2 [i64 x0,i64 x1]):aD prog 102 #[i64 18,i64 sa,i64 sb,ov] w λr w'=>(w'.ownsRow w.heap.size 54 4 r 0 (nI []))/\aH w w':=by
 apply nC
 have key:∀ {R:Z->O->Prop},(∀ r w',w'.ownsRow w.heap.size 54 4 r 0 (nI [])->aH w w'->R r w')->eP (i64 18) (i64 sa) (i64 sb) ov w R:=by
  intro R hR;unfold eP;simp only [aF,Int.reduceEq,decide_false,aA];refine ⟨λv w'=>v=.bool false/\w'=w,(by first|exact ⟨rfl,rfl⟩|(simp only [aF,Int.reduceEq,decide_false,decide_true,aA,aE];exact ⟨trivial,trivial⟩)|(simp only [aF,Int.reduceEq,decide_false,decide_true,aA,aE];exact ⟨rfl,rfl⟩)),?_⟩;rintro _ w' ⟨rfl,hw⟩ _;have hw:=hw.symm;subst hw;refine aA.2 ?_;refine ⟨λv w'=>v=.bool false/\w'=w,(by first|exact ⟨rfl,rfl⟩|(simp only [aF,Int.reduceEq,decide_false,decide_true,aA,aE];exact ⟨trivial,trivial⟩)|(simp only [aF,Int.reduceEq,decide_false,decide_true,aA,aE];exact ⟨rfl,rfl⟩)),?_⟩;rintro _ w' ⟨rfl,hw⟩ _;have hw:=hw.symm;subst hw;refine aA.2 ?_
  try simp only [aF,Int.reduceEq,decide_false,decide_true,aA,aE]
  exact hR _ _ (World.ownsRow_nil _ _ _ _) (aH.refl _)
 exact key λr w' h1 h2=>⟨h1,h2⟩
theorem KF {w:O} {sa sb x0:Int} {ov:Z} (ho:aC w ov 1 1 [i64 x0]):aD prog 102 #[i64 27,i64 sa,i64 sb,ov] w λr w'=>(w'.ownsRow w.heap.size 54 4 r 1 (nI [⟨3,sa,sb,x0⟩]))/\aH w w':=by
 apply nC
 have key:∀ {R:Z->O->Prop},(∀ r w',w'.ownsRow w.heap.size 54 4 r 1 (nI [⟨3,sa,sb,x0⟩])->aH w w'->R r w')->eP (i64 27) (i64 sa) (i64 sb) ov w R:=by
  intro R hR;unfold eP;simp only [aF,Int.reduceEq,decide_false,decide_true,aA,aE];refine mS aK aJ ho (by omega) (by omega) (rfl:([i64 x0]:List Z)[(0:Int).toNat]?=_) ?_;refine bld sB [(0,i64 3),(1,i64 sa),(2,i64 sb),(3,i64 x0)] rfl rfl ?_;refine LW (cs:=nI [⟨3,sa,sb,x0⟩]) (by kernel_rfl) rfl (by unfold maxLen;omega) λw2 ho2 x2=>?_;exact hR _ _ ho2 x2
 exact key λr w' h1 h2=>⟨h1,h2⟩
theorem KE {w:O} {sa sb x0:Int} {ov:Z} (ho:aC w ov 1 1 [i64 x0]):aD prog 102 #[i64 28,i64 sa,i64 sb,ov] w λr w'=>(w'.ownsRow w.heap.size 54 4 r 1 (nI [⟨2,x0,0,0⟩]))/\aH w w':=by
 apply nC
 have key:∀ {R:Z->O->Prop},(∀ r w',w'.ownsRow w.heap.size 54 4 r 1 (nI [⟨2,x0,0,0⟩])->aH w w'->R r w')->eP (i64 28) (i64 sa) (i64 sb) ov w R:=by
  intro R hR;unfold eP;simp only [aF,Int.reduceEq,decide_false,decide_true,aA,aE];refine mS aK aJ ho (by omega) (by omega) (rfl:([i64 x0]:List Z)[(0:Int).toNat]?=_) ?_;refine bld sB [(0,i64 2),(1,i64 x0)] rfl rfl ?_;refine LW (cs:=nI [⟨2,x0,0,0⟩]) (by kernel_rfl) rfl (by unfold maxLen;omega) λw2 ho2 x2=>?_;exact hR _ _ ho2 x2
 exact key λr w' h1 h2=>⟨h1,h2⟩
theorem KD {w:O} {sa sb x0 x1:Int} {ov:Z} (ho:aC w ov 1 2 [i64 x0,i64 x1]):aD prog 102 #[i64 29,i64 sa,i64 sb,ov] w λr w'=>(w'.ownsRow w.heap.size 54 4 r 1 (nI [⟨2,x0,x1,1⟩]))/\aH w w':=by
 apply nC
 have key:∀ {R:Z->O->Prop},(∀ r w',w'.ownsRow w.heap.size 54 4 r 1 (nI [⟨2,x0,x1,1⟩])->aH w w'->R r w')->eP (i64 29) (i64 sa) (i64 sb) ov w R:=by
  intro R hR;unfold eP;simp only [aF,Int.reduceEq,decide_false,decide_true,aA,aE];refine ⟨λv w'=>v=.bool true/\w'=w,(by first|exact ⟨rfl,rfl⟩|(simp only [aF,Int.reduceEq,decide_false,decide_true,aA,aE];exact ⟨trivial,trivial⟩)|(simp only [aF,Int.reduceEq,decide_false,decide_true,aA,aE];exact ⟨rfl,rfl⟩)),?_⟩;rintro _ w' ⟨rfl,hw⟩ _;have hw:=hw.symm;subst hw;refine aE.2 ?_;have D:aH w w.drew:=(aH.refl _).drew;refine aI.mk' (λw'=>aH w w') D ?_;refine gV aK aJ ho (λw' hw=>hw) (by omega) (by omega) (rfl:([i64 x0,i64 x1]:List Z)[(0:Int).toNat]?=_) ?_;refine gV aK aJ ho (λw' hw=>hw) (by omega) (by omega) (rfl:([i64 x0,i64 x1]:List Z)[(1:Int).toNat]?=_) ?_;refine qL sB [(0,i64 2),(1,i64 x0),(2,i64 x1),(3,i64 1)] rfl rfl ?_;refine LW (cs:=nI [⟨2,x0,x1,1⟩]) (by kernel_rfl) rfl (by unfold maxLen;omega) λw2 ho2 x2=>?_;exact ⟨D.trans x2,hR _ _ (aQ ho2 D.size) (D.trans x2)⟩
 exact key λr w' h1 h2=>⟨h1,h2⟩
theorem KC {w:O} {sa sb x0 x1 x2:Int} {ov:Z} (ho:aC w ov 1 3 [i64 x0,i64 x1,i64 x2]):aD prog 102 #[i64 30,i64 sa,i64 sb,ov] w λr w'=>(w'.ownsRow w.heap.size 54 4 r 1 (nI [⟨2,x0,x1,1⟩]))/\aH w w':=by
 apply nC
 have key:∀ {R:Z->O->Prop},(∀ r w',w'.ownsRow w.heap.size 54 4 r 1 (nI [⟨2,x0,x1,1⟩])->aH w w'->R r w')->eP (i64 30) (i64 sa) (i64 sb) ov w R:=by
  intro R hR;unfold eP;simp only [aF,Int.reduceEq,decide_false,decide_true,aA];refine ⟨λv w'=>v=.bool true/\w'=w,(by first|exact ⟨rfl,rfl⟩|(simp only [aF,Int.reduceEq,decide_false,decide_true,aA,aE];exact ⟨trivial,trivial⟩)|(simp only [aF,Int.reduceEq,decide_false,decide_true,aA,aE];exact ⟨rfl,rfl⟩)),?_⟩;rintro _ w' ⟨rfl,hw⟩ _;have hw:=hw.symm;subst hw;refine aE.2 ?_;have D:aH w w.drew:=(aH.refl _).drew;refine aI.mk' (λw'=>aH w w') D ?_;refine gV aK aJ ho (λw' hw=>hw) (by omega) (by omega) (rfl:([i64 x0,i64 x1,i64 x2]:List Z)[(0:Int).toNat]?=_) ?_;refine gV aK aJ ho (λw' hw=>hw) (by omega) (by omega) (rfl:([i64 x0,i64 x1,i64 x2]:List Z)[(1:Int).toNat]?=_) ?_;refine qL sB [(0,i64 2),(1,i64 x0),(2,i64 x1),(3,i64 1)] rfl rfl ?_;refine LW (cs:=nI [⟨2,x0,x1,1⟩]) (by kernel_rfl) rfl (by unfold maxLen;omega) λw2 ho2 x2=>?_;exact ⟨D.trans x2,hR _ _ (aQ ho2 D.size) (D.trans x2)⟩
 exact key λr w' h1 h2=>⟨h1,h2⟩
theorem KB {w:O} {sa sb x0 x1 x2 x3 x4:Int} {ov:Z} (ho:aC w ov 1 5 [i64 x0,i64 x1,i64 x2,i64 x3,i64 x4]):aD prog 102 #[i64 31,i64 sa,i64 sb,ov] w λr w'=>(w'.ownsRow w.heap.size 54 4 r 2 (nI [⟨2,x0,x1,x4⟩,⟨2,x2,x3,x4⟩]))/\aH w w':=by
 apply nC
 have key:∀ {R:Z->O->Prop},(∀ r w',w'.ownsRow w.heap.size 54 4 r 2 (nI [⟨2,x0,x1,x4⟩,⟨2,x2,x3,x4⟩])->aH w w'->R r w')->eP (i64 31) (i64 sa) (i64 sb) ov w R:=by
  intro R hR;unfold eP;simp only [aF,Int.reduceEq,decide_false,decide_true,aA,aE];refine ⟨λv w'=>v=.bool false/\w'=w,(by first|exact ⟨rfl,rfl⟩|(simp only [aF,Int.reduceEq,decide_false,decide_true,aA,aE];exact ⟨trivial,trivial⟩)|(simp only [aF,Int.reduceEq,decide_false,decide_true,aA,aE];exact ⟨rfl,rfl⟩)),?_⟩;rintro _ w' ⟨rfl,hw⟩ _;have hw:=hw.symm;subst hw;refine aA.2 ?_;refine ⟨λv w'=>v=.bool true/\w'=w,(by first|exact ⟨rfl,rfl⟩|(simp only [aF,Int.reduceEq,decide_false,decide_true,aA,aE];exact ⟨trivial,trivial⟩)|(simp only [aF,Int.reduceEq,decide_false,decide_true,aA,aE];exact ⟨rfl,rfl⟩)),?_⟩;rintro _ w' ⟨rfl,hw⟩ _;have hw:=hw.symm;subst hw;refine aE.2 ?_;have D:aH w w.drew:=(aH.refl _).drew;refine aI.mk' (λw'=>aH w w') D ?_;refine gV aK aJ ho (λw' hw=>hw) (by omega) (by omega) (rfl:([i64 x0,i64 x1,i64 x2,i64 x3,i64 x4]:List Z)[(0:Int).toNat]?=_) ?_;refine gV aK aJ ho (λw' hw=>hw) (by omega) (by omega) (rfl:([i64 x0,i64 x1,i64 x2,i64 x3,i64 x4]:List Z)[(1:Int).toNat]?=_) ?_;refine gV aK aJ ho (λw' hw=>hw) (by omega) (by omega) (rfl:([i64 x0,i64 x1,i64 x2,i64 x3,i64 x4]:List Z)[(4:Int).toNat]?=_) ?_;refine qL sB [(0,i64 2),(1,i64 x0),(2,i64 x1),(3,i64 x4)] rfl rfl ?_;refine gV aK aJ ho (λw' hw=>hw) (by omega) (by omega) (rfl:([i64 x0,i64 x1,i64 x2,i64 x3,i64 x4]:List Z)[(2:Int).toNat]?=_) ?_
  refine gV aK aJ ho (λw' hw=>hw) (by omega) (by omega) (rfl:([i64 x0,i64 x1,i64 x2,i64 x3,i64 x4]:List Z)[(3:Int).toNat]?=_) ?_;refine gV aK aJ ho (λw' hw=>hw) (by omega) (by omega) (rfl:([i64 x0,i64 x1,i64 x2,i64 x3,i64 x4]:List Z)[(4:Int).toNat]?=_) ?_;refine qL sB [(0,i64 2),(1,i64 x2),(2,i64 x3),(3,i64 x4)] rfl rfl ?_;refine LW (cs:=nI [⟨2,x0,x1,x4⟩,⟨2,x2,x3,x4⟩]) (by kernel_rfl) rfl (by unfold maxLen;omega) λw2 ho2 x2=>?_;exact ⟨D.trans x2,hR _ _ (aQ ho2 D.size) (D.trans x2)⟩
 exact key λr w' h1 h2=>⟨h1,h2⟩
theorem KA {w:O} {sa sb x0 x1 x2 x3 x4:Int} {ov:Z} (ho:aC w ov 1 5 [i64 x0,i64 x1,i64 x2,i64 x3,i64 x4]):aD prog 102 #[i64 32,i64 sa,i64 sb,ov] w λr w'=>(w'.ownsRow w.heap.size 54 4 r 2 (nI [⟨2,x0,x1,x4⟩,⟨2,x2,x3,x4⟩]))/\aH w w':=by
 apply nC
 have key:∀ {R:Z->O->Prop},(∀ r w',w'.ownsRow w.heap.size 54 4 r 2 (nI [⟨2,x0,x1,x4⟩,⟨2,x2,x3,x4⟩])->aH w w'->R r w')->eP (i64 32) (i64 sa) (i64 sb) ov w R:=by
  intro R hR;unfold eP;simp only [aF,Int.reduceEq,decide_false,decide_true,aA];refine ⟨λv w'=>v=.bool false/\w'=w,(by first|exact ⟨rfl,rfl⟩|(simp only [aF,Int.reduceEq,decide_false,decide_true,aA,aE];exact ⟨trivial,trivial⟩)|(simp only [aF,Int.reduceEq,decide_false,decide_true,aA,aE];exact ⟨rfl,rfl⟩)),?_⟩;rintro _ w' ⟨rfl,hw⟩ _;have hw:=hw.symm;subst hw;refine aA.2 ?_;refine ⟨λv w'=>v=.bool true/\w'=w,(by first|exact ⟨rfl,rfl⟩|(simp only [aF,Int.reduceEq,decide_false,decide_true,aA,aE];exact ⟨trivial,trivial⟩)|(simp only [aF,Int.reduceEq,decide_false,decide_true,aA,aE];exact ⟨rfl,rfl⟩)),?_⟩;rintro _ w' ⟨rfl,hw⟩ _;have hw:=hw.symm;subst hw;refine aE.2 ?_;have D:aH w w.drew:=(aH.refl _).drew;refine aI.mk' (λw'=>aH w w') D ?_;refine gV aK aJ ho (λw' hw=>hw) (by omega) (by omega) (rfl:([i64 x0,i64 x1,i64 x2,i64 x3,i64 x4]:List Z)[(0:Int).toNat]?=_) ?_;refine gV aK aJ ho (λw' hw=>hw) (by omega) (by omega) (rfl:([i64 x0,i64 x1,i64 x2,i64 x3,i64 x4]:List Z)[(1:Int).toNat]?=_) ?_;refine gV aK aJ ho (λw' hw=>hw) (by omega) (by omega) (rfl:([i64 x0,i64 x1,i64 x2,i64 x3,i64 x4]:List Z)[(4:Int).toNat]?=_) ?_;refine qL sB [(0,i64 2),(1,i64 x0),(2,i64 x1),(3,i64 x4)] rfl rfl ?_;refine gV aK aJ ho (λw' hw=>hw) (by omega) (by omega) (rfl:([i64 x0,i64 x1,i64 x2,i64 x3,i64 x4]:List Z)[(2:Int).toNat]?=_) ?_
  refine gV aK aJ ho (λw' hw=>hw) (by omega) (by omega) (rfl:([i64 x0,i64 x1,i64 x2,i64 x3,i64 x4]:List Z)[(3:Int).toNat]?=_) ?_;refine gV aK aJ ho (λw' hw=>hw) (by omega) (by omega) (rfl:([i64 x0,i64 x1,i64 x2,i64 x3,i64 x4]:List Z)[(4:Int).toNat]?=_) ?_;refine qL sB [(0,i64 2),(1,i64 x2),(2,i64 x3),(3,i64 x4)] rfl rfl ?_;refine LW (cs:=nI [⟨2,x0,x1,x4⟩,⟨2,x2,x3,x4⟩]) (by kernel_rfl) rfl (by unfold maxLen;omega) λw2 ho2 x2=>?_;exact ⟨D.trans x2,hR _ _ (aQ ho2 D.size) (D.trans x2)⟩
 exact key λr w' h1 h2=>⟨h1,h2⟩
theorem JZ {w:O} {sa sb x0 x1 x2:Int} {ov:Z} (ho:aC w ov 1 3 [i64 x0,i64 x1,i64 x2]):aD prog 102 #[i64 36,i64 sa,i64 sb,ov] w λr w'=>(w'.ownsRow w.heap.size 54 4 r 1 (nI [⟨2,x0,x1,x2⟩]))/\aH w w':=by
 apply nC
 have key:∀ {R:Z->O->Prop},(∀ r w',w'.ownsRow w.heap.size 54 4 r 1 (nI [⟨2,x0,x1,x2⟩])->aH w w'->R r w')->eP (i64 36) (i64 sa) (i64 sb) ov w R:=by
  intro R hR;unfold eP;simp only [aF,Int.reduceEq,decide_false,decide_true,aA,aE];refine ⟨λv w'=>v=.bool false/\w'=w,(by first|exact ⟨rfl,rfl⟩|(simp only [aF,Int.reduceEq,decide_false,decide_true,aA,aE];exact ⟨trivial,trivial⟩)|(simp only [aF,Int.reduceEq,decide_false,decide_true,aA,aE];exact ⟨rfl,rfl⟩)),?_⟩;rintro _ w' ⟨rfl,hw⟩ _;have hw:=hw.symm;subst hw;refine aA.2 ?_;refine ⟨λv w'=>v=.bool false/\w'=w,(by first|exact ⟨rfl,rfl⟩|(simp only [aF,Int.reduceEq,decide_false,decide_true,aA,aE];exact ⟨trivial,trivial⟩)|(simp only [aF,Int.reduceEq,decide_false,decide_true,aA,aE];exact ⟨rfl,rfl⟩)),?_⟩;rintro _ w' ⟨rfl,hw⟩ _;have hw:=hw.symm;subst hw;refine aA.2 ?_
  try simp only [aF,Int.reduceEq,decide_false,decide_true,aA,aE]
  have D:aH w w.drew:=(aH.refl _).drew;refine aI.mk' (λw'=>aH w w') D ?_;refine gV aK aJ ho (λw' hw=>hw) (by omega) (by omega) (rfl:([i64 x0,i64 x1,i64 x2]:List Z)[(0:Int).toNat]?=_) ?_;refine gV aK aJ ho (λw' hw=>hw) (by omega) (by omega) (rfl:([i64 x0,i64 x1,i64 x2]:List Z)[(1:Int).toNat]?=_) ?_;refine gV aK aJ ho (λw' hw=>hw) (by omega) (by omega) (rfl:([i64 x0,i64 x1,i64 x2]:List Z)[(2:Int).toNat]?=_) ?_;refine qL sB [(0,i64 2),(1,i64 x0),(2,i64 x1),(3,i64 x2)] rfl rfl ?_;refine LW (cs:=nI [⟨2,x0,x1,x2⟩]) (by kernel_rfl) rfl (by unfold maxLen;omega) λw2 ho2 x2=>?_;exact ⟨D.trans x2,hR _ _ (aQ ho2 D.size) (D.trans x2)⟩
 exact key λr w' h1 h2=>⟨h1,h2⟩
theorem aFi {w:O} {a b:Int} (ha:-2147483648<=a/\a<=2147483647) (hb:-2147483648<=b/\b<=2147483647) (h0:b≠0):aD prog 68 #[i64 17,i32 a,i32 b] w λr w'=>r=i32 (IntKind.i32.wrap (IntKind.i64.wrap (a.tdiv b)))/\w'=w:=by
 apply YU
 have key:∀ {R:Z->O->Prop},R (i32 (IntKind.i32.wrap (IntKind.i64.wrap (a.tdiv b)))) w->uD (i64 17) (i32 a) (i32 b) w R:=by
  intro R hR;unfold uD;simp only [aF,Int.reduceEq,decide_false,decide_true,aA,aE];simp only [h0,aA,decide_false];refine V.ok (bG underlying21 underlying2) ?_;refine V.ok (bG underlying21 underlying2) ?_;rw [qM ha,qM hb];exact V.ok (EV h0) (V.ok (bG underlying2 underlying21) hR)
 exact key ⟨rfl,rfl⟩
theorem aFh {w:O} {a b:Int} (ha:-2147483648<=a/\a<=2147483647) (hb:-2147483648<=b/\b<=2147483647) (h0:b≠0):aD prog 68 #[i64 18,i32 a,i32 b] w λr w'=>r=i32 (IntKind.i32.wrap (a.tmod b))/\w'=w:=by
 apply YU
 have key:∀ {R:Z->O->Prop},R (i32 (IntKind.i32.wrap (a.tmod b))) w->uD (i64 18) (i32 a) (i32 b) w R:=by
  intro R hR;unfold uD;simp only [aF,Int.reduceEq,decide_false,decide_true,aA,aE];simp only [h0,aA,decide_false];refine V.ok (bG underlying21 underlying2) ?_;refine V.ok (bG underlying21 underlying2) ?_;rw [qM ha,qM hb];exact V.ok (uM h0) (V.ok (bG underlying2 underlying21) hR)
 exact key ⟨rfl,rfl⟩
theorem CJ {op:Int} {nn:Nat} {q:QP} {w:O} {who sa sb:Int} {av:Z} {xs:List Int} {evs:List qK} {R:Z->O->Prop} (h:dH q w) (hl:q.tr.length<=99000) (hnn:nn<=5) (hev:evs.length<=2)
  (hsv:∀ {w:O},aD prog 67 #[i64 op] w λr w'=>r=i64 (nn:Int)/\w'=w)
  (hsh:∀ {w:O} {ov:Z},aC w ov 1 nn (xs.map i64)->aD prog 102 #[i64 op,i64 sa,i64 sb,ov] w λr w'=>(w'.ownsRow w.heap.size 54 4 r evs.length (nI evs))/\aH w w')
  (hxl:xs.length=nn) (hxs:aC w av 1 nn (xs.map i32)) (hsm:gN xs)
  (hk:∀ w' ov uv',dH { q with uv:=uv',tr:=q.tr++evs } w'->mP q { q with uv:=uv',tr:=q.tr++evs } w w'->(∀ w2,Fr (nZ { q with uv:=uv',tr:=q.tr++evs }) w' w2->aC w2 ov 1 nn (xs.map i64))->jW (rV q) (i64 who) (i64 op) (i64 sa) (i64 sb) av ov w' R) :
  DL (rV q) (ubT q) (i64 who) (i64 op) (i64 sa) (i64 sb) av w R:=by
 unfold DL;refine hsv.mono λr w' ⟨hr,hw⟩=>?_;subst hr;have hw:=hw.symm;subst hw;refine fZ fT hxs (aU.2 (aL (λhn=>absurd rfl hn) λ_=>?_));refine ⟨λv v' w'=>∃ i:Nat,v'=i64 i/\i<=nn/\aH w w'/\w'.ownsRow w.heap.size 3 1 v i ((xs.take i).map i64),λ_ v _=>nn - (RowKit.intOf v).toNat,⟨0,rfl,Nat.zero_le _,aH.refl _,by rw [List.take_zero];exact World.ownsRow_nil _ _ _ _⟩,?_⟩;rintro ov _ w2 ⟨i,rfl,hi,x2,ho2⟩ _;refine fZ fT (hxs.ext x2) ?_;refine aV.2 (aL (λhlt=>?_) λhge=>?_)
 ·obtain ⟨z,hz⟩:=bN (l:=xs) (j:=i) (by omega);have hzb:-2147483648<=z/\z<=2147483647:=hsm z (List.mem_of_getElem? hz);refine mS fT eX (hxs.ext x2) (by omega) (by omega) (by simp [hz]:(xs.map i32)[((i:Nat):Int).toNat]?=some (i32 z)) ?_;refine V.ok (bG underlying21 underlying3) ?_;rw [aW (by omega)];refine kJ bE [i64 z] rfl rfl (by simp) rfl λv3 w3 ho3 x3=>?_;have X3:=x2.trans x3;refine apS bE (x3.own ho2) (aC.of_own ho3) (by simp [cC]) (by omega) (by unfold maxLen;omega) X3.size λv4 w4 ho4 hg4 _=>?_;refine mK (by omega) ?_;refine ⟨⟨i+1,rfl,by omega,X3.grown hg4 λj hj=>(ho2.lt j hj).1,?_⟩,by simp only [aT];omega⟩;rw [List.take_add_one,hz];simpa using ho4
 have hin:i=nn:=by omega
 subst hin;rw [List.take_of_length_le (by omega)] at ho2;refine (hsh (aC.of_own ho2)).mono λev w3 ⟨he3,x3⟩=>?_;have X3:=x2.trans x3;have ho3:=x3.own ho2;have h3:=h.ext X3;have s2:=x2.size;have s3:=x3.size;have hlow:∀ j,nZ q j->j < w.heap.size:=λj hj=>h.hi j (.inl hj);refine ⟨λv w'=>∃ (i:Nat) (uv':Z),v=i64 i/\i<=evs.length/\dH { q with uv:=uv',tr:=q.tr++evs.take i } w'/\mP q { q with uv:=uv',tr:=q.tr++evs.take i } w3 w',λv _=>evs.length - (RowKit.intOf v).toNat,⟨0,q.uv,rfl,Nat.zero_le _,by rw [List.take_zero,List.append_nil];exact h3,by rw [List.take_zero,List.append_nil];exact mP.of_ext (aH.refl _)⟩,?_⟩;rintro _ w4 ⟨i,uv',rfl,hi,h4,s4⟩ _;have he4:=s4.fr.own he3 λj hj hm=>by have:=(he3.lt j hj).1;have:=hlow j hm;omega
 refine fZ qA (aC.of_own he4) ?_;refine aV.2 (aL (λhlt=>?_) λhge=>?_)
 ·obtain ⟨e,hee⟩:=bN (l:=evs) (j:=i) (by omega);refine aC.ldxE qA OB (aC.of_own he4) (by omega) hee ?_;refine (UK h4 (by show (q.tr++evs.take i).length<=100000;rw [List.length_append];have h9:(evs.take i).length<=evs.length:=(by simp [List.length_take];omega);omega) (e:=e)).mono λ_ w5 ⟨uv5,h5,s5⟩=>?_;refine mK (by omega) ?_;have hte:q.tr++evs.take (i+1)=(q.tr++evs.take i)++[e]:=by rw [List.take_add_one,hee];simp
  exact ⟨⟨i+1,uv5,rfl,by omega,by rw [hte];exact h5,by rw [hte];exact s4.trans s5⟩,by simp only [aT];omega⟩
 have hin:i=evs.length:=by omega
 subst hin;rw [List.take_of_length_le (Nat.le_refl _)] at h4 s4;refine hk w4 ov uv' h4 ((mP.of_ext X3).trans s4) λw5 f5=>?_;have ho4:=s4.fr.own ho3 λj hj hm=>by have:=(ho3.lt j hj).1;have:=hlow j hm;omega
 refine aC.of_own (f5.own ho4 λj hj hm=>?_);have hj3:=(ho3.lt j hj);rcases s4.mm j hm with hm|hm
 ·have:=hlow j hm;omega
 ·omega
def TY (q:QP) (w:O) (x:zT) (r:Z) (w':O):Prop:=∃ q',r=.tuple #[i32 x.1,i64 x.2.1]/\q'.ps=x.2.2/\dH q' w'/\mP q q' w w'
section
variable {q:QP} {w w':O} {av ov:Z} {R:Z->O->Prop} {s:PS}
theorem iX (h:dH q w) (hx:aH w w') {x:zT} {r:Z} (hr:r=.tuple #[i32 x.1,i64 x.2.1]) (hp:q.ps=x.2.2):TY q w x r w':=⟨q,hr,hp,h.ext hx,mP.of_ext hx⟩
theorem rF (h:dH q w) {k:Nat} {x:bW} (hk:q.ar[k]?=some x) {nn:Nat} {cs:List Z} {idx r:Int} (hr:r=(k:Int)+1) (hov:aC w ov 1 nn cs) (h0:0<=idx) (h1:idx < nn) (hget:cs[idx.toNat]?=some (i64 r)) :
  aI w λS w46=>Go.Vc.aN (rV q)/\aB prog S (Instr.fieldAt 139 (rV q) 0) λt143=>aB prog S (Instr.loadAt 137 t143) λt144=>aB prog S (Instr.indexAt 42 ov (.int .i64 idx)) λt146=>aB prog S (Instr.loadAt 3 t146) λt147=>
   (aD prog 105 #[t144,t147] w46 λt148 w47=>S w47/\aB prog S (Instr.extract t148 0) λt149=>aB prog S (Instr.extract t148 1) λ_=>V prog (Instr.alloc 127 true (.tuple #[])) w47 λt23 w48=>S w48/\U prog (Instr.storeAt 127 t23 t149) w48 λ_ w49=>S w49/\(∃ b,t23=.pointer (some ⟨b,0,none⟩)/\fK w49 b x.cells/\aH w w49)) /\
   (V prog (Instr.alloc 127 true (.tuple #[])) w46 λt23 w50=>S w50/\aD prog 105 #[t144,t147] w50 λt148 w51=>S w51/\aB prog S (Instr.extract t148 0) λt149=>aB prog S (Instr.extract t148 1) λ_=>U prog (Instr.storeAt 127 t23 t149) w51 λ_ w52=>S w52/\(∃ b,t23=.pointer (some ⟨b,0,none⟩)/\fK w52 b x.cells/\aH w w52)):=by
 have D:aH w w.drew:=(aH.refl _).drew;refine aI.mk' (λw'=>aH w w') D ⟨.inl ⟨_,rfl⟩,?_⟩;refine dS (λw' hw=>(h.xbox.ext hw).boxed) bK dI rfl ?_;refine gV aK aJ hov (λw' hw=>hw) h0 h1 hget ?_;refine ⟨?_,?_⟩
 ·refine (CZ (h.ext D) hk hr).mono λv w1 ⟨hv,x1⟩=>?_;subst hv;have X1:=D.trans x1;refine ⟨X1,?_⟩;refine aB.ok (λw' _=>fV) ?_;refine aB.ok (λw' _=>fU) ?_;refine MF fG λw2 hb x2=>?_;have X2:=X1.trans x2;refine ⟨X2,?_⟩;refine EK fG hb (l:=x.cells) rfl rfl rfl (fH (h.one hk)) λw3 hb3 hch=>?_;have X3:=hch.ext w X2 X1.size;exact ⟨X3,_,rfl,hb3.boxed,X3⟩
 ·refine MF fG λw2 hb x2=>?_;have X2:=D.trans x2;refine ⟨X2,?_⟩;refine (CZ (h.ext X2) hk hr).mono λv w3 ⟨hv,x3⟩=>?_;subst hv;have X3:=X2.trans x3;refine ⟨X3,?_⟩;refine aB.ok (λw' _=>fV) ?_;refine aB.ok (λw' _=>fU) ?_;refine EK fG (hb.ext x3) (l:=x.cells) rfl rfl rfl (fH (h.one hk)) λw4 hb4 hch=>?_;have X4:=hch.ext w X3 D.size;exact ⟨X4,_,rfl,hb4.boxed,X4⟩
theorem OM (h:dH q w) {w2:O} (f:Fr (λi=>i=q.yb) w w2):fK w2 q.xb [.pointer (some ⟨q.yb,0,none⟩),q.iv,q.fv,q.pub,q.sec]:=(f.seg h.xbox h.xy).boxed
theorem xW {w2:O} (f:Fr (λi=>i=q.yb) w w2):Fr (nZ q) w w2:=f.mono λ_ hi=>.inr (.inl hi)
theorem bM {w2:O} (x:aH w w2):Fr (nZ q) w w2:=Fr.of_ext x
theorem NX {l:List PA} {r:Int} (h:∀ x∈l,qC x.data):qC (lH l r):=by
 unfold lH;cases hg:l[r.toNat - 1]? with
 | none=>exact λb hb=>by cases hb
 | some x=>exact h x (List.mem_of_getElem? hg)
theorem RN:∀ {a b:List Int},qC a->qC b->(strOfNums a).toList=(strOfNums b).toList->a=b:=by
 intro a b ha hb h
 have h2:(a.map λn=>UInt8.ofNat n.toNat)=b.map λn=>UInt8.ofNat n.toNat:=by
  rw [ByteArray.toList_eq,ByteArray.toList_eq] at h;exact h
 clear h;induction a generalizing b with
 | nil=>cases b with
  | nil=>rfl
  | cons y b=>simp at h2
 | cons x a ih=>cases b with
  | nil=>simp at h2
  | cons y b=>
   simp only [List.map_cons,List.cons.injEq] at h2;have hx:=ha x (by simp);have hy:=hb y (by simp)
   have:x.toNat % 256=y.toNat % 256:=by
    have:=congrArg UInt8.toNat h2.1;simpa [UInt8.toNat_ofNat] using this
   have hxy:x=y:=by omega
   rw [hxy,ih (λz hz=>ha z (by simp [hz])) (λz hz=>hb z (by simp [hz])) h2.2]
theorem aOb (h:dH q w) {who sa sb a b:Int} (hov:∀ w2,Fr (nZ q) w w2->aC w2 ov 1 2 [i64 a,i64 b]) (hav:aC w av 1 2 [i32 a,i32 b]) (ha:-2147483648<=a/\a<=2147483647) (hb:-2147483648<=b/\b<=2147483647) (hps:q.ps=s) (hk:∀ r w',TY q w (pN s a b) r w'->R r w') :
  jW (rV q) (i64 who) (i64 17) (i64 sa) (i64 sb) av ov w R:=by
 unfold jW;refine ⟨λv w'=>v=.bool true/\w'=w,(by first|exact ⟨rfl,rfl⟩|(try simp only [aF,Int.reduceEq,decide_false,decide_true,aE];exact ⟨trivial,trivial⟩)|(try simp only [aF,Int.reduceEq,decide_false,decide_true,aA,aE];exact ⟨rfl,rfl⟩)),?_⟩;rintro _ w' ⟨rfl,hw⟩ _;have hw:=hw.symm;subst hw;refine aE.2 ?_;refine mS aK aJ (hov w (Fr.refl _ _)) (by omega) (by omega) (rfl:([i64 a,i64 b]:List Z)[(1:Int).toNat]?=_) ?_;refine aF.2 (aL (λh0=>hk _ _ (iX h (aH.refl _) ?_ ?_)) λh0=>?_)
 ·unfold pN;rw [if_pos h0]
 ·unfold pN;rw [if_pos h0];exact hps
 have D:aH w w.drew:=(aH.refl _).drew;refine aI.mk' (λw'=>aH w w') D ?_;refine gV fT eX hav (λw' hw=>hw) (by omega) (by omega) (rfl:([i32 a,i32 b]:List Z)[(0:Int).toNat]?=_) ?_;refine gV fT eX hav (λw' hw=>hw) (by omega) (by omega) (rfl:([i32 a,i32 b]:List Z)[(1:Int).toNat]?=_) ?_;refine (aFi ha hb h0).mono λr w1 ⟨hr,hw⟩=>?_;subst hr;have hw:=hw.symm;subst hw;refine ⟨D,hk _ _ (iX h D ?_ ?_)⟩
 ·unfold pN;rw [if_neg h0]
 ·unfold pN;rw [if_neg h0];exact hps
theorem aOa (h:dH q w) {who sa sb a b:Int} (hov:∀ w2,Fr (nZ q) w w2->aC w2 ov 1 2 [i64 a,i64 b]) (hav:aC w av 1 2 [i32 a,i32 b]) (ha:-2147483648<=a/\a<=2147483647) (hb:-2147483648<=b/\b<=2147483647) (hps:q.ps=s) (hk:∀ r w',TY q w (pM s a b) r w'->R r w') :
  jW (rV q) (i64 who) (i64 18) (i64 sa) (i64 sb) av ov w R:=by
 unfold jW;refine ⟨λv w'=>v=.bool true/\w'=w,(by first|exact ⟨rfl,rfl⟩|(try simp only [aF,Int.reduceEq,decide_false,decide_true,aA];exact ⟨trivial,trivial⟩)|(try simp only [aF,Int.reduceEq,decide_false,decide_true,aA,aE];exact ⟨rfl,rfl⟩)),?_⟩;rintro _ w' ⟨rfl,hw⟩ _;have hw:=hw.symm;subst hw;refine aE.2 ?_;refine mS aK aJ (hov w (Fr.refl _ _)) (by omega) (by omega) (rfl:([i64 a,i64 b]:List Z)[(1:Int).toNat]?=_) ?_;refine aF.2 (aL (λh0=>hk _ _ (iX h (aH.refl _) ?_ ?_)) λh0=>?_)
 ·unfold pM;rw [if_pos h0]
 ·unfold pM;rw [if_pos h0];exact hps
 have D:aH w w.drew:=(aH.refl _).drew;refine aI.mk' (λw'=>aH w w') D ?_;refine gV fT eX hav (λw' hw=>hw) (by omega) (by omega) (rfl:([i32 a,i32 b]:List Z)[(0:Int).toNat]?=_) ?_;refine gV fT eX hav (λw' hw=>hw) (by omega) (by omega) (rfl:([i32 a,i32 b]:List Z)[(1:Int).toNat]?=_) ?_;refine (aFh ha hb h0).mono λr w1 ⟨hr,hw⟩=>?_;subst hr;have hw:=hw.symm;subst hw;refine ⟨D,hk _ _ (iX h D ?_ ?_)⟩
 ·unfold pM;rw [if_neg h0]
 ·unfold pM;rw [if_neg h0];exact hps
theorem VD (h:dH q w) {who sb n:Int} (hsb:0<=sb/\sb < 7) (hov:∀ w2,Fr (nZ q) w w2->aC w2 ov 1 1 [i64 n]) (hps:q.ps=s.ev [⟨3,3,sb,n⟩]) (hk:∀ r w',TY q w (eB s who 3 sb n) r w'->R r w') :
  jW (rV q) (i64 who) (i64 27) (i64 3) (i64 sb) av ov w R:=by
 have har:q.ar.map pa=s.ar:=congrArg PS.ar hps;have hsz:q.size=s.size:=congrArg PS.size hps;have hlen:q.ar.length=s.ar.length:=by rw [<- har,List.length_map]
 have g0:([i64 n]:List Z)[(0:Int).toNat]?=some (i64 n):=rfl;have hov0:=hov w (Fr.refl _ _);unfold jW;refine ⟨λv w'=>v=.bool false/\w'=w,(by first|exact ⟨rfl,rfl⟩|(try simp only [aF,Int.reduceEq,decide_false,aA];exact ⟨trivial,trivial⟩)|(try simp only [aF,Int.reduceEq,decide_false,decide_true,aA,aE];exact ⟨rfl,rfl⟩)),?_⟩;rintro _ w' ⟨rfl,hw⟩ _;have hw:=hw.symm;subst hw;refine aA.2 ?_
 try simp only [aF,Int.reduceEq,decide_false,decide_true,aA,aE]
 refine mS aK aJ hov0 (by omega) (by omega) g0 ?_;refine aV.2 ?_;by_cases hn0:n < 0
 ·simp only [hn0,iB,aG,aE,reduceIte,decide_true];refine hk _ _ (iX h (aH.refl _) ?_ ?_)<;>unfold eB<;>rw [if_pos (.inl hn0)];exact hps
 simp only [hn0,dA,aG,reduceIte,Bool.false_eq_true,decide_false];refine mS aK aJ hov0 (by omega) (by omega) g0 ?_;refine cY.2 ?_;by_cases hn1:n > 64
 ·simp only [hn1,aE,decide_true];refine hk _ _ (iX h (aH.refl _) ?_ ?_)<;>unfold eB<;>rw [if_pos (.inr hn1)];exact hps
 simp only [hn1,aA,decide_false];have hnn:¬ (n < 0\/n > 64):=by omega
 obtain ⟨n,rfl⟩:∃ m:Nat,n=m:=⟨n.toNat,by omega⟩;have D:aH w w.drew:=(aH.refl _).drew
 have hlf:(IntKind.i64.wrap (sb.tmod 4+4)).tmod 4=kE sb:=by
  have h7:sb=0\/sb=1\/sb=2\/sb=3\/sb=4\/sb=5\/sb=6:=by omega
  rcases h7 with rfl|rfl|rfl|rfl|rfl|rfl|rfl<;>decide
 have hlife:0<=kE sb/\kE sb<=3:=by
  have h7:sb=0\/sb=1\/sb=2\/sb=3\/sb=4\/sb=5\/sb=6:=by omega
  rcases h7 with rfl|rfl|rfl|rfl|rfl|rfl|rfl<;>decide
 refine aI.mk' (λw'=>Fr (λi=>i=q.yb) w w') (Fr.of_ext D) ⟨.inl ⟨_,rfl⟩,?_⟩;refine dS (λw' hw=>OM h hw) bK dI rfl ?_;refine aB.ok (λw' _=>uM (by decide)) ?_;refine aB.ok (λw' _=>lO) ?_;refine aB.ok (λw' _=>uM (by decide)) ?_;rw [hlf];refine aB.ok (λw' _=>wU) ?_;refine eC aK aJ hov0 (λw' hw=>hov w' (xW hw)) (by omega) (by omega) g0 ?_;refine (ME (h.ext D) hlife (n:=n) (by omega)).mono λv w4 hq=>?_;rw [har] at hq;rcases hq with ⟨hfull,rfl,x4⟩|⟨hroom,rfl,g',cap',dv,h5,s5,f5⟩
 ·refine ⟨Fr.of_ext (D.trans x4),?_⟩;refine aB.ok (λw' _=>fV) ?_;refine aB.ok (λw' _=>fU) ?_;refine dQ.2 (aE.2 ?_);refine hk _ _ (iX h (D.trans x4) ?_ ?_)<;>unfold eB<;>rw [if_neg hnn,if_pos (show kE sb > 2\/8+(n:Int) > s.size - gJ s.ar from hsz▸hfull)];exact hps
 ·refine ⟨(Fr.of_ext (S:=λi=>i=q.yb) D).trans f5 λ_ _ h=>h,?_⟩;refine aB.ok (λw' _=>fV) ?_;refine aB.ok (λw' _=>fU) ?_;refine dQ.2 (aA.2 ?_);refine V.ok (bG underlying3 underlying21) ?_;have hroom':¬ (kE sb > 2\/8+(n:Int) > s.size - gJ s.ar):=hsz▸hroom;refine hk _ _ ⟨_,?_,?_,h5,(mP.of_ext D).trans s5⟩
  ·unfold eB;rw [if_neg hnn,if_neg hroom',hlen]
  ·unfold eB;rw [if_neg hnn,if_neg hroom'];show (⟨q.size,(q.ar++[_]).map pa,q.tp,q.ts,q.tr⟩:PS)=_;rw [List.map_append,har];have e:=hps;have e1:q.tp=s.tp:=congrArg PS.tp e;have e2:q.ts=s.ts:=congrArg PS.ts e;have e3:q.tr=s.tr++[⟨3,3,sb,n⟩]:=congrArg PS.tr e;rw [e1,e2,e3,hsz];simp only [Int.toNat_natCast];rfl
theorem VC (h:dH q w) {who sb n:Int} (hsb:0<=sb/\sb < 7) (hov:∀ w2,Fr (nZ q) w w2->aC w2 ov 1 1 [i64 n]) (hps:q.ps=s.ev [⟨3,4,sb,n⟩]) (hk:∀ r w',TY q w (eB s who 4 sb n) r w'->R r w') :
  jW (rV q) (i64 who) (i64 27) (i64 4) (i64 sb) av ov w R:=by
 have har:q.ar.map pa=s.ar:=congrArg PS.ar hps;have hsz:q.size=s.size:=congrArg PS.size hps;have hlen:q.ar.length=s.ar.length:=by rw [<- har,List.length_map]
 have g0:([i64 n]:List Z)[(0:Int).toNat]?=some (i64 n):=rfl;have hov0:=hov w (Fr.refl _ _);unfold jW;refine ⟨λv w'=>v=.bool false/\w'=w,(by first|exact ⟨rfl,rfl⟩|(try simp only [aF,Int.reduceEq,decide_false,aA];exact ⟨trivial,trivial⟩)|(try simp only [aF,Int.reduceEq,decide_false,decide_true,aA,aE];exact ⟨rfl,rfl⟩)),?_⟩;rintro _ w' ⟨rfl,hw⟩ _;have hw:=hw.symm;subst hw;refine aA.2 ?_
 try simp only [aF,Int.reduceEq,decide_false,decide_true,aA,aE]
 refine mS aK aJ hov0 (by omega) (by omega) g0 ?_;refine aV.2 ?_;by_cases hn0:n < 0
 ·simp only [hn0,iB,aG,aE,reduceIte,decide_true];refine hk _ _ (iX h (aH.refl _) ?_ ?_)<;>unfold eB<;>rw [if_pos (.inl hn0)];exact hps
 simp only [hn0,dA,aG,reduceIte,Bool.false_eq_true,decide_false];refine mS aK aJ hov0 (by omega) (by omega) g0 ?_;refine cY.2 ?_;by_cases hn1:n > 64
 ·simp only [hn1,aE,decide_true];refine hk _ _ (iX h (aH.refl _) ?_ ?_)<;>unfold eB<;>rw [if_pos (.inr hn1)];exact hps
 simp only [hn1,aA,decide_false];have hnn:¬ (n < 0\/n > 64):=by omega
 obtain ⟨n,rfl⟩:∃ m:Nat,n=m:=⟨n.toNat,by omega⟩;have D:aH w w.drew:=(aH.refl _).drew
 have hlf:(IntKind.i64.wrap (sb.tmod 4+4)).tmod 4=kE sb:=by
  have h7:sb=0\/sb=1\/sb=2\/sb=3\/sb=4\/sb=5\/sb=6:=by omega
  rcases h7 with rfl|rfl|rfl|rfl|rfl|rfl|rfl<;>decide
 have hlife:0<=kE sb/\kE sb<=3:=by
  have h7:sb=0\/sb=1\/sb=2\/sb=3\/sb=4\/sb=5\/sb=6:=by omega
  rcases h7 with rfl|rfl|rfl|rfl|rfl|rfl|rfl<;>decide
 refine aI.mk' (λw'=>Fr (λi=>i=q.yb) w w') (Fr.of_ext D) ⟨.inl ⟨_,rfl⟩,?_⟩;refine dS (λw' hw=>OM h hw) bK dI rfl ?_;refine aB.ok (λw' _=>uM (by decide)) ?_;refine aB.ok (λw' _=>lO) ?_;refine aB.ok (λw' _=>uM (by decide)) ?_;rw [hlf];refine aB.ok (λw' _=>wU) ?_;refine eC aK aJ hov0 (λw' hw=>hov w' (xW hw)) (by omega) (by omega) g0 ?_;refine (MD (h.ext D) hlife (n:=n) (by omega)).mono λv w4 hq=>?_;rw [har] at hq;rcases hq with ⟨hfull,rfl,x4⟩|⟨hroom,rfl,g',cap',dv,h5,s5,f5⟩
 ·refine ⟨Fr.of_ext (D.trans x4),?_⟩;refine aB.ok (λw' _=>fV) ?_;refine aB.ok (λw' _=>fU) ?_;refine dQ.2 (aE.2 ?_);refine hk _ _ (iX h (D.trans x4) ?_ ?_)<;>unfold eB<;>rw [if_neg hnn,if_pos (show kE sb > 2\/8+(n:Int) > s.size - gJ s.ar from hsz▸hfull)];exact hps
 ·refine ⟨(Fr.of_ext (S:=λi=>i=q.yb) D).trans f5 λ_ _ h=>h,?_⟩;refine aB.ok (λw' _=>fV) ?_;refine aB.ok (λw' _=>fU) ?_;refine dQ.2 (aA.2 ?_);refine V.ok (bG underlying3 underlying21) ?_;have hroom':¬ (kE sb > 2\/8+(n:Int) > s.size - gJ s.ar):=hsz▸hroom;refine hk _ _ ⟨_,?_,?_,h5,(mP.of_ext D).trans s5⟩
  ·unfold eB;rw [if_neg hnn,if_neg hroom',hlen]
  ·unfold eB;rw [if_neg hnn,if_neg hroom'];show (⟨q.size,(q.ar++[_]).map pa,q.tp,q.ts,q.tr⟩:PS)=_;rw [List.map_append,har];have e:=hps;have e1:q.tp=s.tp:=congrArg PS.tp e;have e2:q.ts=s.ts:=congrArg PS.ts e;have e3:q.tr=s.tr++[⟨3,4,sb,n⟩]:=congrArg PS.tr e;rw [e1,e2,e3,hsz];simp only [Int.toNat_natCast];rfl
theorem aNz (h:dH q w) {who sa sb r:Int} (hov:∀ w2,Fr (nZ q) w w2->aC w2 ov 1 1 [i64 r]) (hps:q.ps=s.ev [⟨2,r,0,0⟩]) (hk:∀ u w',TY q w (qG s who r) u w'->R u w') :
  jW (rV q) (i64 who) (i64 28) (i64 sa) (i64 sb) av ov w R:=by
 have har:q.ar.map pa=s.ar:=congrArg PS.ar hps;have hov0:=hov w (Fr.refl _ _);have g0:([i64 r]:List Z)[(0:Int).toNat]?=some (i64 r):=rfl;have D:aH w w.drew:=(aH.refl _).drew;unfold jW;refine ⟨λv w'=>v=.bool false/\w'=w,(by first|exact ⟨rfl,rfl⟩|(try simp only [aF,Int.reduceEq,decide_false,aA];exact ⟨trivial,trivial⟩)|(try simp only [aF,Int.reduceEq,decide_false,decide_true,aA,aE];exact ⟨rfl,rfl⟩)),?_⟩;rintro _ w' ⟨rfl,hw⟩ _;have hw:=hw.symm;subst hw;refine aA.2 ?_
 try simp only [aF,Int.reduceEq,decide_false,decide_true,aA,aE]
 have hce:DZ q.ar r who=vL s.ar r who:=by rw [LU,har]
 refine aI.mk' (λw'=>aH w w') D ⟨.inl ⟨_,rfl⟩,?_⟩;refine dS (λw' hw=>(h.xbox.ext hw).boxed) bK dI rfl ?_;refine eC aK aJ hov0 (λw' hw=>hov w' (bM hw)) (by omega) (by omega) g0 ?_;refine (BG (h.ext D)).mono λv w1 ⟨hv,x1⟩=>?_;subst hv;have X1:=D.trans x1;refine ⟨X1,aU.2 (aL (λhne=>?_) λhfine=>?_)⟩
 ·refine hk _ _ (iX h X1 ?_ ?_)<;>unfold qG<;>rw [if_neg (by rw [<- hce];exact hne)]
  ·rw [<- hce]
  ·exact hps
 have hf:DZ q.ar r who=36864:=Classical.not_not.1 hfine;obtain ⟨k,x,hk2,hr,hm⟩:=rD hf;refine ⟨_,rF (h.ext X1) hk2 hr (hov w1 (bM X1)) (by omega) (by omega) g0,?_⟩;rintro _ w2 ⟨b,rfl,hbx,x2⟩ _;refine bA hbx bH fO rfl (fZ iO (aC.of_own ((X1.trans x2).own (h.data x (List.mem_of_getElem? hk2)))) ?_);refine V.ok (bG underlying3 underlying21) (hk _ _ (iX h (X1.trans x2) ?_ ?_))<;>unfold qG<;>rw [if_pos (by rw [<- hce];exact hf)]
 ·rw [<- har,show lH (q.ar.map pa) r=x.data from jJ hk2 hr]
 ·exact hps
theorem aNy (h:dH q w) {who sa sb r a:Int} (hov:∀ w2,Fr (nZ q) w w2->aC w2 ov 1 2 [i64 r,i64 a]) (hps:q.ps=s.ev [⟨2,r,a,1⟩]) (hk:∀ u w',TY q w (qH s who r a) u w'->R u w') :
  jW (rV q) (i64 who) (i64 29) (i64 sa) (i64 sb) av ov w R:=by
 have har:q.ar.map pa=s.ar:=congrArg PS.ar hps;have hov0:=hov w (Fr.refl _ _);have g0:([i64 r,i64 a]:List Z)[(0:Int).toNat]?=some (i64 r):=rfl;have g1:([i64 r,i64 a]:List Z)[(1:Int).toNat]?=some (i64 a):=rfl;have D:aH w w.drew:=(aH.refl _).drew;unfold jW;refine ⟨λv w'=>v=.bool false/\w'=w,(by first|exact ⟨rfl,rfl⟩|(try simp only [aF,Int.reduceEq,decide_false,aA];exact ⟨trivial,trivial⟩)|(try simp only [aF,Int.reduceEq,decide_false,decide_true,aA,aE];exact ⟨rfl,rfl⟩)),?_⟩;rintro _ w' ⟨rfl,hw⟩ _;have hw:=hw.symm;subst hw;refine aA.2 ?_
 try simp only [aF,Int.reduceEq,decide_false,decide_true,aA,aE]
 refine ⟨λv w'=>v=.bool true/\w'=w,(by first|exact ⟨rfl,rfl⟩|(try simp only [aF,Int.reduceEq,decide_false,decide_true,aA,aE];exact ⟨trivial,trivial⟩)|(try simp only [aF,Int.reduceEq,decide_false,decide_true,aA,aE];exact ⟨rfl,rfl⟩)),?_⟩;rintro _ w' ⟨rfl,hw⟩ _;have hw:=hw.symm;subst hw;refine aE.2 ?_;refine aI.mk' (λw'=>aH w w') D ⟨.inl ⟨_,rfl⟩,?_⟩;refine dS (λw' hw=>(h.xbox.ext hw).boxed) bK dI rfl ?_;refine eC aK aJ hov0 (λw' hw=>hov w' (bM hw)) (by omega) (by omega) g0 ?_;refine eC aK aJ hov0 (λw' hw=>hov w' (bM hw)) (by omega) (by omega) g1 ?_;refine (kW (h.ext D)).mono λv w1 ⟨hv,x1⟩=>?_;subst hv;have X1:=D.trans x1;rw [har];refine ⟨X1,aU.2 (aL (λhne=>?_) λhfine=>?_)⟩
 ·refine hk _ _ (iX h X1 ?_ ?_)<;>unfold qH<;>rw [if_neg hne];exact hps
 have hf:gW s.ar r a 1 who=36864:=Classical.not_not.1 hfine;obtain ⟨k,x,hk2,hr,hm,ha0,_,han⟩:=fY ((jH q.ar r a 1 who).trans (by rw [har];exact hf));obtain ⟨a,rfl⟩:∃ n:Nat,a=n:=⟨a.toNat,by omega⟩
 try simp only [aF,Int.reduceEq,decide_false,decide_true,aA,aE]
 refine ⟨_,rF (h.ext X1) hk2 hr (hov w1 (bM X1)) (by omega) (by omega) g0,?_⟩;rintro _ w2 ⟨b,rfl,hbx,x2⟩ _;have X2:=X1.trans x2;have D2:aH w2 w2.drew:=(aH.refl _).drew;refine aI.mk' (λw'=>aH w2 w') D2 ?_;refine dS (λw' hw=>hbx.ext hw) bH fO rfl ?_;refine gV aK aJ (hov w2 (bM X2)) (λw' hw=>hw) (by omega) (by omega) g1 ?_;refine gV iO uS (aC.of_own (X2.own (h.data x (List.mem_of_getElem? hk2)))) (λw' hw=>hw) (by omega) (by omega) (rR (by omega)) ?_;refine aB.ok (λw' _=>bG underlying5 underlying21) ?_;refine hk _ _ (iX h (X2.trans D2) ?_ ?_)<;>unfold qH<;>rw [if_pos hf]
 ·rw [<- har,show lH (q.ar.map pa) r=x.data from jJ hk2 hr,Int.toNat_natCast]
 ·exact hps
theorem aNx (h:dH q w) {who sa sb r a z:Int} (hov:∀ w2,Fr (nZ q) w w2->aC w2 ov 1 3 [i64 r,i64 a,i64 z]) (hps:q.ps=s.ev [⟨2,r,a,1⟩]) (hk:∀ u w',TY q w (qF s who r a z) u w'->R u w') :
  jW (rV q) (i64 who) (i64 30) (i64 sa) (i64 sb) av ov w R:=by
 have har:q.ar.map pa=s.ar:=congrArg PS.ar hps;have hov0:=hov w (Fr.refl _ _);have g0:([i64 r,i64 a,i64 z]:List Z)[(0:Int).toNat]?=some (i64 r):=rfl;have g1:([i64 r,i64 a,i64 z]:List Z)[(1:Int).toNat]?=some (i64 a):=rfl;have g2:([i64 r,i64 a,i64 z]:List Z)[(2:Int).toNat]?=some (i64 z):=rfl;have D:aH w w.drew:=(aH.refl _).drew;unfold jW;refine ⟨λv w'=>v=.bool false/\w'=w,(by first|exact ⟨rfl,rfl⟩|(try simp only [aF,Int.reduceEq,decide_false,aA];exact ⟨trivial,trivial⟩)|(try simp only [aF,Int.reduceEq,decide_false,decide_true,aA,aE];exact ⟨rfl,rfl⟩)),?_⟩;rintro _ w' ⟨rfl,hw⟩ _;have hw:=hw.symm;subst hw;refine aA.2 ?_
 try simp only [aF,Int.reduceEq,decide_false,decide_true,aA,aE]
 refine ⟨λv w'=>v=.bool true/\w'=w,(by first|exact ⟨rfl,rfl⟩|(try simp only [aF,Int.reduceEq,decide_false,decide_true,aA,aE];exact ⟨trivial,trivial⟩)|(try simp only [aF,Int.reduceEq,decide_false,decide_true,aA,aE];exact ⟨rfl,rfl⟩)),?_⟩;rintro _ w' ⟨rfl,hw⟩ _;have hw:=hw.symm;subst hw;refine aE.2 ?_;refine aI.mk' (λw'=>aH w w') D ⟨.inl ⟨_,rfl⟩,?_⟩;refine dS (λw' hw=>(h.xbox.ext hw).boxed) bK dI rfl ?_;refine eC aK aJ hov0 (λw' hw=>hov w' (bM hw)) (by omega) (by omega) g0 ?_;refine eC aK aJ hov0 (λw' hw=>hov w' (bM hw)) (by omega) (by omega) g1 ?_;refine (kW (h.ext D)).mono λv w1 ⟨hv,x1⟩=>?_;subst hv;have X1:=D.trans x1;rw [har];refine ⟨X1,aU.2 (aL (λhne=>?_) λhfine=>?_)⟩
 ·refine hk _ _ (iX h X1 ?_ ?_)<;>unfold qF<;>rw [if_neg hne];exact hps
 have hf:gW s.ar r a 1 who=36864:=Classical.not_not.1 hfine;obtain ⟨k,x,hk2,hr,hm,ha0,_,han⟩:=fY ((jH q.ar r a 1 who).trans (by rw [har];exact hf));obtain ⟨a,rfl⟩:∃ n:Nat,a=n:=⟨a.toNat,by omega⟩
 try simp only [aF,Int.reduceEq,decide_false,decide_true,aA,aE]
 have D1:aH w1 w1.drew:=(aH.refl _).drew;have X2:=X1.trans D1;refine aI.mk' (λw'=>Fr (λi=>i=q.yb) w w') (Fr.of_ext X2) ⟨.inl ⟨_,rfl⟩,?_⟩;refine dS (λw' hw=>OM h hw) bK dI rfl ?_;refine eC aK aJ hov0 (λw' hw=>hov w' (xW hw)) (by omega) (by omega) g0 ?_;refine eC aK aJ hov0 (λw' hw=>hov w' (xW hw)) (by omega) (by omega) g1 ?_;refine eC aK aJ hov0 (λw' hw=>hov w' (xW hw)) (by omega) (by omega) g2 ?_;refine aB.ok (λw' _=>bG underlying3 underlying5) ?_;refine kJ lL [u8 (IntKind.u8.wrap z)] rfl rfl (by simp) rfl λsv w3 ho3 x3=>?_;have X3:=X2.trans x3;refine ⟨Fr.of_ext X3,?_⟩;refine (NQ (h.ext X3) hk2 hr (a:=a) (S:=[IntKind.u8.wrap z]) (aC.of_own ho3) (by simp;omega)).mono λ_ w4 ⟨g',cap',dv,h5,s5,f5⟩=>?_;refine ⟨(Fr.of_ext (S:=λi=>i=q.yb) X3).trans f5 λ_ _ h=>h,hk _ _ ⟨_,?_,?_,h5,(mP.of_ext X3).trans s5⟩⟩<;>unfold qF<;>rw [if_pos hf]
 ·rw [<- har,show lH (q.ar.map pa) r=x.data from jJ hk2 hr,Int.toNat_natCast]
  have hset:x.data.take a++[IntKind.u8.wrap z]++x.data.drop (a+[IntKind.u8.wrap z].length)=x.data.set a (IntKind.u8.wrap z):=by
   rw [List.set_eq_take_append_cons_drop,if_pos (by omega)];simp
  rw [hset];show (⟨q.size,(q.ar.set k { x with dv:=dv,data:=x.data.set a (IntKind.u8.wrap z) }).map pa,q.tp,q.ts,q.tr⟩:PS)=_;rw [uJ hk2 hr];have e1:q.tp=s.tp:=congrArg PS.tp hps;have e2:q.ts=s.ts:=congrArg PS.ts hps;have e3:q.tr=s.tr++[⟨2,r,(a:Int),1⟩]:=congrArg PS.tr hps;have e4:q.size=s.size:=congrArg PS.size hps;rw [e1,e2,e3,e4];rfl
theorem aNw (h:dH q w) {who sa sb r1 a1 r2 a2 n:Int} (_:∀ x∈s.ar,qC x.data) (hov:∀ w2,Fr (nZ q) w w2->aC w2 ov 1 5 [i64 r1,i64 a1,i64 r2,i64 a2,i64 n]) (hps:q.ps=s.ev2 r1 a1 r2 a2 n) (hk:∀ u w',TY q w (lB s who r1 a1 r2 a2 n) u w'->R u w') :
  jW (rV q) (i64 who) (i64 31) (i64 sa) (i64 sb) av ov w R:=by
 have har:q.ar.map pa=s.ar:=congrArg PS.ar hps;have hov0:=hov w (Fr.refl _ _);have g0:([i64 r1,i64 a1,i64 r2,i64 a2,i64 n]:List Z)[(0:Int).toNat]?=some (i64 r1):=rfl;have g1:([i64 r1,i64 a1,i64 r2,i64 a2,i64 n]:List Z)[(1:Int).toNat]?=some (i64 a1):=rfl;have g2:([i64 r1,i64 a1,i64 r2,i64 a2,i64 n]:List Z)[(2:Int).toNat]?=some (i64 r2):=rfl;have g3:([i64 r1,i64 a1,i64 r2,i64 a2,i64 n]:List Z)[(3:Int).toNat]?=some (i64 a2):=rfl;have g4:([i64 r1,i64 a1,i64 r2,i64 a2,i64 n]:List Z)[(4:Int).toNat]?=some (i64 n):=rfl;have D:aH w w.drew:=(aH.refl _).drew;unfold jW;refine ⟨λv w'=>v=.bool false/\w'=w,(by first|exact ⟨rfl,rfl⟩|(try simp only [aF,Int.reduceEq,decide_false,aA];exact ⟨trivial,trivial⟩)|(try simp only [aF,Int.reduceEq,decide_false,decide_true,aA,aE];exact ⟨rfl,rfl⟩)),?_⟩;rintro _ w' ⟨rfl,hw⟩ _;have hw:=hw.symm;subst hw;refine aA.2 ?_
 try simp only [aF,Int.reduceEq,decide_false,decide_true,aA,aE]
 refine ⟨λv w'=>v=.bool false/\w'=w,(by first|exact ⟨rfl,rfl⟩|(try simp only [aF,Int.reduceEq,decide_false,decide_true,aA,aE];exact ⟨trivial,trivial⟩)|(try simp only [aF,Int.reduceEq,decide_false,decide_true,aA,aE];exact ⟨rfl,rfl⟩)),?_⟩;rintro _ w' ⟨rfl,hw⟩ _;have hw:=hw.symm;subst hw;refine aA.2 ?_;refine ⟨λv w'=>v=.bool true/\w'=w,(by first|exact ⟨rfl,rfl⟩|(try simp only [aF,Int.reduceEq,decide_false,decide_true,aA,aE];exact ⟨trivial,trivial⟩)|(try simp only [aF,Int.reduceEq,decide_false,decide_true,aA,aE];exact ⟨rfl,rfl⟩)),?_⟩;rintro _ w' ⟨rfl,hw⟩ _;have hw:=hw.symm;subst hw;refine aE.2 ?_;refine aI.mk' (λw'=>aH w w') D ⟨.inl ⟨_,rfl⟩,?_⟩;refine dS (λw' hw=>(h.xbox.ext hw).boxed) bK dI rfl ?_;refine eC aK aJ hov0 (λw' hw=>hov w' (bM hw)) (by omega) (by omega) g0 ?_;refine eC aK aJ hov0 (λw' hw=>hov w' (bM hw)) (by omega) (by omega) g1 ?_;refine eC aK aJ hov0 (λw' hw=>hov w' (bM hw)) (by omega) (by omega) g4 ?_;refine (kW (h.ext D)).mono λv w1 ⟨hv,x1⟩=>?_;subst hv;have X1:=D.trans x1;rw [har];refine ⟨X1,aU.2 (aL (λhne=>?_) λhf1=>?_)⟩
 ·have hb:jU s who r1 a1 r2 a2 n=gW s.ar r1 a1 n who:=by unfold jU;rw [if_neg hne]
  refine hk _ _ (iX h X1 ?_ ?_)<;>unfold lB<;>rw [if_neg (by rw [hb];exact hne)]
  ·rw [hb]
  ·exact hps
 have hf1:gW s.ar r1 a1 n who=36864:=Classical.not_not.1 hf1;have D1:aH w1 w1.drew:=(aH.refl _).drew;have X1d:=X1.trans D1;refine aI.mk' (λw'=>aH w w') X1d ⟨.inl ⟨_,rfl⟩,?_⟩;refine dS (λw' hw=>(h.xbox.ext hw).boxed) bK dI rfl ?_;refine eC aK aJ hov0 (λw' hw=>hov w' (bM hw)) (by omega) (by omega) g2 ?_;refine eC aK aJ hov0 (λw' hw=>hov w' (bM hw)) (by omega) (by omega) g3 ?_;refine eC aK aJ hov0 (λw' hw=>hov w' (bM hw)) (by omega) (by omega) g4 ?_;refine (kW (h.ext X1d)).mono λv w2 ⟨hv,x2⟩=>?_;subst hv;have X2:=X1d.trans x2;rw [har];have hb:jU s who r1 a1 r2 a2 n=gW s.ar r2 a2 n who:=by unfold jU;rw [if_pos hf1]
 refine ⟨X2,aU.2 (aL (λhne=>?_) λhf2=>?_)⟩
 ·refine hk _ _ (iX h X2 ?_ ?_)<;>unfold lB<;>rw [if_neg (by rw [hb];exact hne)]
  ·rw [hb]
  ·exact hps
 have hf2:gW s.ar r2 a2 n who=36864:=Classical.not_not.1 hf2;have hfine:jU s who r1 a1 r2 a2 n=36864:=hb.trans hf2;obtain ⟨k1,y1,hk1,hr1,hm1,ha1,hn0,hn1⟩:=fY ((jH q.ar r1 a1 n who).trans (by rw [har];exact hf1));obtain ⟨k2,y2,hk2,hr2,hm2,ha2,_,hn2⟩:=fY ((jH q.ar r2 a2 n who).trans (by rw [har];exact hf2));obtain ⟨n,rfl⟩:∃ m:Nat,n=m:=⟨n.toNat,by omega⟩;obtain ⟨a,rfl⟩:∃ m:Nat,a1=m:=⟨a1.toNat,by omega⟩;obtain ⟨c,rfl⟩:∃ m:Nat,a2=m:=⟨a2.toNat,by omega⟩;have hym1:=List.mem_of_getElem? hk1;have hym2:=List.mem_of_getElem? hk2;have hl1:=h.len y1 hym1;have hl2:=h.len y2 hym2;have d1:lH s.ar r1=y1.data:=by rw [<- har];exact jJ hk1 hr1
 have d2:lH s.ar r2=y2.data:=by rw [<- har];exact jJ hk2 hr2
 refine ⟨_,rF (h.ext X2) hk1 hr1 (hov w2 (bM X2)) (by omega) (by omega) g0,?_⟩;rintro _ w3 ⟨b1,rfl,hbx1,x3⟩ _;have X3:=X2.trans x3;refine ⟨_,rF (h.ext X3) hk2 hr2 (hov w3 (bM X3)) (by omega) (by omega) g2,?_⟩;rintro _ w4 ⟨b2,rfl,hbx2,x4⟩ _;have X4:=X3.trans x4;have D4:aH w4 w4.drew:=(aH.refl _).drew;have X5:=X4.trans D4;have hs2:∀ {w'},aH w w'->aC w' y2.dv 1 y2.data.length (y2.data.map u8):=λhx=>aC.of_own (hx.own (h.data y2 hym2));have hs1:∀ {w'},aH w w'->aC w' y1.dv 1 y1.data.length (y1.data.map u8):=λhx=>aC.of_own (hx.own (h.data y1 hym1));refine aI.mk' (λw'=>aH w4 w') D4 ?_;refine dS (λw' hw=>hbx2.ext hw) bH fO rfl ?_;refine eC aK aJ hov0 (λw' hw=>hov w' (bM (X4.trans hw))) (by omega) (by omega) g3 ?_;refine eC aK aJ hov0 (λw' hw=>hov w' (bM (X4.trans hw))) (by omega) (by omega) g3 ?_;refine eC aK aJ hov0 (λw' hw=>hov w' (bM (X4.trans hw))) (by omega) (by omega) g4 ?_;refine aB.ok (λw' _=>lO) ?_;rw [show IntKind.i64.wrap ((c:Int)+(n:Int))=((c+n:Nat):Int) from by rw [aW (by omega)];omega];obtain ⟨fv,hfr,hfs⟩:=uL (P:=prog) underlying23 mU (hs2 X5) (lo:=some (i64 (c:Int))) (hi':=some (i64 ((c+n:Nat):Int))) (a:=c) (b:=c+n) (.inr rfl) (.inr rfl) (by omega) (by omega);refine aB.ok (λw' _=>hfr w') ?_;have e2:((y2.data.drop c).take n).length=n:=by simp;omega
 have hfB:∀ {w'},aH w w'->cJ w' fv ((y2.data.drop c).take n):=λhx=>by
  have:=hfs _ (hs2 hx);unfold cJ;rw [e2];simpa using this
 try simp only [aF,Int.reduceEq,decide_false,decide_true,aA,aE]
 have D5:aH w4.drew w4.drew.drew:=(aH.refl _).drew;have X6:=X5.trans D5;refine aI.mk' (λw'=>Fr (λi=>i=q.yb) w w') (Fr.of_ext X6) ⟨.inl ⟨_,rfl⟩,?_⟩;refine dS (λw' hw=>OM h hw) bK dI rfl ?_;refine eC aK aJ hov0 (λw' hw=>hov w' (xW hw)) (by omega) (by omega) g0 ?_;refine eC aK aJ hov0 (λw' hw=>hov w' (xW hw)) (by omega) (by omega) g1 ?_;refine (NQ (h.ext X6) hk1 hr1 (a:=a) (hfB X6) (by rw [e2];omega)).mono λ_ w7 ⟨g',cap',dv,h7,s7,f7⟩=>?_;refine ⟨(Fr.of_ext (S:=λi=>i=q.yb) X6).trans f7 λ_ _ h=>h,hk _ _ ⟨_,?_,?_,h7,(mP.of_ext X6).trans s7⟩⟩<;>unfold lB<;>rw [if_pos hfine]
 ·have ec:XW s.ar r1 (a:Int) r2 (c:Int) (n:Int)=y1.data.take a++(y2.data.drop c).take n++y1.data.drop (a+((y2.data.drop c).take n).length):=by
   unfold XW;rw [d1,d2,e2];simp only [Int.toNat_natCast]
  rw [ec,<- har];show (⟨q.size,(q.ar.set k1 { y1 with dv:=dv,data:=y1.data.take a++(y2.data.drop c).take n++y1.data.drop (a+((y2.data.drop c).take n).length) }).map pa,q.tp,q.ts,q.tr⟩:PS)=_;rw [uJ hk1 hr1];have e1:q.tp=s.tp:=congrArg PS.tp hps;have e2:q.ts=s.ts:=congrArg PS.ts hps;have e3:q.tr=(s.tr++[⟨2,r1,(a:Int),(n:Int)⟩])++[⟨2,r2,(c:Int),(n:Int)⟩]:=congrArg PS.tr hps;have e4:q.size=s.size:=congrArg PS.size hps;rw [e1,e2,e3,e4];rfl
theorem aNv (h:dH q w) {who sa sb r1 a1 r2 a2 n:Int} (hby:∀ x∈s.ar,qC x.data) (hov:∀ w2,Fr (nZ q) w w2->aC w2 ov 1 5 [i64 r1,i64 a1,i64 r2,i64 a2,i64 n]) (hps:q.ps=s.ev2 r1 a1 r2 a2 n) (hk:∀ u w',TY q w (kV s who r1 a1 r2 a2 n) u w'->R u w') :
  jW (rV q) (i64 who) (i64 32) (i64 sa) (i64 sb) av ov w R:=by
 have har:q.ar.map pa=s.ar:=congrArg PS.ar hps;have hov0:=hov w (Fr.refl _ _);have g0:([i64 r1,i64 a1,i64 r2,i64 a2,i64 n]:List Z)[(0:Int).toNat]?=some (i64 r1):=rfl;have g1:([i64 r1,i64 a1,i64 r2,i64 a2,i64 n]:List Z)[(1:Int).toNat]?=some (i64 a1):=rfl;have g2:([i64 r1,i64 a1,i64 r2,i64 a2,i64 n]:List Z)[(2:Int).toNat]?=some (i64 r2):=rfl;have g3:([i64 r1,i64 a1,i64 r2,i64 a2,i64 n]:List Z)[(3:Int).toNat]?=some (i64 a2):=rfl;have g4:([i64 r1,i64 a1,i64 r2,i64 a2,i64 n]:List Z)[(4:Int).toNat]?=some (i64 n):=rfl;have D:aH w w.drew:=(aH.refl _).drew;unfold jW;refine ⟨λv w'=>v=.bool false/\w'=w,(by first|exact ⟨rfl,rfl⟩|(try simp only [aF,Int.reduceEq,decide_false,aA];exact ⟨trivial,trivial⟩)|(try simp only [aF,Int.reduceEq,decide_false,decide_true,aA,aE];exact ⟨rfl,rfl⟩)),?_⟩;rintro _ w' ⟨rfl,hw⟩ _;have hw:=hw.symm;subst hw;refine aA.2 ?_
 try simp only [aF,Int.reduceEq,decide_false,decide_true,aA]
 refine ⟨λv w'=>v=.bool false/\w'=w,(by first|exact ⟨rfl,rfl⟩|(try simp only [aF,Int.reduceEq,decide_false,decide_true,aA,aE];exact ⟨trivial,trivial⟩)|(try simp only [aF,Int.reduceEq,decide_false,decide_true,aA,aE];exact ⟨rfl,rfl⟩)),?_⟩;rintro _ w' ⟨rfl,hw⟩ _;have hw:=hw.symm;subst hw;refine aA.2 ?_;refine ⟨λv w'=>v=.bool true/\w'=w,(by first|exact ⟨rfl,rfl⟩|(try simp only [aF,Int.reduceEq,decide_false,decide_true,aA,aE];exact ⟨trivial,trivial⟩)|(try simp only [aF,Int.reduceEq,decide_false,decide_true,aA,aE];exact ⟨rfl,rfl⟩)),?_⟩;rintro _ w' ⟨rfl,hw⟩ _;have hw:=hw.symm;subst hw;refine aE.2 ?_;refine aI.mk' (λw'=>aH w w') D ⟨.inl ⟨_,rfl⟩,?_⟩;refine dS (λw' hw=>(h.xbox.ext hw).boxed) bK dI rfl ?_;refine eC aK aJ hov0 (λw' hw=>hov w' (bM hw)) (by omega) (by omega) g0 ?_;refine eC aK aJ hov0 (λw' hw=>hov w' (bM hw)) (by omega) (by omega) g1 ?_;refine eC aK aJ hov0 (λw' hw=>hov w' (bM hw)) (by omega) (by omega) g4 ?_;refine (kW (h.ext D)).mono λv w1 ⟨hv,x1⟩=>?_;subst hv;have X1:=D.trans x1;rw [har];refine ⟨X1,aU.2 (aL (λhne=>?_) λhf1=>?_)⟩
 ·have hb:jU s who r1 a1 r2 a2 n=gW s.ar r1 a1 n who:=by unfold jU;rw [if_neg hne]
  refine hk _ _ (iX h X1 ?_ ?_)<;>unfold kV<;>rw [if_neg (by rw [hb];exact hne)]
  ·rw [hb]
  ·exact hps
 have hf1:gW s.ar r1 a1 n who=36864:=Classical.not_not.1 hf1;have D1:aH w1 w1.drew:=(aH.refl _).drew;have X1d:=X1.trans D1;refine aI.mk' (λw'=>aH w w') X1d ⟨.inl ⟨_,rfl⟩,?_⟩;refine dS (λw' hw=>(h.xbox.ext hw).boxed) bK dI rfl ?_;refine eC aK aJ hov0 (λw' hw=>hov w' (bM hw)) (by omega) (by omega) g2 ?_;refine eC aK aJ hov0 (λw' hw=>hov w' (bM hw)) (by omega) (by omega) g3 ?_;refine eC aK aJ hov0 (λw' hw=>hov w' (bM hw)) (by omega) (by omega) g4 ?_;refine (kW (h.ext X1d)).mono λv w2 ⟨hv,x2⟩=>?_;subst hv;have X2:=X1d.trans x2;rw [har];have hb:jU s who r1 a1 r2 a2 n=gW s.ar r2 a2 n who:=by unfold jU;rw [if_pos hf1]
 refine ⟨X2,aU.2 (aL (λhne=>?_) λhf2=>?_)⟩
 ·refine hk _ _ (iX h X2 ?_ ?_)<;>unfold kV<;>rw [if_neg (by rw [hb];exact hne)]
  ·rw [hb]
  ·exact hps
 have hf2:gW s.ar r2 a2 n who=36864:=Classical.not_not.1 hf2;have hfine:jU s who r1 a1 r2 a2 n=36864:=hb.trans hf2;obtain ⟨k1,y1,hk1,hr1,hm1,ha1,hn0,hn1⟩:=fY ((jH q.ar r1 a1 n who).trans (by rw [har];exact hf1));obtain ⟨k2,y2,hk2,hr2,hm2,ha2,_,hn2⟩:=fY ((jH q.ar r2 a2 n who).trans (by rw [har];exact hf2));obtain ⟨n,rfl⟩:∃ m:Nat,n=m:=⟨n.toNat,by omega⟩;obtain ⟨a,rfl⟩:∃ m:Nat,a1=m:=⟨a1.toNat,by omega⟩;obtain ⟨c,rfl⟩:∃ m:Nat,a2=m:=⟨a2.toNat,by omega⟩;have hym1:=List.mem_of_getElem? hk1;have hym2:=List.mem_of_getElem? hk2;have hl1:=h.len y1 hym1;have hl2:=h.len y2 hym2;have d1:lH s.ar r1=y1.data:=by rw [<- har];exact jJ hk1 hr1
 have d2:lH s.ar r2=y2.data:=by rw [<- har];exact jJ hk2 hr2
 refine ⟨_,rF (h.ext X2) hk1 hr1 (hov w2 (bM X2)) (by omega) (by omega) g0,?_⟩;rintro _ w3 ⟨b1,rfl,hbx1,x3⟩ _;have X3:=X2.trans x3;refine ⟨_,rF (h.ext X3) hk2 hr2 (hov w3 (bM X3)) (by omega) (by omega) g2,?_⟩;rintro _ w4 ⟨b2,rfl,hbx2,x4⟩ _;have X4:=X3.trans x4;have D4:aH w4 w4.drew:=(aH.refl _).drew;have X5:=X4.trans D4;have hs2:∀ {w'},aH w w'->aC w' y2.dv 1 y2.data.length (y2.data.map u8):=λhx=>aC.of_own (hx.own (h.data y2 hym2));have hs1:∀ {w'},aH w w'->aC w' y1.dv 1 y1.data.length (y1.data.map u8):=λhx=>aC.of_own (hx.own (h.data y1 hym1));refine aI.mk' (λw'=>aH w4 w') D4 ?_;refine dS (λw' hw=>hbx2.ext hw) bH fO rfl ?_;refine eC aK aJ hov0 (λw' hw=>hov w' (bM (X4.trans hw))) (by omega) (by omega) g3 ?_;refine eC aK aJ hov0 (λw' hw=>hov w' (bM (X4.trans hw))) (by omega) (by omega) g3 ?_;refine eC aK aJ hov0 (λw' hw=>hov w' (bM (X4.trans hw))) (by omega) (by omega) g4 ?_;refine aB.ok (λw' _=>lO) ?_;rw [show IntKind.i64.wrap ((c:Int)+(n:Int))=((c+n:Nat):Int) from by rw [aW (by omega)];omega];obtain ⟨fv,hfr,hfs⟩:=uL (P:=prog) underlying23 mU (hs2 X5) (lo:=some (i64 (c:Int))) (hi':=some (i64 ((c+n:Nat):Int))) (a:=c) (b:=c+n) (.inr rfl) (.inr rfl) (by omega) (by omega);refine aB.ok (λw' _=>hfr w') ?_;have e2:((y2.data.drop c).take n).length=n:=by simp;omega
 have hfB:∀ {w'},aH w w'->cJ w' fv ((y2.data.drop c).take n):=λhx=>by
  have:=hfs _ (hs2 hx);unfold cJ;rw [e2];simpa using this
 try simp only [aF,Int.reduceEq,decide_false,decide_true,aA,aE]
 have D5:aH w4.drew w4.drew.drew:=(aH.refl _).drew;have X6:=X5.trans D5;refine aI.mk' (λw'=>aH w4 w') (D4.trans D5) ?_;refine dS (λw' hw=>(hbx1.ext x4).ext hw) bH fO rfl ?_;refine eC aK aJ hov0 (λw' hw=>hov w' (bM (X4.trans hw))) (by omega) (by omega) g1 ?_;refine eC aK aJ hov0 (λw' hw=>hov w' (bM (X4.trans hw))) (by omega) (by omega) g1 ?_;refine eC aK aJ hov0 (λw' hw=>hov w' (bM (X4.trans hw))) (by omega) (by omega) g4 ?_;refine aB.ok (λw' _=>lO) ?_;rw [show IntKind.i64.wrap ((a:Int)+(n:Int))=((a+n:Nat):Int) from by rw [aW (by omega)];omega];obtain ⟨tv,htr,hts⟩:=uL (P:=prog) underlying23 mU (hs1 X5) (lo:=some (i64 (a:Int))) (hi':=some (i64 ((a+n:Nat):Int))) (a:=a) (b:=a+n) (.inr rfl) (.inr rfl) (by omega) (by omega);refine aB.ok (λw' _=>htr w') ?_;have e1:((y1.data.drop a).take n).length=n:=by simp;omega
 have htB:∀ {w'},aH w w'->cJ w' tv ((y1.data.drop a).take n):=λhx=>by
  have:=hts _ (hs1 hx);unfold cJ;rw [e1];simpa using this
 refine aB.ok (λw' hw=>vD underlying23 underlying5 underlying9 (htB (X4.trans hw))) ?_;refine aB.ok (λw' hw=>vD underlying23 underlying5 underlying9 (hfB (X4.trans hw))) ?_;refine aB.ok (λw' _=>tL) ?_;have o1:qC ((y1.data.drop a).take n):=qS (qT (by rw [<- d1];exact NX hby) a) n;have o2:qC ((y2.data.drop c).take n):=qS (qT (by rw [<- d2];exact NX hby) c) n;have hpar1:uN s.ar r1 (a:Int) (n:Int)=(y1.data.drop a).take n:=by unfold uN;rw [d1];simp only [Int.toNat_natCast]
 have hpar2:uN s.ar r2 (c:Int) (n:Int)=(y2.data.drop c).take n:=by unfold uN;rw [d2];simp only [Int.toNat_natCast]
 by_cases he:(y1.data.drop a).take n=(y2.data.drop c).take n
 ·rw [show ((strOfNums ((y1.data.drop a).take n)).toList == (strOfNums ((y2.data.drop c).take n)).toList)=true by rw [he];simp];refine aE.2 (hk _ _ (iX h X6 ?_ ?_))<;>unfold kV<;>rw [if_pos hfine]
  ·rw [hpar1,hpar2,if_pos he]
  ·exact hps
 ·rw [show ((strOfNums ((y1.data.drop a).take n)).toList == (strOfNums ((y2.data.drop c).take n)).toList)=false by
   rw [beq_eq_false_iff_ne];exact λe=>he (RN o1 o2 e)]
  refine aA.2 (hk _ _ (iX h X6 ?_ ?_))<;>unfold kV<;>rw [if_pos hfine]
  ·rw [hpar1,hpar2,if_neg he]
  ·exact hps
theorem dH.tellS (h:dH q w) {v5:Z} {news:List Int} {B:Nat} (ho:w.ownsRow B 5 1 v5 (q.ts++news).length ((q.ts++news).map u8)) (hB:∀ i,B<=i->¬ nZ q i/\¬ DD q i) (hle:(q.ts++news).length<=128) :
  dH { q with sec:=v5,ts:=q.ts++news } (w.setCell ⟨q.xb,0+4,none⟩ v5)/\Fr (λi=>i=q.xb) w (w.setCell ⟨q.xb,0+4,none⟩ v5):=by
 have r1:=h.xbox.set (j:=4) (by simp) v5;have f:Fr (λi=>i=q.xb) w (w.setCell ⟨q.xb,0+4,none⟩ v5):=Fr.of_set rfl;have hM:nZ q q.xb:=.inl rfl;have hv:∀ i,v5.ownBlock=some i->¬ nZ q i:=λi hi=>(hB i (ho.lt i hi).1).1;refine ⟨⟨r1,f.blk h.ybox λe=>h.xy e.symm,f.blk h.ubox λe=>h.xu e.symm,f.own h.list λi hi e=>h.dj i (e▸hM) (.inl (by simpa [Value.ownBlock] using hi.symm)),λa ha=>f.own (h.data a ha) λi hi e=>h.dj i (e▸hM) (.inr (.inl ⟨a,ha,hi⟩)),h.len,f.own h.qp λi hi e=>h.dj i (e▸hM) (.inr (.inr (.inl hi))),f.own (aQ ho (Nat.zero_le _)) λi hi e=>hv i hi (e▸hM),h.lp,hle,f.own h.trow λi hi e=>(h.une i hi).1 e,h.xy,h.xu,h.yu,h.une,λi hi hr=>?_,h.two,h.cnt,h.sz⟩,f⟩;rcases hr with hr|hr|hr|hr
 ·exact h.dj i hi (.inl hr)
 ·exact h.dj i hi (.inr (.inl hr))
 ·exact h.dj i hi (.inr (.inr (.inl hr)))
 ·exact hv i hr hi
theorem dH.tellP (h:dH q w) {v5:Z} {news:List Int} {B:Nat} (ho:w.ownsRow B 5 1 v5 (q.tp++news).length ((q.tp++news).map u8)) (hB:∀ i,B<=i->¬ nZ q i/\¬ DD q i) (hle:(q.tp++news).length<=128) :
  dH { q with pub:=v5,tp:=q.tp++news } (w.setCell ⟨q.xb,0+3,none⟩ v5)/\Fr (λi=>i=q.xb) w (w.setCell ⟨q.xb,0+3,none⟩ v5):=by
 have r1:=h.xbox.set (j:=3) (by simp) v5;have f:Fr (λi=>i=q.xb) w (w.setCell ⟨q.xb,0+3,none⟩ v5):=Fr.of_set rfl;have hM:nZ q q.xb:=.inl rfl;have hv:∀ i,v5.ownBlock=some i->¬ nZ q i:=λi hi=>(hB i (ho.lt i hi).1).1;refine ⟨⟨r1,f.blk h.ybox λe=>h.xy e.symm,f.blk h.ubox λe=>h.xu e.symm,f.own h.list λi hi e=>h.dj i (e▸hM) (.inl (by simpa [Value.ownBlock] using hi.symm)),λa ha=>f.own (h.data a ha) λi hi e=>h.dj i (e▸hM) (.inr (.inl ⟨a,ha,hi⟩)),h.len,f.own (aQ ho (Nat.zero_le _)) λi hi e=>hv i hi (e▸hM),f.own h.qs λi hi e=>h.dj i (e▸hM) (.inr (.inr (.inr hi))),hle,h.ls,f.own h.trow λi hi e=>(h.une i hi).1 e,h.xy,h.xu,h.yu,h.une,λi hi hr=>?_,h.two,h.cnt,h.sz⟩,f⟩;rcases hr with hr|hr|hr|hr
 ·exact h.dj i hi (.inl hr)
 ·exact h.dj i hi (.inr (.inl hr))
 ·exact hv i hr hi
 ·exact h.dj i hi (.inr (.inr (.inr hr)))
theorem VA (h:dH q w) {who sa sb r a n:Int} (hsa:sa≠1) (hov:∀ w2,Fr (nZ q) w w2->aC w2 ov 1 3 [i64 r,i64 a,i64 n]) (hps:q.ps=s.ev [⟨2,r,a,n⟩]) (hk:∀ u w',TY q w (fN s who sa r a n) u w'->R u w') :
  jW (rV q) (i64 who) (i64 36) (i64 sa) (i64 sb) av ov w R:=by
 have har:q.ar.map pa=s.ar:=congrArg PS.ar hps;have hov0:=hov w (Fr.refl _ _);have g0:([i64 r,i64 a,i64 n]:List Z)[(0:Int).toNat]?=some (i64 r):=rfl;have g1:([i64 r,i64 a,i64 n]:List Z)[(1:Int).toNat]?=some (i64 a):=rfl;have g2:([i64 r,i64 a,i64 n]:List Z)[(2:Int).toNat]?=some (i64 n):=rfl;have D:aH w w.drew:=(aH.refl _).drew;unfold jW;refine ⟨λv w'=>v=.bool false/\w'=w,(by first|exact ⟨rfl,rfl⟩|(try simp only [aF,Int.reduceEq,decide_false,aA];exact ⟨trivial,trivial⟩)|(try simp only [aF,Int.reduceEq,decide_false,decide_true,aA,aE];exact ⟨rfl,rfl⟩)),?_⟩;rintro _ w' ⟨rfl,hw⟩ _;have hw:=hw.symm;subst hw;refine aA.2 ?_
 try simp only [aF,Int.reduceEq,decide_false,aA]
 refine ⟨λv w'=>v=.bool false/\w'=w,(by first|exact ⟨rfl,rfl⟩|(try simp only [aF,Int.reduceEq,decide_false,decide_true,aA,aE];exact ⟨trivial,trivial⟩)|(try simp only [aF,Int.reduceEq,decide_false,decide_true,aA,aE];exact ⟨rfl,rfl⟩)),?_⟩;rintro _ w' ⟨rfl,hw⟩ _;have hw:=hw.symm;subst hw;refine aA.2 ?_;refine ⟨λv w'=>v=.bool false/\w'=w,(by first|exact ⟨rfl,rfl⟩|(try simp only [aF,Int.reduceEq,decide_false,decide_true,aA,aE];exact ⟨trivial,trivial⟩)|(try simp only [aF,Int.reduceEq,decide_false,decide_true,aA,aE];exact ⟨rfl,rfl⟩)),?_⟩;rintro _ w' ⟨rfl,hw⟩ _;have hw:=hw.symm;subst hw;refine aA.2 ?_;refine aI.mk' (λw'=>aH w w') D ⟨.inl ⟨_,rfl⟩,?_⟩;refine dS (λw' hw=>(h.xbox.ext hw).boxed) bK dI rfl ?_;refine eC aK aJ hov0 (λw' hw=>hov w' (bM hw)) (by omega) (by omega) g0 ?_;refine eC aK aJ hov0 (λw' hw=>hov w' (bM hw)) (by omega) (by omega) g1 ?_;refine eC aK aJ hov0 (λw' hw=>hov w' (bM hw)) (by omega) (by omega) g2 ?_;refine (kW (h.ext D)).mono λv w1 ⟨hv,x1⟩=>?_;subst hv;have X1:=D.trans x1;rw [har];refine ⟨X1,aU.2 (aL (λhne=>?_) λhfine=>?_)⟩
 ·refine hk _ _ (iX h X1 ?_ ?_)<;>unfold fN<;>rw [if_neg hne];exact hps
 have hf:gW s.ar r a n who=36864:=Classical.not_not.1 hfine;obtain ⟨k,x,hk2,hr,hm,ha0,hn0,han⟩:=fY ((jH q.ar r a n who).trans (by rw [har];exact hf));obtain ⟨a,rfl⟩:∃ m:Nat,a=m:=⟨a.toNat,by omega⟩;obtain ⟨n,rfl⟩:∃ m:Nat,n=m:=⟨n.toNat,by omega⟩;have hxm:=List.mem_of_getElem? hk2;have hxl:=h.len x hxm;have m1:=h.ls;have e1:q.tp=s.tp:=congrArg PS.tp hps;have e2:q.ts=s.ts:=congrArg PS.ts hps;have e3:q.tr=s.tr++[⟨2,r,(a:Int),(n:Int)⟩]:=congrArg PS.tr hps;have e4:q.size=s.size:=congrArg PS.size hps;refine ⟨_,rF (h.ext X1) hk2 hr (hov w1 (bM X1)) (by omega) (by omega) g0,?_⟩;rintro _ w2 ⟨b,rfl,hbx,x2⟩ _;have X2:=X1.trans x2;refine ⟨.inl ⟨_,rfl⟩,?_⟩;refine V.ok sO ?_;refine ⟨λv w'=>v=.pointer (some ⟨q.xb,0+4,none⟩)/\w'=w2,?_,?_⟩
 ·refine aU.2 ?_;simp only [show decide (sa≠1)=true by simpa using hsa,aE];refine ⟨.inl ⟨_,rfl⟩,?_⟩;exact V.ok wX ⟨by first|rfl|trivial,by first|rfl|trivial⟩
 rintro _ w' ⟨rfl,hw⟩ _;have hw:=hw.symm;subst hw;have D2:aH w2 w2.drew:=(aH.refl _).drew;have X3:=X2.trans D2;refine aI.mk' (λw'=>aH w w') X3 ?_;refine eC aK aJ hov0 (λw' hw=>hov w' (bM hw)) (by omega) (by omega) g2 ?_;refine ⟨.inl ⟨_,rfl⟩,?_⟩;refine aB.ok (λw' hw=>jM ((h.xbox.ext hw).cell (j:=4) rfl)) ?_;refine zN iO (aC.of_own h.qs) ?_;refine aB.ok (λw' _=>nN) ?_;rw [aW (by omega)];refine aB.ok (λw' _=>nR) ?_;refine aL (λhfull=>?_) λhroom=>?_
 ·refine hk _ _ (iX h X3 ?_ ?_)<;>unfold fN<;>rw [if_pos hf,if_neg hsa,if_pos (show s.ts.length+((n:Nat):Int).toNat > 128 by rw [<- e2,Int.toNat_natCast];omega)];exact hps
 have D3:aH w2.drew w2.drew.drew:=(aH.refl _).drew;have X4:=X3.trans D3;have hs1:∀ {w'},aH w w'->aC w' x.dv 1 x.data.length (x.data.map u8):=λhx=>aC.of_own (hx.own (h.data x hxm));have sz4:=X4.size;refine aI.mk' (λw'=>aH w2 w') (D2.trans D3) ⟨.inl ⟨_,rfl⟩,?_⟩;refine aB.ok (λw' hw=>jM ((h.xbox.ext (X2.trans hw)).cell (j:=4) rfl)) ?_;refine dS (λw' hw=>hbx.ext hw) bH fO rfl ?_;refine eC aK aJ hov0 (λw' hw=>hov w' (bM (X2.trans hw))) (by omega) (by omega) g1 ?_;refine eC aK aJ hov0 (λw' hw=>hov w' (bM (X2.trans hw))) (by omega) (by omega) g1 ?_;refine eC aK aJ hov0 (λw' hw=>hov w' (bM (X2.trans hw))) (by omega) (by omega) g2 ?_;refine aB.ok (λw' _=>lO) ?_;rw [show IntKind.i64.wrap ((a:Int)+(n:Int))=((a+n:Nat):Int) from by rw [aW (by omega)];omega];obtain ⟨fv,hfr,hfs⟩:=uL (P:=prog) underlying23 mU (hs1 X4) (lo:=some (i64 (a:Int))) (hi':=some (i64 ((a+n:Nat):Int))) (a:=a) (b:=a+n) (.inr rfl) (.inr rfl) (by omega) (by omega);refine aB.ok (λw' _=>hfr w') ?_;have el:((x.data.drop a).take n).length=n:=by simp;omega
 refine kJ lL [] rfl rfl (by simp) rfl λv5 w5 ho5 x5=>?_;have X5:=X4.trans x5;have sz5:=x5.size;refine ⟨(D2.trans D3).trans x5,?_⟩;refine apS lL ho5 (aC.of_own (X5.own h.qs)) (oS _) (by omega) (by unfold maxLen;omega) sz5 λv6 w6 ho6 hg6 hl6=>?_;rw [Nat.zero_add,List.nil_append] at ho6;have x6:aH w2 w6:=((D2.trans D3).trans x5).grown hg6 λi hi=>by have:=(ho5.lt i hi).1;have:=(D2.trans D3).size;omega
 have X6:=X2.trans x6;refine ⟨x6,?_⟩
 have hfB:aC w6 fv 1 n (((x.data.drop a).take n).map u8):=by
  have:=hfs _ (hs1 X6);simpa [List.map_take,List.map_drop] using this
 refine apS lL ho6 hfB (oS _) (by omega) (by unfold maxLen;omega) (by have:=x6.size;have:=X6.size;have:=hg6.size;omega) λv7 w7 ho7 hg7 hl7=>?_;have x7:aH w2 w7:=x6.grown hg7 λi hi=>by have:=(ho6.lt i hi).1;have:=(D2.trans D3).size;omega
 have X7:=X2.trans x7;refine ⟨x7,.inl ⟨_,rfl⟩,?_⟩
 have ho7':w7.ownsRow w2.drew.drew.heap.size 5 1 v7 (q.ts++(x.data.drop a).take n).length ((q.ts++(x.data.drop a).take n).map u8):=by
  rw [List.length_append,List.map_append,el];exact ho7
 refine EJ kY (h.xbox.ext X7) rfl (by simp) (bQ ho7) ?_;obtain ⟨h8,f8⟩:=(h.ext X7).tellS ho7' (λi hi=>h.above i (by omega)) (by rw [List.length_append,el];omega);refine hk _ _ ⟨_,?_,?_,h8,⟨rfl,rfl,rfl,rfl,rfl,rfl,λi hi=>?_,λi hi=>.inl hi,(Fr.of_ext (S:=nZ q) X7).trans (f8.mono λi hi=>.inl hi) λ_ _ h=>h⟩⟩
 ·unfold fN;rw [if_pos hf,if_neg hsa,if_neg (show ¬ s.ts.length+((n:Nat):Int).toNat > 128 by rw [<- e2,Int.toNat_natCast];omega)]
 ·unfold fN;rw [if_pos hf,if_neg hsa,if_neg (show ¬ s.ts.length+((n:Nat):Int).toNat > 128 by rw [<- e2,Int.toNat_natCast];omega)];unfold uN;rw [<- har,show lH (q.ar.map pa) r=x.data from jJ hk2 hr];show (⟨q.size,q.ar.map pa,q.tp,q.ts++(x.data.drop a).take n,q.tr⟩:PS)=_;rw [e1,e2,e3,e4,har];rfl
 ·rcases hi with hi|hi|hi|hi|hi
  ·exact .inl hi
  ·exact .inr (.inl (.inl hi))
  ·exact .inr (.inl (.inr (.inl hi)))
  ·exact .inr (.inl (.inr (.inr (.inl hi))))
  ·exact .inr (.inr (by have:=(ho7'.lt i hi).1;omega))
theorem VB (h:dH q w) {who sa sb r a n:Int} (hsa:sa=1) (hov:∀ w2,Fr (nZ q) w w2->aC w2 ov 1 3 [i64 r,i64 a,i64 n]) (hps:q.ps=s.ev [⟨2,r,a,n⟩]) (hk:∀ u w',TY q w (fN s who sa r a n) u w'->R u w') :
  jW (rV q) (i64 who) (i64 36) (i64 sa) (i64 sb) av ov w R:=by
 have har:q.ar.map pa=s.ar:=congrArg PS.ar hps;have hov0:=hov w (Fr.refl _ _);have g0:([i64 r,i64 a,i64 n]:List Z)[(0:Int).toNat]?=some (i64 r):=rfl;have g1:([i64 r,i64 a,i64 n]:List Z)[(1:Int).toNat]?=some (i64 a):=rfl;have g2:([i64 r,i64 a,i64 n]:List Z)[(2:Int).toNat]?=some (i64 n):=rfl;have D:aH w w.drew:=(aH.refl _).drew;unfold jW;refine ⟨λv w'=>v=.bool false/\w'=w,(by first|exact ⟨rfl,rfl⟩|(try simp only [aF,Int.reduceEq,decide_false,aA];exact ⟨trivial,trivial⟩)|(try simp only [aF,Int.reduceEq,decide_false,decide_true,aA,aE];exact ⟨rfl,rfl⟩)),?_⟩;rintro _ w' ⟨rfl,hw⟩ _;have hw:=hw.symm;subst hw;refine aA.2 ?_
 try simp only [aF,Int.reduceEq,decide_false,aA]
 refine ⟨λv w'=>v=.bool false/\w'=w,(by first|exact ⟨rfl,rfl⟩|(try simp only [aF,Int.reduceEq,decide_false,decide_true,aA,aE];exact ⟨trivial,trivial⟩)|(try simp only [aF,Int.reduceEq,decide_false,decide_true,aA,aE];exact ⟨rfl,rfl⟩)),?_⟩;rintro _ w' ⟨rfl,hw⟩ _;have hw:=hw.symm;subst hw;refine aA.2 ?_;refine ⟨λv w'=>v=.bool false/\w'=w,(by first|exact ⟨rfl,rfl⟩|(try simp only [aF,Int.reduceEq,decide_false,decide_true,aA,aE];exact ⟨trivial,trivial⟩)|(try simp only [aF,Int.reduceEq,decide_false,decide_true,aA,aE];exact ⟨rfl,rfl⟩)),?_⟩;rintro _ w' ⟨rfl,hw⟩ _;have hw:=hw.symm;subst hw;refine aA.2 ?_;refine aI.mk' (λw'=>aH w w') D ⟨.inl ⟨_,rfl⟩,?_⟩;refine dS (λw' hw=>(h.xbox.ext hw).boxed) bK dI rfl ?_;refine eC aK aJ hov0 (λw' hw=>hov w' (bM hw)) (by omega) (by omega) g0 ?_;refine eC aK aJ hov0 (λw' hw=>hov w' (bM hw)) (by omega) (by omega) g1 ?_;refine eC aK aJ hov0 (λw' hw=>hov w' (bM hw)) (by omega) (by omega) g2 ?_;refine (kW (h.ext D)).mono λv w1 ⟨hv,x1⟩=>?_;subst hv;have X1:=D.trans x1;rw [har];refine ⟨X1,aU.2 (aL (λhne=>?_) λhfine=>?_)⟩
 ·refine hk _ _ (iX h X1 ?_ ?_)<;>unfold fN<;>rw [if_neg hne];exact hps
 have hf:gW s.ar r a n who=36864:=Classical.not_not.1 hfine;obtain ⟨k,x,hk2,hr,hm,ha0,hn0,han⟩:=fY ((jH q.ar r a n who).trans (by rw [har];exact hf));obtain ⟨a,rfl⟩:∃ m:Nat,a=m:=⟨a.toNat,by omega⟩;obtain ⟨n,rfl⟩:∃ m:Nat,n=m:=⟨n.toNat,by omega⟩;have hxm:=List.mem_of_getElem? hk2;have hxl:=h.len x hxm;have m1:=h.lp;have e1:q.tp=s.tp:=congrArg PS.tp hps;have e2:q.ts=s.ts:=congrArg PS.ts hps;have e3:q.tr=s.tr++[⟨2,r,(a:Int),(n:Int)⟩]:=congrArg PS.tr hps;have e4:q.size=s.size:=congrArg PS.size hps;refine ⟨_,rF (h.ext X1) hk2 hr (hov w1 (bM X1)) (by omega) (by omega) g0,?_⟩;rintro _ w2 ⟨b,rfl,hbx,x2⟩ _;have X2:=X1.trans x2;refine ⟨.inl ⟨_,rfl⟩,?_⟩;refine V.ok sO ?_;refine ⟨λv w'=>v=.pointer (some ⟨q.xb,0+3,none⟩)/\w'=w2,?_,?_⟩
 ·refine aU.2 ?_;simp only [show decide (sa≠1)=false by simpa using hsa,aA];exact ⟨by first|rfl|trivial,by first|rfl|trivial⟩
 rintro _ w' ⟨rfl,hw⟩ _;have hw:=hw.symm;subst hw;have D2:aH w2 w2.drew:=(aH.refl _).drew;have X3:=X2.trans D2;refine aI.mk' (λw'=>aH w w') X3 ?_;refine eC aK aJ hov0 (λw' hw=>hov w' (bM hw)) (by omega) (by omega) g2 ?_;refine ⟨.inl ⟨_,rfl⟩,?_⟩;refine aB.ok (λw' hw=>jM ((h.xbox.ext hw).cell (j:=3) rfl)) ?_;refine zN iO (aC.of_own h.qp) ?_;refine aB.ok (λw' _=>nN) ?_;rw [aW (by omega)];refine aB.ok (λw' _=>nR) ?_;refine aL (λhfull=>?_) λhroom=>?_
 ·refine hk _ _ (iX h X3 ?_ ?_)<;>unfold fN<;>rw [if_pos hf,if_pos hsa,if_pos (show s.tp.length+((n:Nat):Int).toNat > 128 by rw [<- e1,Int.toNat_natCast];omega)];exact hps
 have D3:aH w2.drew w2.drew.drew:=(aH.refl _).drew;have X4:=X3.trans D3;have hs1:∀ {w'},aH w w'->aC w' x.dv 1 x.data.length (x.data.map u8):=λhx=>aC.of_own (hx.own (h.data x hxm));have sz4:=X4.size;refine aI.mk' (λw'=>aH w2 w') (D2.trans D3) ⟨.inl ⟨_,rfl⟩,?_⟩;refine aB.ok (λw' hw=>jM ((h.xbox.ext (X2.trans hw)).cell (j:=3) rfl)) ?_;refine dS (λw' hw=>hbx.ext hw) bH fO rfl ?_;refine eC aK aJ hov0 (λw' hw=>hov w' (bM (X2.trans hw))) (by omega) (by omega) g1 ?_;refine eC aK aJ hov0 (λw' hw=>hov w' (bM (X2.trans hw))) (by omega) (by omega) g1 ?_;refine eC aK aJ hov0 (λw' hw=>hov w' (bM (X2.trans hw))) (by omega) (by omega) g2 ?_;refine aB.ok (λw' _=>lO) ?_;rw [show IntKind.i64.wrap ((a:Int)+(n:Int))=((a+n:Nat):Int) from by rw [aW (by omega)];omega];obtain ⟨fv,hfr,hfs⟩:=uL (P:=prog) underlying23 mU (hs1 X4) (lo:=some (i64 (a:Int))) (hi':=some (i64 ((a+n:Nat):Int))) (a:=a) (b:=a+n) (.inr rfl) (.inr rfl) (by omega) (by omega);refine aB.ok (λw' _=>hfr w') ?_;have el:((x.data.drop a).take n).length=n:=by simp;omega
 refine kJ lL [] rfl rfl (by simp) rfl λv5 w5 ho5 x5=>?_;have X5:=X4.trans x5;have sz5:=x5.size;refine ⟨(D2.trans D3).trans x5,?_⟩;refine apS lL ho5 (aC.of_own (X5.own h.qp)) (oS _) (by omega) (by unfold maxLen;omega) sz5 λv6 w6 ho6 hg6 hl6=>?_;rw [Nat.zero_add,List.nil_append] at ho6;have x6:aH w2 w6:=((D2.trans D3).trans x5).grown hg6 λi hi=>by have:=(ho5.lt i hi).1;have:=(D2.trans D3).size;omega
 have X6:=X2.trans x6;refine ⟨x6,?_⟩
 have hfB:aC w6 fv 1 n (((x.data.drop a).take n).map u8):=by
  have:=hfs _ (hs1 X6);simpa [List.map_take,List.map_drop] using this
 refine apS lL ho6 hfB (oS _) (by omega) (by unfold maxLen;omega) (by have:=x6.size;have:=X6.size;have:=hg6.size;omega) λv7 w7 ho7 hg7 hl7=>?_;have x7:aH w2 w7:=x6.grown hg7 λi hi=>by have:=(ho6.lt i hi).1;have:=(D2.trans D3).size;omega
 have X7:=X2.trans x7;refine ⟨x7,.inl ⟨_,rfl⟩,?_⟩
 have ho7':w7.ownsRow w2.drew.drew.heap.size 5 1 v7 (q.tp++(x.data.drop a).take n).length ((q.tp++(x.data.drop a).take n).map u8):=by
  rw [List.length_append,List.map_append,el];exact ho7
 refine EJ kY (h.xbox.ext X7) rfl (by simp) (bQ ho7) ?_;obtain ⟨h8,f8⟩:=(h.ext X7).tellP ho7' (λi hi=>h.above i (by omega)) (by rw [List.length_append,el];omega);refine hk _ _ ⟨_,?_,?_,h8,⟨rfl,rfl,rfl,rfl,rfl,rfl,λi hi=>?_,λi hi=>.inl hi,(Fr.of_ext (S:=nZ q) X7).trans (f8.mono λi hi=>.inl hi) λ_ _ h=>h⟩⟩
 ·unfold fN;rw [if_pos hf,if_pos hsa,if_neg (show ¬ s.tp.length+((n:Nat):Int).toNat > 128 by rw [<- e1,Int.toNat_natCast];omega)]
 ·unfold fN;rw [if_pos hf,if_pos hsa,if_neg (show ¬ s.tp.length+((n:Nat):Int).toNat > 128 by rw [<- e1,Int.toNat_natCast];omega)];unfold uN;rw [<- har,show lH (q.ar.map pa) r=x.data from jJ hk2 hr];show (⟨q.size,q.ar.map pa,q.tp++(x.data.drop a).take n,q.ts,q.tr⟩:PS)=_;rw [e1,e2,e3,e4,har];rfl
 ·rcases hi with hi|hi|hi|hi|hi
  ·exact .inl hi
  ·exact .inr (.inl (.inl hi))
  ·exact .inr (.inl (.inr (.inl hi)))
  ·exact .inr (.inr (by have:=(ho7'.lt i hi).1;omega))
  ·exact .inr (.inl (.inr (.inr (.inr hi))))
end
structure sH (op who sa sb:Int) (n:Nat) (ns:List Int) (X:PS->zT):Prop where
 prg:∀ {p:RP} {w:O} {av:Z},cA p w->p.tr.length<=99000->aC w av 1 n (ns.map i32)->aD prog 136 #[jS p,rL p,i64 who,i64 op,i64 sa,i64 sb,av] w λr w'=>zL p w (X p.ps) r w'
 ref:∀ {q:QP} {w:O} {av:Z},dH q w->q.tr.length<=99000->(∀ x∈q.ps.ar,qC x.data)->(∀ w',Fr (nZ q) w w'->aC w' av 1 n (ns.map i32))->aD prog 69 #[rV q,ubT q,i64 who,i64 op,i64 sa,i64 sb,av] w λr w'=>TY q w (X q.ps) r w'
 len:∀ s,(X s).2.2.tr.length<=s.tr.length+2
theorem aGc {who sa sb x0 x1:Int} (hsm:gN [x0,x1]):sH 17 who sa sb 2 [x0,x1] λs=>pN s x0 x1:=by
 refine ⟨λ{p w av} h hl hx=>?_,λ{q w av} h hl hby hva=>?_,λs=>?_⟩
 ·exact KK h hx hsm
 ·refine pY (CJ (nn:=2) (xs:=[x0,x1]) (evs:=[]) h hl (by omega) (by simp) aDr (λho=>KH ho) rfl (hva _ (Fr.refl _ _)) hsm λw1 ov uv1 h1 s1 hov=>?_);exact aOb h1 hov (hva _ s1.fr) (hsm _ (by simp)) (hsm _ (by simp)) (s:=q.ps) (by show (⟨q.size,q.ar.map pa,q.tp,q.ts,q.tr++[]⟩:PS)=_;rw [List.append_nil];rfl) (λu w2 ⟨q2,e1,e2,e3,e4⟩=>⟨q2,e1,e2,e3,s1.trans e4⟩)
 ·show (pN s x0 x1).2.2.tr.length<=_;unfold pN
  repeat' split
  all_goals simp []
theorem aGb {who sa sb x0 x1:Int} (hsm:gN [x0,x1]):sH 18 who sa sb 2 [x0,x1] λs=>pM s x0 x1:=by
 refine ⟨λ{p w av} h hl hx=>?_,λ{q w av} h hl hby hva=>?_,λs=>?_⟩
 ·exact KJ h hx hsm
 ·refine pY (CJ (nn:=2) (xs:=[x0,x1]) (evs:=[]) h hl (by omega) (by simp) aDq (λho=>KG ho) rfl (hva _ (Fr.refl _ _)) hsm λw1 ov uv1 h1 s1 hov=>?_);exact aOa h1 hov (hva _ s1.fr) (hsm _ (by simp)) (hsm _ (by simp)) (s:=q.ps) (by show (⟨q.size,q.ar.map pa,q.tp,q.ts,q.tr++[]⟩:PS)=_;rw [List.append_nil];rfl) (λu w2 ⟨q2,e1,e2,e3,e4⟩=>⟨q2,e1,e2,e3,s1.trans e4⟩)
 ·show (pM s x0 x1).2.2.tr.length<=_;unfold pM
  repeat' split
  all_goals simp []
theorem aGa {who sa sb x0:Int} (hsm:gN [x0]) (hsa:sa=3\/sa=4) (hsb:0<=sb/\sb < 7):sH 27 who sa sb 1 [x0] λs=>eB s who sa sb x0:=by
 refine ⟨λ{p w av} h hl hx=>?_,λ{q w av} h hl hby hva=>?_,λs=>?_⟩
 ·refine lU (nn:=1) (f:=187) (by omega) NC (by decide) (xs:=[x0]) hx rfl hsm (Rr:=λr w'=>zL p w (eB p.ps who sa sb x0) r w') λw1 av1 ex1 ho1=>?_;have hva:∀ w',Fr (λi=>jC p i\/lJ p i) w1 w'->aC w' av1 1 1 ([x0].map i64):=λw' hf=>aC.of_own (hf.own ho1 λi hi hm=>by have:=(ho1.lt i hi).1;have:=h.hi i hm;omega);rcases hsa with rfl|rfl
  ·refine (WT (h.ext ex1) (by omega) hsb (hva _ (Fr.refl _ _))).mono λr w' hr=>?_;obtain ⟨p2,e1,e2,e3,e4⟩:=hr;subst e1;exact ⟨_,_,rfl,⟨p2,rfl,e2,e3,(oB.of_ext ex1).trans e4⟩⟩
  ·refine (WS (h.ext ex1) (by omega) hsb (hva _ (Fr.refl _ _))).mono λr w' hr=>?_;obtain ⟨p2,e1,e2,e3,e4⟩:=hr;subst e1;exact ⟨_,_,rfl,⟨p2,rfl,e2,e3,(oB.of_ext ex1).trans e4⟩⟩
 ·refine pY (CJ (nn:=1) (xs:=[x0]) (evs:=[⟨3,sa,sb,x0⟩]) h hl (by omega) (by simp) aDp (λho=>KF ho) rfl (hva _ (Fr.refl _ _)) hsm λw1 ov uv1 h1 s1 hov=>?_);rcases hsa with rfl|rfl
  ·exact VD h1 hsb hov (s:=q.ps) rfl (λu w2 ⟨q2,e1,e2,e3,e4⟩=>⟨q2,e1,e2,e3,s1.trans e4⟩)
  ·exact VC h1 hsb hov (s:=q.ps) rfl (λu w2 ⟨q2,e1,e2,e3,e4⟩=>⟨q2,e1,e2,e3,s1.trans e4⟩)
 ·show (eB s who sa sb x0).2.2.tr.length<=_;unfold eB
  repeat' split
  all_goals simp [PS.ev]
theorem aFz {who sa sb x0:Int} (hsm:gN [x0]):sH 28 who sa sb 1 [x0] λs=>qG s who x0:=by
 refine ⟨λ{p w av} h hl hx=>?_,λ{q w av} h hl hby hva=>?_,λs=>?_⟩
 ·refine lU (nn:=1) (f:=188) (by omega) NB (by decide) (xs:=[x0]) hx rfl hsm (Rr:=λr w'=>zL p w (qG p.ps who x0) r w') λw1 av1 ex1 ho1=>?_;have hva:∀ w',Fr (λi=>jC p i\/lJ p i) w1 w'->aC w' av1 1 1 ([x0].map i64):=λw' hf=>aC.of_own (hf.own ho1 λi hi hm=>by have:=(ho1.lt i hi).1;have:=h.hi i hm;omega);refine (KW (h.ext ex1) (by omega) (hva _ (Fr.refl _ _))).mono λr w' hr=>?_;obtain ⟨p2,e1,e2,e3,e4⟩:=hr;subst e1;exact ⟨_,_,rfl,⟨p2,rfl,e2,e3,(oB.of_ext ex1).trans e4⟩⟩
 ·refine pY (CJ (nn:=1) (xs:=[x0]) (evs:=[⟨2,x0,0,0⟩]) h hl (by omega) (by simp) aDo (λho=>KE ho) rfl (hva _ (Fr.refl _ _)) hsm λw1 ov uv1 h1 s1 hov=>?_);exact aNz h1 hov (s:=q.ps) rfl (λu w2 ⟨q2,e1,e2,e3,e4⟩=>⟨q2,e1,e2,e3,s1.trans e4⟩)
 ·show (qG s who x0).2.2.tr.length<=_;unfold qG
  repeat' split
  all_goals simp [PS.ev]
theorem aFy {who sa sb x0 x1:Int} (hsm:gN [x0,x1]):sH 29 who sa sb 2 [x0,x1] λs=>qH s who x0 x1:=by
 refine ⟨λ{p w av} h hl hx=>?_,λ{q w av} h hl hby hva=>?_,λs=>?_⟩
 ·refine lU (nn:=2) (f:=189) (by omega) NA (by decide) (xs:=[x0,x1]) hx rfl hsm (Rr:=λr w'=>zL p w (qH p.ps who x0 x1) r w') λw1 av1 ex1 ho1=>?_;have hva:∀ w',Fr (λi=>jC p i\/lJ p i) w1 w'->aC w' av1 1 2 ([x0,x1].map i64):=λw' hf=>aC.of_own (hf.own ho1 λi hi hm=>by have:=(ho1.lt i hi).1;have:=h.hi i hm;omega);refine (aFd (h.ext ex1) (by omega) (hva _ (Fr.refl _ _))).mono λr w' hr=>?_;obtain ⟨p2,e1,e2,e3,e4⟩:=hr;subst e1;exact ⟨_,_,rfl,⟨p2,rfl,e2,e3,(oB.of_ext ex1).trans e4⟩⟩
 ·refine pY (CJ (nn:=2) (xs:=[x0,x1]) (evs:=[⟨2,x0,x1,1⟩]) h hl (by omega) (by simp) aDn (λho=>KD ho) rfl (hva _ (Fr.refl _ _)) hsm λw1 ov uv1 h1 s1 hov=>?_);exact aNy h1 hov (s:=q.ps) rfl (λu w2 ⟨q2,e1,e2,e3,e4⟩=>⟨q2,e1,e2,e3,s1.trans e4⟩)
 ·show (qH s who x0 x1).2.2.tr.length<=_;unfold qH
  repeat' split
  all_goals simp [PS.ev]
theorem aFx {who sa sb x0 x1 x2:Int} (hsm:gN [x0,x1,x2]):sH 30 who sa sb 3 [x0,x1,x2] λs=>qF s who x0 x1 x2:=by
 refine ⟨λ{p w av} h hl hx=>?_,λ{q w av} h hl hby hva=>?_,λs=>?_⟩
 ·refine lU (nn:=3) (f:=190) (by omega) MZ (by decide) (xs:=[x0,x1,x2]) hx rfl hsm (Rr:=λr w'=>zL p w (qF p.ps who x0 x1 x2) r w') λw1 av1 ex1 ho1=>?_;have hva:∀ w',Fr (λi=>jC p i\/lJ p i) w1 w'->aC w' av1 1 3 ([x0,x1,x2].map i64):=λw' hf=>aC.of_own (hf.own ho1 λi hi hm=>by have:=(ho1.lt i hi).1;have:=h.hi i hm;omega);refine (aEa (h.ext ex1) (by omega) hva).mono λr w' hr=>?_;obtain ⟨p2,e1,e2,e3,e4⟩:=hr;subst e1;exact ⟨_,_,rfl,⟨p2,rfl,e2,e3,(oB.of_ext ex1).trans e4⟩⟩
 ·refine pY (CJ (nn:=3) (xs:=[x0,x1,x2]) (evs:=[⟨2,x0,x1,1⟩]) h hl (by omega) (by simp) aDm (λho=>KC ho) rfl (hva _ (Fr.refl _ _)) hsm λw1 ov uv1 h1 s1 hov=>?_);exact aNx h1 hov (s:=q.ps) rfl (λu w2 ⟨q2,e1,e2,e3,e4⟩=>⟨q2,e1,e2,e3,s1.trans e4⟩)
 ·show (qF s who x0 x1 x2).2.2.tr.length<=_;unfold qF
  repeat' split
  all_goals simp [PS.ev]
theorem aFw {who sa sb x0 x1 x2 x3 x4:Int} (hsm:gN [x0,x1,x2,x3,x4]):sH 31 who sa sb 5 [x0,x1,x2,x3,x4] λs=>lB s who x0 x1 x2 x3 x4:=by
 refine ⟨λ{p w av} h hl hx=>?_,λ{q w av} h hl hby hva=>?_,λs=>?_⟩
 ·refine lU (nn:=5) (f:=191) (by omega) MY (by decide) (xs:=[x0,x1,x2,x3,x4]) hx rfl hsm (Rr:=λr w'=>zL p w (lB p.ps who x0 x1 x2 x3 x4) r w') λw1 av1 ex1 ho1=>?_;have hva:∀ w',Fr (λi=>jC p i\/lJ p i) w1 w'->aC w' av1 1 5 ([x0,x1,x2,x3,x4].map i64):=λw' hf=>aC.of_own (hf.own ho1 λi hi hm=>by have:=(ho1.lt i hi).1;have:=h.hi i hm;omega);refine (XX (h.ext ex1) hl hva).mono λr w' hr=>?_;obtain ⟨p2,e1,e2,e3,e4⟩:=hr;subst e1;exact ⟨_,_,rfl,⟨p2,rfl,e2,e3,(oB.of_ext ex1).trans e4⟩⟩
 ·refine pY (CJ (nn:=5) (xs:=[x0,x1,x2,x3,x4]) (evs:=[⟨2,x0,x1,x4⟩,⟨2,x2,x3,x4⟩]) h hl (by omega) (by simp) aDl (λho=>KB ho) rfl (hva _ (Fr.refl _ _)) hsm λw1 ov uv1 h1 s1 hov=>?_);exact aNw h1 hby hov (s:=q.ps) (by show (⟨q.size,q.ar.map pa,q.tp,q.ts,q.tr++[_,_]⟩:PS)=⟨q.size,q.ar.map pa,q.tp,q.ts,(q.tr++[_])++[_]⟩;rw [List.append_assoc];rfl) (λu w2 ⟨q2,e1,e2,e3,e4⟩=>⟨q2,e1,e2,e3,s1.trans e4⟩)
 ·show (lB s who x0 x1 x2 x3 x4).2.2.tr.length<=_;unfold lB
  repeat' split
  all_goals simp [PS.ev,PS.ev2]
theorem aFv {who sa sb x0 x1 x2 x3 x4:Int} (hsm:gN [x0,x1,x2,x3,x4]):sH 32 who sa sb 5 [x0,x1,x2,x3,x4] λs=>kV s who x0 x1 x2 x3 x4:=by
 refine ⟨λ{p w av} h hl hx=>?_,λ{q w av} h hl hby hva=>?_,λs=>?_⟩
 ·refine lU (nn:=5) (f:=192) (by omega) MX (by decide) (xs:=[x0,x1,x2,x3,x4]) hx rfl hsm (Rr:=λr w'=>zL p w (kV p.ps who x0 x1 x2 x3 x4) r w') λw1 av1 ex1 ho1=>?_;have hva:∀ w',Fr (λi=>jC p i\/lJ p i) w1 w'->aC w' av1 1 5 ([x0,x1,x2,x3,x4].map i64):=λw' hf=>aC.of_own (hf.own ho1 λi hi hm=>by have:=(ho1.lt i hi).1;have:=h.hi i hm;omega);refine (UV (h.ext ex1) hl hva).mono λr w' hr=>?_;obtain ⟨p2,e1,e2,e3,e4⟩:=hr;subst e1;exact ⟨_,_,rfl,⟨p2,rfl,e2,e3,(oB.of_ext ex1).trans e4⟩⟩
 ·refine pY (CJ (nn:=5) (xs:=[x0,x1,x2,x3,x4]) (evs:=[⟨2,x0,x1,x4⟩,⟨2,x2,x3,x4⟩]) h hl (by omega) (by simp) aDk (λho=>KA ho) rfl (hva _ (Fr.refl _ _)) hsm λw1 ov uv1 h1 s1 hov=>?_);exact aNv h1 hby hov (s:=q.ps) (by show (⟨q.size,q.ar.map pa,q.tp,q.ts,q.tr++[_,_]⟩:PS)=⟨q.size,q.ar.map pa,q.tp,q.ts,(q.tr++[_])++[_]⟩;rw [List.append_assoc];rfl) (λu w2 ⟨q2,e1,e2,e3,e4⟩=>⟨q2,e1,e2,e3,s1.trans e4⟩)
 ·show (kV s who x0 x1 x2 x3 x4).2.2.tr.length<=_;unfold kV
  repeat' split
  all_goals simp [PS.ev,PS.ev2]
theorem aFu {who sa sb x0 x1 x2:Int} (hsm:gN [x0,x1,x2]):sH 36 who sa sb 3 [x0,x1,x2] λs=>fN s who sa x0 x1 x2:=by
 refine ⟨λ{p w av} h hl hx=>?_,λ{q w av} h hl hby hva=>?_,λs=>?_⟩
 ·refine lU (nn:=3) (f:=193) (by omega) MW (by decide) (xs:=[x0,x1,x2]) hx rfl hsm (Rr:=λr w'=>zL p w (fN p.ps who sa x0 x1 x2) r w') λw1 av1 ex1 ho1=>?_;have hva:∀ w',Fr (λi=>jC p i\/lJ p i) w1 w'->aC w' av1 1 3 ([x0,x1,x2].map i64):=λw' hf=>aC.of_own (hf.own ho1 λi hi hm=>by have:=(ho1.lt i hi).1;have:=h.hi i hm;omega);refine (UU (h.ext ex1) (by omega) (hva _ (Fr.refl _ _))).mono λr w' hr=>?_;obtain ⟨p2,e1,e2,e3,e4⟩:=hr;subst e1;exact ⟨_,_,rfl,⟨p2,rfl,e2,e3,(oB.of_ext ex1).trans e4⟩⟩
 ·refine pY (CJ (nn:=3) (xs:=[x0,x1,x2]) (evs:=[⟨2,x0,x1,x2⟩]) h hl (by omega) (by simp) aDj (λho=>JZ ho) rfl (hva _ (Fr.refl _ _)) hsm λw1 ov uv1 h1 s1 hov=>?_);by_cases hsa:sa=1
  ·exact VB h1 hsa hov (s:=q.ps) rfl (λu w2 ⟨q2,e1,e2,e3,e4⟩=>⟨q2,e1,e2,e3,s1.trans e4⟩)
  ·exact VA h1 hsa hov (s:=q.ps) rfl (λu w2 ⟨q2,e1,e2,e3,e4⟩=>⟨q2,e1,e2,e3,s1.trans e4⟩)
 ·show (fN s who sa x0 x1 x2).2.2.tr.length<=_;unfold fN
  repeat' split
  all_goals simp [PS.ev]
end Go.Proofs.YtgkkecladbmjkaaGreatDoor
namespace Go.Proofs.YtgkkecladbmjkaaGreatDoor
open Tryz
open Go.Vc Go.Tc
variable {a op who:Int} {k n:Nat} {i:bF} {m:gD} {x:gR} {fd:List (List Int)} {loc:List Int}
def mH (a:Int):Prop:=-2147483648<=a/\a<=2147483647
def c31 (b:Int):Int:=IntKind.i32.wrap (BitVec.ofInt IntKind.i32.bits b &&& BitVec.ofInt IntKind.i32.bits 31).toNat
def pC (op a b:Int):Int:=
 if op=6 then IntKind.i32.wrap (a+b) else if op=7 then IntKind.i32.wrap (a - b) else if op=8 then IntKind.i32.wrap (a*b)
 else if op=9 then IntKind.i32.wrap (BitVec.ofInt IntKind.i32.bits a &&& BitVec.ofInt IntKind.i32.bits b).toNat
 else if op=10 then IntKind.i32.wrap (BitVec.ofInt IntKind.i32.bits a ||| BitVec.ofInt IntKind.i32.bits b).toNat
 else if op=11 then IntKind.i32.wrap (BitVec.ofInt IntKind.i32.bits a ^^^ BitVec.ofInt IntKind.i32.bits b).toNat
 else if op=12 then IntKind.i32.wrap (a*2 ^ (min (c31 b).toNat IntKind.i32.bits))
 else if op=13 then IntKind.i32.wrap ((IntKind.u32.wrap a).fdiv (2 ^ (min (c31 b).toNat IntKind.u32.bits)))
 else if op=14 then a.fdiv (2 ^ (min (c31 b).toNat IntKind.i32.bits))
 else if op=19 then (if a=b then 1 else 0)
 else if op=20 then (if a < b then 1 else 0)
 else if IntKind.u32.wrap a < IntKind.u32.wrap b then 1 else 0
def unF (op a:Int):Int:=
 if op=15 then IntKind.i32.wrap (0 - a)
 else if op=16 then IntKind.i32.wrap (BitVec.ofInt IntKind.i32.bits (-1) ^^^ BitVec.ofInt IntKind.i32.bits a).toNat
 else if a=0 then 1 else 0
def xA (c a b:Int):Int:=if c=0 then b else a
theorem wG (n:Int):mH (IntKind.i32.wrap n):=by
 unfold mH;simp only [IntKind.wrap_i32];omega
theorem aPt (ha:mH a):mH (a.fdiv (2 ^ k)):=by
 have hp:(0:Int) < 2 ^ k:=by
  have:(0:Int) < ((2 ^ k:Nat):Int):=by exact_mod_cast Nat.two_pow_pos k
  simpa using this
 rw [Int.fdiv_eq_ediv_of_nonneg _ (Int.le_of_lt hp)];generalize (2:Int) ^ k=d at hp;unfold mH at *;refine ⟨?_,?_⟩
 ·rw [Int.le_ediv_iff_mul_le hp];have:=Int.mul_le_mul_of_nonpos_left (show (-2147483648:Int)<=0 by decide) (show (1:Int)<=d by omega);omega
 ·have:a / d < 2147483648:=by
   rw [Int.ediv_lt_iff_lt_mul hp];have:=Int.mul_le_mul_of_nonneg_left (show (1:Int)<=d by omega) (show (0:Int)<=2147483648 by decide);omega
  omega
theorem OC {c:Prop} [Decidable c] {b:Int} (ha:mH a) (hb:mH b):mH (if c then a else b):=by split<;>assumption
theorem r01 {c:Prop} [Decidable c]:mH (if c then 1 else 0):=OC (by unfold mH;omega) (by unfold mH;omega)
theorem aQj {b:Int} (ha:mH a):mH (pC op a b):=by
 unfold pC
 repeat' (with_reducible apply OC)
 all_goals first|exact wG _|exact aPt ha|(unfold mH;omega)
theorem aTu:mH (unF op a):=by
 unfold unF
 repeat' (with_reducible apply OC)
 all_goals first|exact wG _|(unfold mH;omega)
structure jD where
 who:Nat
 mth:Nat
 pc:Nat
 loc:List Int
 st:List Int
structure Rm where
 ps:PS
 fd:List (List Int)
def Rm.ev (r:Rm) (e:qK):Rm:={ r with ps:=r.ps.ev [e] }
def Rm.ends (r:Rm) (s:Int):Rm:=r.ev ⟨5,s,0,0⟩
structure PM where
 fs:List jD
 f:jD
 fuel:Nat
 r:Rm
inductive Out
 | run (m:PM)
 | fin (s:Int) (depth fuel:Nat) (r:Rm)
def aR (l:List bF) (k:Nat):bF:=l.getD k ⟨ByteArray.empty,[],[],[],[]⟩
def jD.img (l:List bF) (f:jD):bF:=aR l f.who
def jD.me (l:List bF) (f:jD):gD:=(f.img l).meth f.mth
def jD.ins (l:List bF) (f:jD):gR:=(f.me l).ins f.pc
def rB (l:List bF) (name:ByteArray):Option Nat:=l.findIdx? λi=>i.name.toList == name.toList
def lC (l:List bF) (who:Nat) (k:Int):Option (Nat × Nat):=
 (rB l ((aR l who).imp k).name).bind λt=>
  if ((aR l who).imp k).exp < (aR l t).exports.length/\((aR l t).meth ((aR l t).exports.getD ((aR l who).imp k).exp.toNat 0)).params=((aR l who).imp k).params/\((aR l t).meth ((aR l t).exports.getD ((aR l who).imp k).exp.toNat 0)).result=((aR l who).imp k).result
  then some (t,((aR l t).exports.getD ((aR l who).imp k).exp.toNat 0).toNat) else none
def eY (op:Int):Prop:=op=17\/op=18\/(27<=op/\op<=32)\/op=36
instance (op:Int):Decidable (eY op):=by unfold eY;exact inferInstance
def eU (s:PS) (who:Int) (x:gR) (t:List Int):zT:=
 if x.op=17 then pN s (bO t 0) (bO t 1) else if x.op=18 then pM s (bO t 0) (bO t 1)
 else if x.op=27 then eB s who x.a x.b (bO t 0) else if x.op=28 then qG s who (bO t 0)
 else if x.op=29 then qH s who (bO t 0) (bO t 1) else if x.op=30 then qF s who (bO t 0) (bO t 1) (bO t 2)
 else if x.op=31 then lB s who (bO t 0) (bO t 1) (bO t 2) (bO t 3) (bO t 4)
 else if x.op=32 then kV s who (bO t 0) (bO t 1) (bO t 2) (bO t 3) (bO t 4)
 else fN s who x.a (bO t 0) (bO t 1) (bO t 2)
def oO (l:List bF) (to mth:Nat) (t:List Int):jD:=⟨to,mth,0,t++List.replicate ((aR l to).meth mth).locals.length 0,[]⟩
def qP (x:gR) (f:jD) (fd:List (List Int)) (t:List Int):List Int:=
 if x.op=1\/x.op=35 then [x.a] else if x.op=2 then [f.loc.getD x.a.toNat 0] else if x.op=5 then [bO t 0,bO t 0] else if x.op=25 then [0]
 else if x.op=33 then [(fd.getD f.who []).getD x.a.toNat 0]
 else if x.op=3\/x.op=4\/x.op=23\/x.op=24\/x.op=34 then []
 else if x.op=15\/x.op=16\/x.op=26 then [unF x.op (bO t 0)] else if x.op=22 then [xA (bO t 0) (bO t 1) (bO t 2)]
 else [pC x.op (bO t 0) (bO t 1)]
def JV (x:gR) (pc:Nat) (t:List Int):Nat:=if x.op=23 then x.a.toNat else if x.op=24 then (if bO t 0=0 then pc+1 else x.a.toNat) else pc+1
def zP (x:gR) (loc t:List Int):List Int:=if x.op=3 then loc.set x.a.toNat (bO t 0) else loc
def fdP (x:gR) (who:Nat) (fd:List (List Int)) (t:List Int):List (List Int):=if x.op=34 then fd.set who ((fd.getD who []).set x.a.toNat (bO t 0)) else fd
def gQ (n:Nat) (s:List Int):List Int:=s.drop (s.length - n)
def jG (n:Nat) (s:List Int):List Int:=s.take (s.length - n)
def jL (op:Int):Prop:=op=30\/op=31\/op=36
instance (op:Int):Decidable (jL op):=by unfold jL;exact inferInstance
def qY (l:List bF) (f:jD) (x:gR):Option (Nat × Nat):=if x.op=37 then some (f.who,x.a.toNat) else lC l f.who x.a
def uF (l:List bF) (fs:List jD) (f:jD) (fuel:Nat) (r:Rm) (x:gR) (t u:List Int):Out:=
 if x.op=39 then
  match fs with
  | []=>.fin 36864 0 fuel (r.ends 36864)
  | g::gs=>.run ⟨gs,{ g with st:=g.st++t },fuel,r⟩
 else if x.op=37\/x.op=38 then
  match qY l f x with
  | none=>.fin 28424 (fs.length+1) fuel (r.ends 28424)
  | some q=>if 8<=fs.length+1 then .fin 28422 (fs.length+1) fuel (r.ends 28422) else .run ⟨{ f with st:=u,pc:=f.pc+1 }::fs,oO l q.1 q.2 t,fuel,r⟩
 else if eY x.op then
  if (eU r.ps f.who x t).2.1=36864 then .run ⟨fs,{ f with st:=u++(if jL x.op then [] else [(eU r.ps f.who x t).1]),pc:=f.pc+1 },fuel,{ r with ps:=(eU r.ps f.who x t).2.2 }⟩
  else .fin (eU r.ps f.who x t).2.1 (fs.length+1) fuel (Rm.ends { r with ps:=(eU r.ps f.who x t).2.2 } (eU r.ps f.who x t).2.1)
 else .run ⟨fs,{ f with st:=u++qP x f r.fd t,pc:=JV x f.pc t,loc:=zP x f.loc t },fuel,{ r with fd:=fdP x f.who r.fd t }⟩
def bI (l:List bF) (f:jD):Nat:=(bB (f.img l) (f.me l) (f.ins l)).length
def lA (l:List bF) (f:jD):qK:=⟨1,f.who,1000*f.mth+f.pc,(f.ins l).op⟩
def iW (l:List bF) (m:PM):Out:=
 if m.fuel=0 then .fin 28423 (m.fs.length+1) 0 (m.r.ends 28423)
 else uF l m.fs m.f (m.fuel - 1) (m.r.ev (lA l m.f)) (m.f.ins l) (gQ (bI l m.f) m.f.st) (jG (bI l m.f) m.f.st)
def uC (i:bF) (m:gD) (pc:Nat) (K:List Int):Prop:=∃ s,qJ i m (some s)/\pc < m.code.length/\s.h pc=true/\s.s pc=K
theorem uC.first (hi:i.right) (hm:m.right) (h:∃ s,qJ i m (some s)):uC i m 0 []:=by
 obtain ⟨s,hs⟩:=h;obtain ⟨_,_,h0,h1,_⟩:=hs.led hi hm;exact ⟨s,hs,hm.2.2.2.1.1,h0,h1⟩
theorem uC.go {i:bF} {m:gD} {pc:Nat} {K:List Int} (hi:i.right) (hm:m.right) (h:uC i m pc K):pc < m.code.length/\EA i m (m.ins pc)/\mA K/\K.length<=8/\∃ out,GG i m (m.ins pc) K=some out/\mA out/\∀ to∈gX (m.ins pc) pc,0<=to/\∃ K',uC i m to.toNat K'/\mB K' out:=by
 obtain ⟨s,hs,hp,hh,rfl⟩:=h;obtain ⟨hx,hw,_⟩:=hs.led hi hm;obtain ⟨out,h1,h2,h3⟩:=hs.flow hi hm pc hh;refine ⟨hp,hx _ (CS hp),(hw.kd pc hh).1,(hw.kd pc hh).2,out,h1,h2,λto ht=>?_⟩;obtain ⟨t1,t2,t3,t4⟩:=h3 to ht;exact ⟨t1,_,⟨s,hs,by omega,t3,rfl⟩,t4⟩
theorem OQ {s out:List Int} (h:GG i m x s=some out):(bB i m x).length<=s.length/\out.length=s.length - (bB i m x).length+hgt i m x/\out=s.take (s.length - (bB i m x).length)++iU i m x (s.drop (s.length - (bB i m x).length))/\nU x (bB i m x) (s.drop (s.length - (bB i m x).length))=true/\pT x (bB i m x) (s.drop (s.length - (bB i m x).length))=false:=by
 simp only [GG] at h;split at h
 ·cases h
 rename_i hn
 split at h
 ·rename_i hk
  cases h;refine ⟨by omega,?_,rfl,hk.1,hk.2⟩;rw [List.length_append,List.length_take,LG];omega
 ·cases h
structure jD.ok (l:List bF) (f:jD) (n:Nat):Prop where
 who:f.who < l.length
 mth:f.mth < (f.img l).methods.length
 rch:∃ K,uC (f.img l) (f.me l) f.pc K/\K.length=f.st.length+n
 loc:f.loc.length=(f.me l).locs.length
 l32:gN f.loc
 s32:gN f.st
def aUc (l:List bF) (f:jD):Nat:=(iZ (f.me l).result).length
def aCz (l:List bF):jD->List jD->Prop
 | _,[]=>True
 | f,g::gs=>g.ok l (aUc l f)/\aCz l g gs
structure MJ (l:List bF) (fd:List (List Int)):Prop where
 len:fd.length=l.length
 row:∀ k,k < l.length->(fd.getD k []).length=(aR l k).fields.length/\gN (fd.getD k [])
structure PM.ok (l:List bF) (m:PM):Prop where
 top:m.f.ok l 0
 ch:aCz l m.f m.fs
 dep:m.fs.length < 8
 fd:MJ l m.r.fd
def pG (l:List bF):Prop:=∀ i∈l,uA i
theorem iI {l:List bF} (h:k < l.length):aR l k∈l:=by
 unfold aR;rw [List.getD_eq_getElem?_getD,List.getElem?_eq_getElem h];exact List.getElem_mem h
theorem TE {l:List bF} (h:l[k]?=some i):aR l k=i:=by
 unfold aR;rw [List.getD_eq_getElem?_getD,h];rfl
theorem meth_mem (h:k < i.methods.length):i.meth k∈i.methods:=bF.meth_mem (by omega) (by omega)
theorem jD.ok.rt {l:List bF} {f:jD} (h:f.ok l n) (hT:pG l):(f.img l).right/\(f.me l).right/\∃ s,qJ (f.img l) (f.me l) (some s):=by
 have h1:=hT _ (iI h.who);have h2:=meth_mem h.mth;exact ⟨h1.1,h1.1.2.2.1.2.1 _ h2,h1.2 _ h2⟩
theorem tP {t:List Int} (h:gN t) (n:Nat):mH (bO t n):=by
 unfold bO;rw [List.getD_eq_getElem?_getD];cases e:t[n]? with
 | none=>unfold mH;simp
 | some z=>exact h z (List.mem_of_getElem? e)
theorem qW {a b:List Int} (ha:gN a) (hb:gN b):gN (a++b):=λz hz=>(List.mem_append.1 hz).elim (ha z) (hb z)
theorem kL (h:mH a):gN [a]:=λz hz=>by rw [List.mem_singleton] at hz;subst hz;exact h
theorem tW:gN []:=λ_ h=>(List.not_mem_nil h).elim
theorem CU {s:List Int} (h:gN s) (n:Nat):gN (gQ n s)/\gN (jG n s):=⟨λz hz=>h z (List.mem_of_mem_drop hz),λz hz=>h z (List.mem_of_mem_take hz)⟩
theorem FW {s:List Int} (h:gN s) {v:Int} (hv:mH v):gN (s.set k v):=λz hz=>by
 rcases List.mem_or_eq_of_mem_set hz with h1|rfl
 ·exact h z h1
 ·exact hv
theorem XJ (n:Nat):gN (List.replicate n 0):=λz hz=>by rw [List.eq_of_mem_replicate hz];omega
theorem WD (h:x.right):x.op=1\/x.op=2\/x.op=3\/x.op=4\/x.op=5\/jA x.op\/x.op=15\/x.op=16\/x.op=17\/x.op=18\/x.op=22\/x.op=23\/x.op=24\/x.op=25\/x.op=26\/x.op=27\/x.op=28\/x.op=29\/x.op=30\/x.op=31\/x.op=32\/x.op=33\/x.op=34\/x.op=35\/x.op=36\/x.op=37\/x.op=38\/x.op=39:=by
 have h1:=h.1;unfold jA;omega
def YO (op:Int):Prop:=op≠37/\op≠38/\op≠39/\¬ eY op
theorem SI {me:gD} (hr:x.right) (hp:YO x.op) (f:jD) (fd:List (List Int)) (t:List Int):(qP x f fd t).length=hgt i me x:=by
 obtain ⟨op,a,b⟩:=x;obtain ⟨p1,p2,p3,p4⟩:=hp;have hop:=WD hr;dsimp only at *;unfold eY at p4;unfold hgt;rcases hop with rfl|rfl|rfl|rfl|rfl|hb|rfl|rfl|rfl|rfl|rfl|rfl|rfl|rfl|rfl|rfl|rfl|rfl|rfl|rfl|rfl|rfl|rfl|rfl|rfl|rfl|rfl|rfl
 case _=>rfl
 case _=>rfl
 case _=>rfl
 case _=>rfl
 case _=>rfl
 case _=>
  unfold jA at hb;simp only [qP,iU]
  repeat rw [if_neg (by omega)]
  rw [if_pos (by unfold jA;omega)];rfl
 all_goals first|rfl|omega
theorem KI {me:gD} (hs:eY x.op):(if jL x.op then 0 else 1)=hgt i me x:=by
 obtain ⟨op,a,b⟩:=x;dsimp only at *;unfold eY at hs;have:op=17\/op=18\/op=27\/op=28\/op=29\/op=30\/op=31\/op=32\/op=36:=by omega
 unfold hgt;rcases this with rfl|rfl|rfl|rfl|rfl|rfl|rfl|rfl|rfl
 case _=>rfl
 case _=>rfl
 case _=>rfl
 case _=>rfl
 case _=>rfl
 case _=>rfl
 case _=>rfl
 case _=>
  simp [iU,jA,jL];split<;>rfl
 case _=>rfl
theorem WJ {pc:Nat} (h:x.op≠23) (h2:x.op≠39):((pc:Int)+1)∈gX x pc:=by
 unfold gX;rw [if_neg h];by_cases h3:x.op=24
 ·rw [if_pos h3];exact List.mem_cons_self
 ·rw [if_neg h3,if_neg h2];exact List.mem_singleton.2 rfl
theorem WB (hr:x.right) (h39:x.op≠39) (pc:Nat) (t:List Int):∃ to∈gX x pc,to=(JV x pc t:Int):=by
 obtain ⟨op,a,b⟩:=x;have ha:=hr.2.1;unfold JV;dsimp only at *;by_cases h1:op=23
 ·subst h1;have ha:0<=a:=ha;exact ⟨a,by simp [gX],by simp;omega⟩
 rw [if_neg h1];by_cases h2:op=24
 ·subst h2;have ha:0<=a:=ha;rw [if_pos rfl];split
  ·exact ⟨(pc:Int)+1,by simp [gX],by omega⟩
  ·exact ⟨a,by simp [gX],by omega⟩
 ·rw [if_neg h2];exact ⟨(pc:Int)+1,WJ h1 h39,by omega⟩
theorem aEc (hr:x.right) {f:jD} {t:List Int} (hl:gN f.loc) (hf:gN (fd.getD f.who [])) (ht:gN t):gN (qP x f fd t):=by
 obtain ⟨op,a,b⟩:=x;have ha:=hr.2;have gd:∀ {l:List Int} (k:Nat),gN l->mH (l.getD k 0):=λk h=>tP h k;unfold qP;dsimp only at *;split
 ·rename_i h
  refine kL ?_;rcases h with rfl|rfl
  ·exact ⟨ha.1,ha.2.1⟩
  ·have h1:1<=a:=ha.1;have h2:a<=2:=ha.2.1;unfold mH;omega
 split
 ·exact kL (gd _ hl)
 split
 ·exact qW (a:=[bO t 0]) (kL (tP ht 0)) (kL (tP ht 0))
 split
 ·exact kL (by unfold mH;omega)
 split
 ·exact kL (gd _ hf)
 split
 ·exact tW
 split
 ·exact kL aTu
 split
 ·exact kL (OC (tP ht 2) (tP ht 1))
 ·exact kL (aQj (tP ht 0))
theorem aDu {c:Prop} [Decidable c] {a b:zT} (ha:mH a.1) (hb:mH b.1):mH (if c then a else b).1:=by split<;>assumption
theorem UY {s:PS} {t:List Int}:mH (eU s who x t).1:=by
 have z:mH 0:=by unfold mH;omega
 unfold eU pN pM eB qG qH qF lB kV fN
 repeat' (with_reducible apply aDu)
 all_goals first|exact wG _|exact z|exact r01
theorem wR {l:List bF} (hT:pG l) {who:Nat} (hw:who < l.length) {k:Int} (h0:0<=k) (hk:k < (aR l who).imports.length) {q:Nat × Nat} (h:lC l who k=some q) :
  q.1 < l.length/\q.2 < (aR l q.1).methods.length/\((aR l q.1).meth q.2).params=((aR l who).imp k).params/\((aR l q.1).meth q.2).result=((aR l who).imp k).result:=by
 unfold lC at h;obtain ⟨t,ht,h⟩:=Option.bind_eq_some_iff.1 h;split at h
 ·rename_i hc
  cases h;obtain ⟨c1,c2,c3⟩:=hc
  have htl:t < l.length:=by
   unfold rB at ht;exact (List.findIdx?_eq_some_iff_findIdx_eq.1 ht).1
  have hx:=(hT _ (iI hw)).1.2.1.2 _ (bF.imp_mem h0 hk);have hx0:=hx.1.1
  have he:=(hT _ (iI htl)).1.2.2.2.2 ((aR l t).exports.getD ((aR l who).imp k).exp.toNat 0) (by
   rw [List.getD_eq_getElem?_getD,List.getElem?_eq_getElem (by omega)];exact List.getElem_mem _)
  have e:((((aR l t).exports.getD ((aR l who).imp k).exp.toNat 0).toNat:Nat):Int)=(aR l t).exports.getD ((aR l who).imp k).exp.toNat 0:=by omega
  refine ⟨htl,by dsimp only;omega,?_,?_⟩
  ·dsimp only;rw [e];exact c2
  ·dsimp only;rw [e];exact c3
 ·cases h
theorem AR {l:List bF} (hT:pG l) {to mth:Nat} (h1:to < l.length) (h2:mth < (aR l to).methods.length) {t:List Int} (ht:gN t) (hl:t.length=((aR l to).meth mth).params.length):(oO l to mth t).ok l 0:=by
 have hi:=hT _ (iI h1);have hm:=meth_mem h2;refine ⟨h1,h2,⟨[],uC.first hi.1 (hi.1.2.2.1.2.1 _ hm) (hi.2 _ hm),rfl⟩,?_,qW ht (XJ _),tW⟩;show (t++List.replicate _ 0).length=(((aR l to).meth mth).params++((aR l to).meth mth).locals).length;rw [List.length_append,List.length_replicate,List.length_append,hl]
theorem aPu {l:List bF} (h:MJ l fd) {who:Nat} {t:List Int} (ht:gN t):MJ l (fdP x who fd t):=by
 unfold fdP;split
 ·refine ⟨by simpa using h.len,λk hk=>?_⟩;have hr:=h.row k hk;by_cases hkw:who=k
  ·subst hkw
   have e:(fd.set who ((fd.getD who []).set x.a.toNat (bO t 0))).getD who []=(fd.getD who []).set x.a.toNat (bO t 0):=by
    rw [List.getD_eq_getElem?_getD,List.getElem?_set_self (by have:=h.len;omega)];rfl
   rw [e];exact ⟨by simpa using hr.1,FW hr.2 (tP ht 0)⟩
  ·have e:(fd.set who ((fd.getD who []).set x.a.toNat (bO t 0))).getD k []=fd.getD k []:=by
    rw [List.getD_eq_getElem?_getD,List.getElem?_set_ne hkw,List.getD_eq_getElem?_getD]
   rw [e];exact hr
 ·exact h
theorem aEq {t:List Int} (hl:gN loc) (ht:gN t):(zP x loc t).length=loc.length/\gN (zP x loc t):=by
 unfold zP;split
 ·exact ⟨by simp,FW hl (tP ht 0)⟩
 ·exact ⟨rfl,hl⟩
structure AtI (l:List bF) (f:jD):Prop where
 pc:f.pc < (f.me l).code.length
 okx:EA (f.img l) (f.me l) (f.ins l)
 nt:bI l f<=f.st.length
 hi:f.st.length<=8
theorem jD.ok.at_ {l:List bF} {f:jD} (h:f.ok l 0) (hT:pG l):AtI l f:=by
 obtain ⟨h1,h2,_⟩:=h.rt hT;obtain ⟨K,hK,hl⟩:=h.rch;obtain ⟨g1,g2,g3,g4,out,g5,_⟩:=hK.go h1 h2;have:=OQ g5;exact ⟨g1,g2,by unfold bI;have:=this.1;unfold jD.ins;omega,by omega⟩
theorem jD.ok.next {l:List bF} {f:jD} (h:f.ok l 0) (hT:pG l) {to:Int} (ht:to∈gX (f.ins l) f.pc) {st:List Int} (hs:st.length+n=f.st.length - bI l f+hgt (f.img l) (f.me l) (f.ins l)) (s32:gN st) (hl:loc.length=f.loc.length) (l32:gN loc) {f':jD} (e:f'=⟨f.who,f.mth,to.toNat,loc,st⟩):f'.ok l n:=by
 subst e;obtain ⟨h1,h2,_⟩:=h.rt hT;obtain ⟨K,hK,hlen⟩:=h.rch;obtain ⟨g1,g2,g3,g4,out,g5,g6,g7⟩:=hK.go h1 h2;obtain ⟨_,K',hK',hin⟩:=g7 to ht;have hd:=(OQ g5).2.1;refine ⟨h.who,h.mth,⟨K',hK',?_⟩,hl.trans h.loc,l32,s32⟩;have:=hin.len;have e:(bB (f.img l) (f.me l) ((f.me l).ins f.pc)).length=bI l f:=rfl;have e2:hgt (f.img l) (f.me l) ((f.me l).ins f.pc)=hgt (f.img l) (f.me l) (f.ins l):=rfl;show K'.length=st.length+n;omega
theorem mD {s:List Int}:(jG n s).length=s.length - n:=by unfold jG;simp
theorem oD {s:List Int} (h:n<=s.length):(gQ n s).length=n:=by unfold gQ;simp;omega
theorem JY {l:List bF} (hT:pG l) {m m':PM} (h:m.ok l) (he:iW l m=.run m'):m'.ok l:=by
 obtain ⟨fs,f,fuel,r⟩:=m;obtain ⟨h1,h2,h3,h4⟩:=h;dsimp only at h1 h2 h3 h4;have hA:=h1.at_ hT;have hrt:=h1.rt hT;have ht:=CU h1.s32 (bI l f);unfold iW at he;dsimp only at he;split at he
 ·cases he
 unfold uF at he;split at he
 ·rename_i h39
  cases fs with
  | nil=>cases he
  | cons g gs=>
   cases he;obtain ⟨c1,c2⟩:=h2
   have hn:bI l f=aUc l f:=by
    unfold bI bB;simp only [h39,jA,Int.reduceEq,or_self,Int.reduceLE,and_false,if_false,if_true];rfl
   obtain ⟨K,hK,hl⟩:=c1.rch;refine ⟨⟨c1.who,c1.mth,⟨K,hK,?_⟩,c1.loc,c1.l32,qW c1.s32 ht.1⟩,?_,by simp at h3;dsimp only;omega,h4⟩
   ·show K.length=(g.st++gQ (bI l f) f.st).length+0;rw [List.length_append,oD hA.nt,hn];omega
   ·cases gs with
    | nil=>trivial
    | cons g2 gs=>exact c2
 rename_i h39
 split at he
 ·rename_i hc
  split at he
  ·cases he
  rename_i q hq
  split at he
  ·cases he
  rename_i hd
  cases he
  have key:q.1 < l.length/\q.2 < (aR l q.1).methods.length/\bI l f=((aR l q.1).meth q.2).params.length/\hgt (f.img l) (f.me l) (f.ins l)=(iZ ((aR l q.1).meth q.2).result).length:=by
   have hnm:=hA.okx.nm;have hxr:=hA.okx.xr;unfold qY at hq;unfold bI hgt;generalize hx:f.ins l=x at *;obtain ⟨op,a,b⟩:=x;dsimp only at hc hq h39;rcases hc with rfl|rfl
   ·rw [if_pos rfl] at hq;cases hq;have ha:0<=a:=hxr.2.1;have hn:a < ((f.img l).methods.length:Int):=hnm;have e:((a.toNat:Nat):Int)=a:=by omega
    refine ⟨h1.who,by show a.toNat < (aR l f.who).methods.length;have:f.img l=aR l f.who:=rfl;rw [this] at hn;omega,?_,?_⟩
    iterate 2
     ·simp only [e];rfl
   ·rw [if_neg (by decide)] at hq;have ha:0<=a:=hxr.2.1;have hn:a < ((f.img l).imports.length:Int):=hnm;obtain ⟨r1,r2,r3,r4⟩:=wR hT h1.who ha hn hq;refine ⟨r1,r2,?_,?_⟩
    ·rw [r3];rfl
    ·rw [r4];rfl
  obtain ⟨k1,k2,k3,k4⟩:=key;have hne:(f.ins l).op≠23:=by omega
  refine ⟨AR hT k1 k2 ht.1 (by rw [oD hA.nt,k3]),⟨h1.next hT (WJ hne h39) (loc:=f.loc) (st:=jG (bI l f) f.st) ?_ ht.2 rfl h1.l32 ?_,?_⟩,by simp only [List.length_cons];omega,h4⟩
  ·show _+(iZ ((oO l q.1 q.2 (gQ (bI l f) f.st)).me l).result).length=_;have e:(oO l q.1 q.2 (gQ (bI l f) f.st)).me l=(aR l q.1).meth q.2:=rfl;rw [e,<- k4,mD]
  ·have:((f.pc:Int)+1).toNat=f.pc+1:=by omega
   rw [this]
  ·cases fs with
   | nil=>trivial
   | cons g gs=>exact h2
 rename_i hc
 split at he
 ·rename_i hs
  split at he
  ·cases he;have hne:(f.ins l).op≠23:=by unfold eY at hs;omega
   refine ⟨h1.next hT (WJ hne h39) (loc:=f.loc) (n:=0) (st:=jG (bI l f) f.st++if jL (f.ins l).op then [] else [(eU (r.ev (lA l f)).ps f.who (f.ins l) (gQ (bI l f) f.st)).1]) ?_ ?_ rfl h1.l32 ?_,?_,h3,h4⟩
   ·have:=KI (i:=f.img l) (me:=f.me l) hs;rw [List.length_append,mD];split at this<;>simp_all<;>omega
   ·refine qW ht.2 ?_;split
    ·exact tW
    ·exact kL UY
   ·have:((f.pc:Int)+1).toNat=f.pc+1:=by omega
    rw [this]
   ·cases fs with
    | nil=>trivial
    | cons g gs=>exact h2
  ·cases he
 ·rename_i hs
  cases he;obtain ⟨to,hto,hpc⟩:=WB hA.okx.xr h39 f.pc (gQ (bI l f) f.st);have hlo:=aEq (x:=f.ins l) h1.l32 ht.1;refine ⟨h1.next hT hto (n:=0) (st:=jG (bI l f) f.st++qP (f.ins l) f r.fd (gQ (bI l f) f.st)) (loc:=zP (f.ins l) f.loc (gQ (bI l f) f.st)) ?_ ?_ hlo.1 hlo.2 ?_,?_,h3,aPu h4 ht.1⟩
  ·rw [List.length_append,mD,SI (i:=f.img l) (me:=f.me l) hA.okx.xr ⟨by omega,by omega,h39,hs⟩];omega
  ·exact qW ht.2 (aEc hA.okx.xr h1.l32 (h4.row _ h1.who).2 ht.1)
  ·rw [hpc];simp;rfl
  ·cases fs with
   | nil=>trivial
   | cons g gs=>exact h2
structure uX where
 s:Int
 depth:Nat
 fuel:Nat
 r:Rm
inductive oC (l:List bF):PM->uX->Prop
 | fin {m:PM} {s:Int} {d f:Nat} {r:Rm}:iW l m=.fin s d f r->oC l m ⟨s,d,f,r⟩
 | go {m m':PM} {e:uX}:iW l m=.run m'->oC l m' e->oC l m e
theorem oC.det {l:List bF} {m:PM} {e e':uX} (h:oC l m e) (h':oC l m e'):e=e':=by
 induction h with
 | fin h1=>cases h' with
  | fin h2=>rw [h1] at h2;cases h2;rfl
  | go h2 _=>rw [h1] at h2;cases h2
 | go h1 _ ih=>cases h' with
  | fin h2=>rw [h1] at h2;cases h2
  | go h2 h3=>rw [h1] at h2;cases h2;exact ih h3
theorem mF {c:Prop} [Decidable c] {b n:Int} (ha:a≠n) (hb:b≠n):(if c then a else b)≠n:=by split<;>assumption
theorem UO {c:Prop} [Decidable c] {a b:zT} {n:Int} (ha:a.2.1≠n) (hb:b.2.1≠n):(if c then a else b).2.1≠n:=by split<;>assumption
theorem XY {l:List PA} {r:Int}:vL l r who≠28423:=by
 unfold vL;refine mF ?_ (by decide);split
 ·exact mF (by decide) (by decide)
 ·decide
theorem KO {l:List PA} {r n:Int}:gW l r a n who≠28423:=by
 unfold gW;refine mF ?_ XY;split
 ·exact mF (by decide) (by decide)
 ·decide
theorem aFl {s:PS} {r1 a1 r2 a2 n:Int}:jU s who r1 a1 r2 a2 n≠28423:=mF KO KO
theorem RX {s:PS} {t:List Int}:(eU s who x t).2.1≠28423:=by
 unfold eU pN pM eB qG qH qF lB kV fN
 repeat' (with_reducible apply UO)
 all_goals first|exact XY|exact KO|exact aFl|(dsimp only;decide)
theorem yD {l:List bF} {fs:List jD} {f:jD} {r:Rm} {t u:List Int} :
  (∀ m',uF l fs f n r x t u=.run m'->m'.fuel=n/\∀ d,uF l fs f (n+d) r x t u=.run { m' with fuel:=n+d }) /\
  (∀ s k q r',uF l fs f n r x t u=.fin s k q r'->q=n/\s≠28423/\∀ d,uF l fs f (n+d) r x t u=.fin s k (n+d) r'):=by
 unfold uF;split
 ·cases fs with
  | nil=>exact ⟨λm' h=>(by cases h),λs k q r' h=>(by cases h;exact ⟨rfl,by decide,λd=>rfl⟩)⟩
  | cons g gs=>exact ⟨λm' h=>(by cases h;exact ⟨rfl,λd=>rfl⟩),λs k q r' h=>(by cases h)⟩
 split
 ·split
  ·exact ⟨λm' h=>(by cases h),λs k q r' h=>(by cases h;exact ⟨rfl,by decide,λd=>rfl⟩)⟩
  ·split
   ·exact ⟨λm' h=>(by cases h),λs k q r' h=>(by cases h;exact ⟨rfl,by decide,λd=>rfl⟩)⟩
   ·exact ⟨λm' h=>(by cases h;exact ⟨rfl,λd=>rfl⟩),λs k q r' h=>(by cases h)⟩
 split
 ·split
  ·exact ⟨λm' h=>(by cases h;exact ⟨rfl,λd=>rfl⟩),λs k q r' h=>(by cases h)⟩
  ·refine ⟨λm' h=>(by cases h),λs k q r' h=>?_⟩;cases h;refine ⟨rfl,?_,λd=>rfl⟩;exact RX
 ·exact ⟨λm' h=>(by cases h;exact ⟨rfl,λd=>rfl⟩),λs k q r' h=>(by cases h)⟩
theorem pL {l:List bF} {m m':PM} (h:iW l m=.run m'):m.fuel=m'.fuel+1/\∀ d,iW l { m with fuel:=m.fuel+d }=.run { m' with fuel:=m'.fuel+d }:=by
 unfold iW at *;split at h
 ·cases h
 rename_i h0
 obtain ⟨h1,h2⟩:=yD.1 m' h;refine ⟨by omega,λd=>?_⟩;dsimp only;rw [if_neg (by omega),show m.fuel+d - 1=m.fuel - 1+d by omega];rw [h1];exact h2 d
theorem zZ {l:List bF} {m:PM} {s:Int} {q:Nat} {r:Rm} (h:iW l m=.fin s k q r):(s=28423/\m.fuel=0/\q=0/\r=m.r.ends 28423)\/(s≠28423/\m.fuel=q+1/\∀ d,iW l { m with fuel:=m.fuel+d }=.fin s k (q+d) r):=by
 unfold iW at *;split at h
 ·rename_i h0
  cases h;exact .inl ⟨rfl,h0,rfl,rfl⟩
 rename_i h0
 obtain ⟨h1,h2,h3⟩:=yD.2 s k q r h;refine .inr ⟨h2,by omega,λd=>?_⟩;dsimp only;rw [if_neg (by omega),show m.fuel+d - 1=m.fuel - 1+d by omega,h1];exact h3 d
def uV (a b:List qK):Prop:=∃ c,b=a++c
theorem uV.refl (a:List qK):uV a a:=⟨[],by simp⟩
theorem uV.trans {a b c:List qK} (h:uV a b) (k:uV b c):uV a c:=by
 obtain ⟨x,rfl⟩:=h;obtain ⟨y,rfl⟩:=k;exact ⟨x++y,by simp⟩
theorem uV.app (a b:List qK):uV a (a++b):=⟨b,rfl⟩
theorem aEe {c:Prop} [Decidable c] {l:List qK} {a b:zT} (ha:uV l a.2.2.tr) (hb:uV l b.2.2.tr):uV l (if c then a else b).2.2.tr:=by split<;>assumption
theorem sK {s:PS} {t:List Int}:uV s.tr (eU s who x t).2.2.tr:=by
 unfold eU pN pM eB qG qH qF lB kV fN
 repeat' (with_reducible apply aEe)
 all_goals first|exact uV.refl _|exact uV.app _ _|(exact (uV.app _ _).trans (uV.app _ _))
def Out.r:Out->Rm
 | .run m=>m.r
 | .fin _ _ _ r=>r
theorem zY {l:List bF} {m:PM}:uV m.r.ps.tr (iW l m).r.ps.tr:=by
 unfold iW;split
 ·exact uV.app _ _
 have h1:uV m.r.ps.tr (m.r.ev (lA l m.f)).ps.tr:=uV.app _ _;refine h1.trans ?_;generalize m.r.ev (lA l m.f)=r;unfold uF;split
 ·cases m.fs with
  | nil=>exact uV.app _ _
  | cons g gs=>exact uV.refl _
 split
 ·split
  ·exact uV.app _ _
  ·split
   ·exact uV.app _ _
   ·exact uV.refl _
 split
 ·split
  ·exact sK
  ·exact sK.trans (uV.app _ _)
 ·exact uV.refl _
theorem oC.pre {l:List bF} {m:PM} {e:uX} (h:oC l m e):∃ c,e.r.ps.tr=m.r.ps.tr++c/\c≠[]:=by
 induction h with
 | @fin m s d f r h1=>
  have hp:=zY (l:=l) (m:=m);rw [h1] at hp;obtain ⟨c,hc⟩:=hp;refine ⟨c,hc,λh0=>?_⟩;subst h0
  have:m.r.ps.tr.length < r.ps.tr.length:=by
   unfold iW at h1;split at h1
   ·cases h1;simp [Rm.ends,Rm.ev,PS.ev]
   unfold uF at h1;split at h1
   ·cases hfs:m.fs with
    | nil=>rw [hfs] at h1;cases h1;simp [Rm.ends,Rm.ev,PS.ev]
    | cons g gs=>rw [hfs] at h1;cases h1
   split at h1
   ·split at h1
    ·cases h1;simp [Rm.ends,Rm.ev,PS.ev]
    ·split at h1
     ·cases h1;simp [Rm.ends,Rm.ev,PS.ev]
     ·cases h1
   split at h1
   ·split at h1
    ·cases h1
    ·cases h1;obtain ⟨c,hc⟩:=sK (s:=(m.r.ev (lA l m.f)).ps) (who:=m.f.who) (x:=m.f.ins l) (t:=gQ (bI l m.f) m.f.st);show _ < (_++[_]).length;simp only [hc,List.length_append];simp [Rm.ev,PS.ev];omega
   ·cases h1
  have hc':r.ps.tr=m.r.ps.tr++[]:=hc;rw [hc'] at this;simp at this
 | @go m m' e h1 _ ih=>
  have hp:=zY (l:=l) (m:=m);rw [h1] at hp;obtain ⟨c,hc⟩:=hp;obtain ⟨c2,hc2,hn⟩:=ih;refine ⟨c++c2,?_,λh0=>hn (List.append_eq_nil_iff.1 h0).2⟩;rw [hc2];have hc':m'.r.ps.tr=m.r.ps.tr++c:=hc;rw [hc'];simp
theorem XN {l:List bF} {m:PM} {e e':uX} {d:Nat} (h:oC l m e) (h':oC l { m with fuel:=m.fuel+d } e') :
  (e.s≠28423->e'={ e with fuel:=e.fuel+d })/\(e.s=28423->e.fuel=0/\∃ t c ev,e.r.ps.tr=t++[ev]/\e'.r.ps.tr=t++c/\c≠[]):=by
 induction h with
 | @fin m s k q r h1=>
  rcases zZ h1 with ⟨rfl,h0,rfl,rfl⟩|⟨hs,hf,hd⟩
  ·refine ⟨λh=>absurd rfl h,λ_=>⟨rfl,?_⟩⟩;obtain ⟨c,hc,hn⟩:=h'.pre;exact ⟨m.r.ps.tr,c,_,rfl,hc,hn⟩
  ·refine ⟨λ_=>?_,λh=>absurd h hs⟩;exact oC.det h' (.fin (hd d))
 | @go m m' e h1 _ ih=>
  obtain ⟨hf,hd⟩:=pL h1;refine ih ?_;cases h' with
  | fin h2=>rw [hd d] at h2;cases h2
  | go h2 h3=>rw [hd d] at h2;cases h2;exact h3
end Go.Proofs.YtgkkecladbmjkaaGreatDoor
