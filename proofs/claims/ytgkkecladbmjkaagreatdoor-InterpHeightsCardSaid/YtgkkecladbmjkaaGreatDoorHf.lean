/- RoomServes: Serves, Serve. -/
import Derived.Test.YtgkkecladbmjkaaGreatDoorHe
import Derived.Test.YtgkkecladbmjkaaGreatDoorHd
set_option maxHeartbeats 6400000
namespace Go.Proofs.YtgkkecladbmjkaaGreatDoor
open Tryz
open Go.Vc
theorem MQ {w:Ω}:aD prog 94 #[i64 17] w λr w'=>r=i64 (2)/\w'=w:=by
 apply oL;unfold kJ;refine ⟨λv w'=>v=.bool false/\w'=w,?_,?_⟩
 ·simp only [aF,Int.reduceEq,decide_false,aA];exact ⟨trivial,trivial⟩
 rintro _ w' ⟨rfl,hw⟩ _;have hw:=hw.symm;subst hw;refine aA.2 ?_;refine ⟨λv w'=>v=.bool true/\w'=w,?_,?_⟩
 ·simp only [aF,Int.reduceEq,decide_false,decide_true,aA,aE];exact ⟨trivial,trivial⟩
 rintro _ w' ⟨rfl,hw⟩ _;have hw:=hw.symm;subst hw;refine aE.2 ?_;exact ⟨rfl,rfl⟩
theorem MP {w:Ω}:aD prog 94 #[i64 18] w λr w'=>r=i64 (2)/\w'=w:=by
 apply oL;unfold kJ;refine ⟨λv w'=>v=.bool false/\w'=w,?_,?_⟩
 ·simp only [aF,Int.reduceEq,decide_false,aA];exact ⟨trivial,trivial⟩
 rintro _ w' ⟨rfl,hw⟩ _;have hw:=hw.symm;subst hw;refine aA.2 ?_;refine ⟨λv w'=>v=.bool true/\w'=w,?_,?_⟩
 ·simp only [aF,Int.reduceEq,decide_false,decide_true,aA,aE];exact ⟨trivial,trivial⟩
 rintro _ w' ⟨rfl,hw⟩ _;have hw:=hw.symm;subst hw;refine aE.2 ?_;exact ⟨rfl,rfl⟩
theorem MO {w:Ω}:aD prog 94 #[i64 27] w λr w'=>r=i64 (1)/\w'=w:=by
 apply oL;unfold kJ;refine ⟨λv w'=>v=.bool true/\w'=w,?_,?_⟩
 ·simp only [aF,Int.reduceEq,decide_false,decide_true,aE];exact ⟨trivial,trivial⟩
 rintro _ w' ⟨rfl,hw⟩ _;have hw:=hw.symm;subst hw;refine aE.2 ?_;exact ⟨rfl,rfl⟩
theorem MN {w:Ω}:aD prog 94 #[i64 28] w λr w'=>r=i64 (1)/\w'=w:=by
 apply oL;unfold kJ;refine ⟨λv w'=>v=.bool true/\w'=w,?_,?_⟩
 ·simp only [aF,Int.reduceEq,decide_false,decide_true,aA];exact ⟨trivial,trivial⟩
 rintro _ w' ⟨rfl,hw⟩ _;have hw:=hw.symm;subst hw;refine aE.2 ?_;exact ⟨rfl,rfl⟩
theorem MM {w:Ω}:aD prog 94 #[i64 29] w λr w'=>r=i64 (2)/\w'=w:=by
 apply oL;unfold kJ;refine ⟨λv w'=>v=.bool false/\w'=w,?_,?_⟩
 ·simp only [aF,Int.reduceEq,decide_false,aA];exact ⟨trivial,trivial⟩
 rintro _ w' ⟨rfl,hw⟩ _;have hw:=hw.symm;subst hw;refine aA.2 ?_;refine ⟨λv w'=>v=.bool true/\w'=w,?_,?_⟩
 ·simp only [aF,Int.reduceEq,decide_false,decide_true,aA];exact ⟨trivial,trivial⟩
 rintro _ w' ⟨rfl,hw⟩ _;have hw:=hw.symm;subst hw;refine aE.2 ?_;exact ⟨rfl,rfl⟩
theorem ML {w:Ω}:aD prog 94 #[i64 30] w λr w'=>r=i64 (3)/\w'=w:=by
 apply oL;unfold kJ;refine ⟨λv w'=>v=.bool false/\w'=w,?_,?_⟩
 ·simp only [aF,Int.reduceEq,decide_false,aA];exact ⟨trivial,trivial⟩
 rintro _ w' ⟨rfl,hw⟩ _;have hw:=hw.symm;subst hw;refine aA.2 ?_;refine ⟨λv w'=>v=.bool false/\w'=w,?_,?_⟩
 ·simp only [aF,Int.reduceEq,decide_false,aA];exact ⟨trivial,trivial⟩
 rintro _ w' ⟨rfl,hw⟩ _;have hw:=hw.symm;subst hw;refine aA.2 ?_;refine ⟨λv w'=>v=.bool true/\w'=w,?_,?_⟩
 ·simp only [aF,Int.reduceEq,decide_false,decide_true,aE];exact ⟨trivial,trivial⟩
 rintro _ w' ⟨rfl,hw⟩ _;have hw:=hw.symm;subst hw;refine aE.2 ?_;exact ⟨rfl,rfl⟩
theorem MK {w:Ω}:aD prog 94 #[i64 31] w λr w'=>r=i64 (5)/\w'=w:=by
 apply oL;unfold kJ;refine ⟨λv w'=>v=.bool false/\w'=w,?_,?_⟩
 ·simp only [aF,Int.reduceEq,decide_false,aA];exact ⟨trivial,trivial⟩
 rintro _ w' ⟨rfl,hw⟩ _;have hw:=hw.symm;subst hw;refine aA.2 ?_;refine ⟨λv w'=>v=.bool false/\w'=w,?_,?_⟩
 ·simp only [aF,Int.reduceEq,decide_false,aA];exact ⟨trivial,trivial⟩
 rintro _ w' ⟨rfl,hw⟩ _;have hw:=hw.symm;subst hw;refine aA.2 ?_;refine ⟨λv w'=>v=.bool false/\w'=w,?_,?_⟩
 ·simp only [aF,Int.reduceEq,decide_false,aA];exact ⟨trivial,trivial⟩
 rintro _ w' ⟨rfl,hw⟩ _;have hw:=hw.symm;subst hw;refine aA.2 ?_;simp only [aF,Int.reduceEq,decide_false,decide_true,aA,aE];exact ⟨trivial,trivial⟩
theorem MJ {w:Ω}:aD prog 94 #[i64 32] w λr w'=>r=i64 (5)/\w'=w:=by
 apply oL;unfold kJ;refine ⟨λv w'=>v=.bool false/\w'=w,?_,?_⟩
 ·simp only [aF,Int.reduceEq,decide_false,aA];exact ⟨trivial,trivial⟩
 rintro _ w' ⟨rfl,hw⟩ _;have hw:=hw.symm;subst hw;refine aA.2 ?_;refine ⟨λv w'=>v=.bool false/\w'=w,?_,?_⟩
 ·simp only [aF,Int.reduceEq,decide_false,aA];exact ⟨trivial,trivial⟩
 rintro _ w' ⟨rfl,hw⟩ _;have hw:=hw.symm;subst hw;refine aA.2 ?_;refine ⟨λv w'=>v=.bool false/\w'=w,?_,?_⟩
 ·simp only [aF,Int.reduceEq,decide_false,aA];exact ⟨trivial,trivial⟩
 rintro _ w' ⟨rfl,hw⟩ _;have hw:=hw.symm;subst hw;refine aA.2 ?_;simp only [aF,Int.reduceEq,decide_false,decide_true,aA,aE];exact ⟨trivial,trivial⟩
theorem MH {w:Ω}:aD prog 94 #[i64 36] w λr w'=>r=i64 (3)/\w'=w:=by
 apply oL;unfold kJ;refine ⟨λv w'=>v=.bool false/\w'=w,?_,?_⟩
 ·simp only [aF,Int.reduceEq,decide_false,aA];exact ⟨trivial,trivial⟩
 rintro _ w' ⟨rfl,hw⟩ _;have hw:=hw.symm;subst hw;refine aA.2 ?_;refine ⟨λv w'=>v=.bool false/\w'=w,?_,?_⟩
 ·simp only [aF,Int.reduceEq,decide_false,aA];exact ⟨trivial,trivial⟩
 rintro _ w' ⟨rfl,hw⟩ _;have hw:=hw.symm;subst hw;refine aA.2 ?_;refine ⟨λv w'=>v=.bool true/\w'=w,?_,?_⟩
 ·simp only [aF,Int.reduceEq,decide_false,decide_true,aA];exact ⟨trivial,trivial⟩
 rintro _ w' ⟨rfl,hw⟩ _;have hw:=hw.symm;subst hw;refine aE.2 ?_;exact ⟨rfl,rfl⟩
theorem aCp {w:Ω}:aD prog 67 #[i64 17] w λr w'=>r=i64 (2)/\w'=w:=by
 apply pN;unfold mE;refine ⟨λv w'=>v=.bool false/\w'=w,?_,?_⟩
 ·simp only [aF,Int.reduceEq,decide_false,aA];exact ⟨trivial,trivial⟩
 rintro _ w' ⟨rfl,hw⟩ _;have hw:=hw.symm;subst hw;refine aA.2 ?_;refine ⟨λv w'=>v=.bool true/\w'=w,?_,?_⟩
 ·simp only [aF,Int.reduceEq,decide_false,decide_true,aA,aE];exact ⟨trivial,trivial⟩
 rintro _ w' ⟨rfl,hw⟩ _;have hw:=hw.symm;subst hw;refine aE.2 ?_;exact ⟨rfl,rfl⟩
theorem aCo {w:Ω}:aD prog 67 #[i64 18] w λr w'=>r=i64 (2)/\w'=w:=by
 apply pN;unfold mE;refine ⟨λv w'=>v=.bool false/\w'=w,?_,?_⟩
 ·simp only [aF,Int.reduceEq,decide_false,aA];exact ⟨trivial,trivial⟩
 rintro _ w' ⟨rfl,hw⟩ _;have hw:=hw.symm;subst hw;refine aA.2 ?_;refine ⟨λv w'=>v=.bool true/\w'=w,?_,?_⟩
 ·simp only [aF,Int.reduceEq,decide_false,decide_true,aA,aE];exact ⟨trivial,trivial⟩
 rintro _ w' ⟨rfl,hw⟩ _;have hw:=hw.symm;subst hw;refine aE.2 ?_;exact ⟨rfl,rfl⟩
theorem aCn {w:Ω}:aD prog 67 #[i64 27] w λr w'=>r=i64 (1)/\w'=w:=by
 apply pN;unfold mE;refine ⟨λv w'=>v=.bool true/\w'=w,?_,?_⟩
 ·simp only [aF,Int.reduceEq,decide_false,decide_true,aE];exact ⟨trivial,trivial⟩
 rintro _ w' ⟨rfl,hw⟩ _;have hw:=hw.symm;subst hw;refine aE.2 ?_;exact ⟨rfl,rfl⟩
theorem aCm {w:Ω}:aD prog 67 #[i64 28] w λr w'=>r=i64 (1)/\w'=w:=by
 apply pN;unfold mE;refine ⟨λv w'=>v=.bool true/\w'=w,?_,?_⟩
 ·simp only [aF,Int.reduceEq,decide_false,decide_true,aA];exact ⟨trivial,trivial⟩
 rintro _ w' ⟨rfl,hw⟩ _;have hw:=hw.symm;subst hw;refine aE.2 ?_;exact ⟨rfl,rfl⟩
theorem aCl {w:Ω}:aD prog 67 #[i64 29] w λr w'=>r=i64 (2)/\w'=w:=by
 apply pN;unfold mE;refine ⟨λv w'=>v=.bool false/\w'=w,?_,?_⟩
 ·simp only [aF,Int.reduceEq,decide_false,aA];exact ⟨trivial,trivial⟩
 rintro _ w' ⟨rfl,hw⟩ _;have hw:=hw.symm;subst hw;refine aA.2 ?_;refine ⟨λv w'=>v=.bool true/\w'=w,?_,?_⟩
 ·simp only [aF,Int.reduceEq,decide_false,decide_true,aA];exact ⟨trivial,trivial⟩
 rintro _ w' ⟨rfl,hw⟩ _;have hw:=hw.symm;subst hw;refine aE.2 ?_;exact ⟨rfl,rfl⟩
theorem aCk {w:Ω}:aD prog 67 #[i64 30] w λr w'=>r=i64 (3)/\w'=w:=by
 apply pN;unfold mE;refine ⟨λv w'=>v=.bool false/\w'=w,?_,?_⟩
 ·simp only [aF,Int.reduceEq,decide_false,aA];exact ⟨trivial,trivial⟩
 rintro _ w' ⟨rfl,hw⟩ _;have hw:=hw.symm;subst hw;refine aA.2 ?_;refine ⟨λv w'=>v=.bool false/\w'=w,?_,?_⟩
 ·simp only [aF,Int.reduceEq,decide_false,aA];exact ⟨trivial,trivial⟩
 rintro _ w' ⟨rfl,hw⟩ _;have hw:=hw.symm;subst hw;refine aA.2 ?_;refine ⟨λv w'=>v=.bool true/\w'=w,?_,?_⟩
 ·simp only [aF,Int.reduceEq,decide_false,decide_true,aE];exact ⟨trivial,trivial⟩
 rintro _ w' ⟨rfl,hw⟩ _;have hw:=hw.symm;subst hw;refine aE.2 ?_;exact ⟨rfl,rfl⟩
theorem aCj {w:Ω}:aD prog 67 #[i64 31] w λr w'=>r=i64 (5)/\w'=w:=by
 apply pN;unfold mE;refine ⟨λv w'=>v=.bool false/\w'=w,?_,?_⟩
 ·simp only [aF,Int.reduceEq,decide_false,aA];exact ⟨trivial,trivial⟩
 rintro _ w' ⟨rfl,hw⟩ _;have hw:=hw.symm;subst hw;refine aA.2 ?_;refine ⟨λv w'=>v=.bool false/\w'=w,?_,?_⟩
 ·simp only [aF,Int.reduceEq,decide_false,aA];exact ⟨trivial,trivial⟩
 rintro _ w' ⟨rfl,hw⟩ _;have hw:=hw.symm;subst hw;refine aA.2 ?_;refine ⟨λv w'=>v=.bool false/\w'=w,?_,?_⟩
 ·simp only [aF,Int.reduceEq,decide_false,aA];exact ⟨trivial,trivial⟩
 rintro _ w' ⟨rfl,hw⟩ _;have hw:=hw.symm;subst hw;refine aA.2 ?_;simp only [aF,Int.reduceEq,decide_false,decide_true,aA,aE];exact ⟨trivial,trivial⟩
theorem aCi {w:Ω}:aD prog 67 #[i64 32] w λr w'=>r=i64 (5)/\w'=w:=by
 apply pN;unfold mE;refine ⟨λv w'=>v=.bool false/\w'=w,?_,?_⟩
 ·simp only [aF,Int.reduceEq,decide_false,aA];exact ⟨trivial,trivial⟩
 rintro _ w' ⟨rfl,hw⟩ _;have hw:=hw.symm;subst hw;refine aA.2 ?_;refine ⟨λv w'=>v=.bool false/\w'=w,?_,?_⟩
 ·simp only [aF,Int.reduceEq,decide_false,aA];exact ⟨trivial,trivial⟩
 rintro _ w' ⟨rfl,hw⟩ _;have hw:=hw.symm;subst hw;refine aA.2 ?_;refine ⟨λv w'=>v=.bool false/\w'=w,?_,?_⟩
 ·simp only [aF,Int.reduceEq,decide_false,aA];exact ⟨trivial,trivial⟩
 rintro _ w' ⟨rfl,hw⟩ _;have hw:=hw.symm;subst hw;refine aA.2 ?_;simp only [aF,Int.reduceEq,decide_false,decide_true,aA,aE];exact ⟨trivial,trivial⟩
theorem aCh {w:Ω}:aD prog 67 #[i64 36] w λr w'=>r=i64 (3)/\w'=w:=by
 apply pN;unfold mE;refine ⟨λv w'=>v=.bool false/\w'=w,?_,?_⟩
 ·simp only [aF,Int.reduceEq,decide_false,aA];exact ⟨trivial,trivial⟩
 rintro _ w' ⟨rfl,hw⟩ _;have hw:=hw.symm;subst hw;refine aA.2 ?_;refine ⟨λv w'=>v=.bool false/\w'=w,?_,?_⟩
 ·simp only [aF,Int.reduceEq,decide_false,aA];exact ⟨trivial,trivial⟩
 rintro _ w' ⟨rfl,hw⟩ _;have hw:=hw.symm;subst hw;refine aA.2 ?_;refine ⟨λv w'=>v=.bool true/\w'=w,?_,?_⟩
 ·simp only [aF,Int.reduceEq,decide_false,decide_true,aA];exact ⟨trivial,trivial⟩
 rintro _ w' ⟨rfl,hw⟩ _;have hw:=hw.symm;subst hw;refine aE.2 ?_;exact ⟨rfl,rfl⟩
def gE (l:List Int):Prop:=∀ z∈l,-2147483648<=z/\z<=2147483647
def pU (s:PS) (a b:Int):AZ:=if b=0 then (0,28419,s) else (IntKind.i32.wrap (IntKind.i64.wrap (a.tdiv b)),36864,s)
def pT (s:PS) (a b:Int):AZ:=if b=0 then (0,28419,s) else (IntKind.i32.wrap (a.tmod b),36864,s)
theorem uE {P:Program} {w:Ω} {t:TypeId} {k:IntKind} {a b:Int} (h:b≠0):(binOp .rem t (.int k a) (.int k b)).run P w=.ok (.int k (a.tmod b)) w:=by simp [binOp,Op.intDiv,h]
theorem pY {z:Int} (h:-2147483648<=z/\z<=2147483647):IntKind.i64.wrap z=z:=aX (by omega)
theorem aOu {w:Ω} {a b:Int} (ha:-2147483648<=a/\a<=2147483647) (hb:-2147483648<=b/\b<=2147483647):aD prog 185 #[i32 a,i32 b] w λr w'=>r=.tuple #[i32 (if b=0 then 0 else IntKind.i32.wrap (IntKind.i64.wrap (a.tdiv b))),.bool (decide (b≠0))]/\w'=w:=by
 apply aId;unfold GY;refine aF.2 (aL (λh=>⟨by rw [if_pos h,decide_eq_false (λhn=>hn h)],rfl⟩) λh=>?_);refine V.ok (bG underlying21 underlying2) ?_;refine V.ok (bG underlying21 underlying2) ?_;rw [pY ha,pY hb];refine V.ok (EC h) (V.ok (bG underlying2 underlying21) ⟨by rw [if_neg h,decide_eq_true h],rfl⟩)
theorem aMy {w:Ω} {a b:Int} (ha:-2147483648<=a/\a<=2147483647) (hb:-2147483648<=b/\b<=2147483647):aD prog 186 #[i32 a,i32 b] w λr w'=>r=.tuple #[i32 (if b=0 then 0 else IntKind.i32.wrap (a.tmod b)),.bool (decide (b≠0))]/\w'=w:=by
 apply aIc;unfold GX;refine aF.2 (aL (λh=>⟨by rw [if_pos h,decide_eq_false (λhn=>hn h)],rfl⟩) λh=>?_);refine V.ok (bG underlying21 underlying2) ?_;refine V.ok (bG underlying21 underlying2) ?_;rw [pY ha,pY hb];refine V.ok (uE h) (V.ok (bG underlying2 underlying21) ⟨by rw [if_neg h,decide_eq_true h],rfl⟩)
theorem xP {w:Ω} {v:O} {ok:Bool}:aD prog 184 #[v,.bool ok] w λr w'=>r=(if ok then .tuple #[v,i64 36864] else .tuple #[i32 0,i64 28419])/\w'=w:=by
 apply aIe;unfold GZ;cases ok
 ·exact eJ.2 (aE.2 ⟨rfl,rfl⟩)
 ·exact eJ.2 (aA.2 ⟨rfl,rfl⟩)
def lC (p:RP):O:=.pointer (some ⟨p.rb,0,none⟩)
def rH (p:RP):O:=.pointer (some ⟨p.tb,0,none⟩)
theorem aMm {p:RP} {w:Ω} {who op sa sb k:Int} {av:O} {m:Nat} {cs:List O} (h:cA p w) (hxs:aC w av 1 m cs) (hsv:∀ {w:Ω},aD prog 94 #[i64 op] w λr w'=>r=i64 k/\w'=w) (hk:(m:Int)≠k) :
  aD prog 136 #[lC p,rH p,i64 who,i64 op,i64 sa,i64 sb,av] w λr w'=>yW p w (0,27013,p.ps) r w':=by
 apply vN;unfold mL;refine V.ok (iO underlying26) ?_;simp only [dZ];refine gD fM hxs ?_;refine hsv.mono λr w' ⟨hr,hw⟩=>?_;subst hr;have hw:=hw.symm;subst hw;refine aT.2 ?_;simp only [show decide ((m:Int)≠k)=true by simpa using hk,aH,Bool.false_eq_true,reduceIte];refine aE.2 ⟨p,rfl,rfl,h,nR.of_ext (aG.refl _)⟩
theorem lP {op:Int} {nn f:Nat} (hnn:nn<=5) (hsv:∀ {w:Ω},aD prog 94 #[i64 op] w λr w'=>r=i64 (nn:Int)/\w'=w) (hf:(op=27/\f=187)\/(op=28/\f=188)\/(op=29/\f=189)\/(op=30/\f=190)\/(op=31/\f=191)\/(op=32/\f=192)\/(op=36/\f=193)) {p:RP} {w:Ω} {who sa sb:Int} {av:O} {xs:List Int} (hxs:aC w av 1 nn (xs.map i32)) (hl:xs.length=nn) (hsm:gE xs) {Rr:O->Ω->Prop}
  (hk:∀ w1 av',aG w w1->w1.ownsRow w.heap.size 3 1 av' nn (xs.map i64)->aD prog f #[oO p who sa sb av'] w1 (λr w'=>∃ p q,r=.tuple #[p,q]/\Rr (.tuple #[p,q]) w')) :
  aD prog 136 #[lC p,rH p,i64 who,i64 op,i64 sa,i64 sb,av] w Rr:=by
 refine vN ?_
 have key:∀ {R:O->Ω->Prop},(∀ w1 av',aG w w1->w1.ownsRow w.heap.size 3 1 av' nn (xs.map i64)->aD prog f #[oO p who sa sb av'] w1 (λr w'=>∃ p q,r=.tuple #[p,q]/\R (.tuple #[p,q]) w'))->mL (lC p) (rH p) (i64 who) (i64 op) (i64 sa) (i64 sb) av w R:=by
  intro R hk;unfold mL;refine V.ok (iO underlying26) ?_;simp only [dZ];refine gD fM hxs ?_;refine hsv.mono λr w' ⟨hr,hw⟩=>?_;subst hr;have hw:=hw.symm;subst hw;refine aT.2 ?_;simp only [show decide (((nn:Nat):Int)≠(nn:Int))=false by simp,aH,Bool.false_eq_true,reduceIte];refine aA.2 ?_;refine bld LG [(0,lC p),(1,rH p),(2,i64 who),(3,i64 sa),(4,i64 sb)] rfl rfl ?_;refine zB JY rfl rfl λw1 hb1 x1=>?_;refine gD fM (hxs.ext x1) ?_
  refine ⟨λv w'=>∃ (i:Nat) (ov:O),v=i64 i/\i<=nn/\aG w w'/\aY w' w.heap.size [lC p,rH p,i64 who,i64 sa,i64 sb,ov] 283/\w'.ownsRow w.heap.size 3 1 ov i ((xs.take i).map i64)/\ov.ownBlock≠some w.heap.size,
   λv _=>nn - (RowKit.intOf v).toNat,⟨0,_,rfl,Nat.zero_le _,x1,hb1,by rw [List.take_zero];exact ⟨rfl,.inl ⟨rfl,rfl⟩⟩,λh=>by cases h⟩,?_⟩
  rintro _ w2 ⟨i,ov,rfl,hi,x2,hb2,ho2,hne2⟩ _;refine aV.2 (aL (λhlt=>?_) λhge=>?_)
  ·obtain ⟨z,hz⟩:=bQ (l:=xs) (j:=i) (by omega);have hzb:-2147483648<=z/\z<=2147483647:=hsm z (List.mem_of_getElem? hz);refine mH fM eU (hxs.ext x2) (by omega) (by omega) (by simp [hz]:(xs.map i32)[((i:Nat):Int).toNat]?=some (i32 z)) ?_;refine bB hb2.boxed bI aZ rfl ?_;refine V.ok (bG underlying21 underlying3) ?_;rw [aX (by omega)];refine kC bE [i64 z] rfl rfl (by simp) rfl λv3 w3 ho3 x3=>?_;have X3:=x2.trans x3;have hb3:=hb2.ext x3;refine apL bE (x3.own ho2) ho3 (by simp) (by simp [cB]) (by omega) (by unfold maxLen;omega) X3.size λg cap w4 ho4 hg4 hlies=>?_;have f4:Fr (λj=>ov.ownBlock=some j) w3 w4:=Fr.of_grown hg4 λk hk=>hk;have hb4:=f4.blk hb3 hne2;have hbl:=hb3.lt
   have hgne:g≠w.heap.size:=by
    rcases hlies with h|h
    ·intro he;exact hne2 (he▸h)
    ·omega
   refine yV bI iI hb4 rfl (by simp) rfl (bT.2 ?_);rw [aX (by omega),cS];have f5:Fr (λj=>j=w.heap.size) w4 (w4.setCell ⟨w.heap.size,5,none⟩ (.slice (some ⟨g,0,none⟩) (i+1) cap)):=Fr.of_set rfl;refine ⟨⟨i+1,_,rfl,by omega,f5.ext (f4.ext X3 λj hj=>(ho2.lt j hj).1) (λj hj=>by omega),hb4.set 5 _,?_,λhe=>hgne (by cases he;rfl)⟩,by simp only [aU];omega⟩;have:=f5.own ho4 λj hj he=>hgne (by cases hj;exact he);rw [List.take_add_one,hz];simpa using this
  ·have hin:i=nn:=by omega
   subst hin;rw [List.take_of_length_le (by omega)] at ho2;have fin:=hk w2 ov x2 ho2;rcases hf with ⟨rfl,rfl⟩|⟨rfl,rfl⟩|⟨rfl,rfl⟩|⟨rfl,rfl⟩|⟨rfl,rfl⟩|⟨rfl,rfl⟩|⟨rfl,rfl⟩ <;>
   ·simp only [aF,Int.reduceEq,decide_false,decide_true,aA,aE];refine oY hb2.boxed fY rfl ?_;refine fin.mono λr w3 ⟨p,q,hr,hR⟩=>?_;subst hr;exact cH.2 (cG.2 hR)
 exact key hk
theorem JW {p:RP} {w:Ω} {who sa sb a b:Int} {av:O} (h:cA p w) (hxs:aC w av 1 2 [i32 a,i32 b]) (hsm:gE [a,b]) :
  aD prog 136 #[lC p,rH p,i64 who,i64 17,i64 sa,i64 sb,av] w λr w'=>yW p w (pU p.ps a b) r w':=by
 refine vN ?_;have ha:-2147483648<=a/\a<=2147483647:=hsm a (by simp);have hb:-2147483648<=b/\b<=2147483647:=hsm b (by simp)
 have key:∀ {R:O->Ω->Prop},(∀ w',aG w w'->R (.tuple #[i32 (pU p.ps a b).1,i64 (pU p.ps a b).2.1]) w')->mL (lC p) (rH p) (i64 who) (i64 17) (i64 sa) (i64 sb) av w R:=by
  intro R hk;obtain ⟨xs,hxe⟩:∃ xs:List Int,xs=[a,b]:=⟨_,rfl⟩;have hxs:aC w av 1 2 (xs.map i32):=by rw [hxe];exact hxs
  have hl:xs.length=2:=by rw [hxe];rfl
  have hsm:gE xs:=by rw [hxe];exact hsm
  unfold mL;refine V.ok (iO underlying26) ?_;simp only [dZ];refine gD fM hxs ?_;refine MQ.mono λr w' ⟨hr,hw⟩=>?_;subst hr;have hw:=hw.symm;subst hw;refine aT.2 ?_;simp only [show decide (((2:Nat):Int)≠2)=false by decide,aH,Bool.false_eq_true,reduceIte];refine aA.2 ?_;refine bld LG [(0,lC p),(1,rH p),(2,i64 who),(3,i64 sa),(4,i64 sb)] rfl rfl ?_;refine zB JY rfl rfl λw1 hb1 x1=>?_;refine gD fM (hxs.ext x1) ?_
  refine ⟨λv w'=>∃ (i:Nat) (ov:O),v=i64 i/\i<=2/\aG w w'/\aY w' w.heap.size [lC p,rH p,i64 who,i64 sa,i64 sb,ov] 283/\w'.ownsRow w.heap.size 3 1 ov i ((xs.take i).map i64)/\ov.ownBlock≠some w.heap.size,
   λv _=>2 - (RowKit.intOf v).toNat,⟨0,_,rfl,Nat.zero_le _,x1,hb1,by rw [List.take_zero];exact ⟨rfl,.inl ⟨rfl,rfl⟩⟩,λh=>by cases h⟩,?_⟩
  rintro _ w2 ⟨i,ov,rfl,hi,x2,hb2,ho2,hne2⟩ _;refine aV.2 (aL (λhlt=>?_) λhge=>?_)
  ·obtain ⟨z,hz⟩:=bQ (l:=xs) (j:=i) (by omega);have hzb:-2147483648<=z/\z<=2147483647:=hsm z (List.mem_of_getElem? hz);refine mH fM eU (hxs.ext x2) (by omega) (by omega) (by simp [hz]:(xs.map i32)[((i:Nat):Int).toNat]?=some (i32 z)) ?_;refine bB hb2.boxed bI aZ rfl ?_;refine V.ok (bG underlying21 underlying3) ?_;rw [aX (by omega)];refine kC bE [i64 z] rfl rfl (by simp) rfl λv3 w3 ho3 x3=>?_;have X3:=x2.trans x3;have hb3:=hb2.ext x3;refine apL bE (x3.own ho2) ho3 (by simp) (by simp [cB]) (by omega) (by unfold maxLen;omega) X3.size λg cap w4 ho4 hg4 hlies=>?_;have f4:Fr (λj=>ov.ownBlock=some j) w3 w4:=Fr.of_grown hg4 λk hk=>hk;have hb4:=f4.blk hb3 hne2;have hbl:=hb3.lt
   have hgne:g≠w.heap.size:=by
    rcases hlies with h|h
    ·intro he;exact hne2 (he▸h)
    ·omega
   refine yV bI iI hb4 rfl (by simp) rfl (bT.2 ?_);rw [aX (by omega),cS];have f5:Fr (λj=>j=w.heap.size) w4 (w4.setCell ⟨w.heap.size,5,none⟩ (.slice (some ⟨g,0,none⟩) (i+1) cap)):=Fr.of_set rfl;refine ⟨⟨i+1,_,rfl,by omega,f5.ext (f4.ext X3 λj hj=>(ho2.lt j hj).1) (λj hj=>by omega),hb4.set 5 _,?_,λhe=>hgne (by cases he;rfl)⟩,by simp only [aU];omega⟩;have:=f5.own ho4 λj hj he=>hgne (by cases hj;exact he);rw [List.take_add_one,hz];simpa using this
  ·have hin:i=2:=by omega
   subst hin;simp only [aF,Int.reduceEq,decide_false,decide_true,aA,aE];have D2:aG w2 w2.drew:=(aG.refl _).drew;have hx2:=hxs.ext x2;have g0:(xs.map i32)[(0:Int).toNat]?=some (i32 a):=by rw [hxe];rfl
   have g1:(xs.map i32)[(1:Int).toNat]?=some (i32 b):=by rw [hxe];rfl
   refine aI.mk' (λw'=>aG w2 w') D2 ?_;refine gR fM eU hx2 (λw' hw=>hw) (by omega) (by omega) g0 ?_;refine gR fM eU hx2 (λw' hw=>hw) (by omega) (by omega) g1 ?_;refine (aOu ha hb).mono λr w3 ⟨hr,hw⟩=>?_;subst hr;have hw:=hw.symm;subst hw;refine ⟨D2,?_⟩;refine aB.ok (λw' _=>fQ) ?_;refine aB.ok (λw' _=>fP) ?_;refine xP.mono λr w3 ⟨hr,hw⟩=>?_;have hw:=hw.symm;subst hw;have hkk:=hk w2.drew (x2.trans D2);unfold pU at hkk;by_cases hb0:b=0
   ·rw [decide_eq_false (λhn=>hn hb0)] at hr;rw [if_pos hb0] at hkk;subst hr;refine ⟨D2,?_⟩;refine aB.ok (λw' _=>fQ) ?_;refine aB.ok (λw' _=>fP) ?_;exact hkk
   ·rw [decide_eq_true hb0,if_neg hb0] at hr;rw [if_neg hb0] at hkk;subst hr;refine ⟨D2,?_⟩;refine aB.ok (λw' _=>fQ) ?_;refine aB.ok (λw' _=>fP) ?_;exact hkk
 refine key λw' hx=>⟨p,rfl,?_,h.ext hx,nR.of_ext hx⟩;unfold pU;split<;>rfl
theorem JV {p:RP} {w:Ω} {who sa sb a b:Int} {av:O} (h:cA p w) (hxs:aC w av 1 2 [i32 a,i32 b]) (hsm:gE [a,b]) :
  aD prog 136 #[lC p,rH p,i64 who,i64 18,i64 sa,i64 sb,av] w λr w'=>yW p w (pT p.ps a b) r w':=by
 refine vN ?_;have ha:-2147483648<=a/\a<=2147483647:=hsm a (by simp);have hb:-2147483648<=b/\b<=2147483647:=hsm b (by simp)
 have key:∀ {R:O->Ω->Prop},(∀ w',aG w w'->R (.tuple #[i32 (pT p.ps a b).1,i64 (pT p.ps a b).2.1]) w')->mL (lC p) (rH p) (i64 who) (i64 18) (i64 sa) (i64 sb) av w R:=by
  intro R hk;obtain ⟨xs,hxe⟩:∃ xs:List Int,xs=[a,b]:=⟨_,rfl⟩;have hxs:aC w av 1 2 (xs.map i32):=by rw [hxe];exact hxs
  have hl:xs.length=2:=by rw [hxe];rfl
  have hsm:gE xs:=by rw [hxe];exact hsm
  unfold mL;refine V.ok (iO underlying26) ?_;simp only [dZ];refine gD fM hxs ?_;refine MP.mono λr w' ⟨hr,hw⟩=>?_;subst hr;have hw:=hw.symm;subst hw;refine aT.2 ?_;simp only [show decide (((2:Nat):Int)≠2)=false by decide,aH,Bool.false_eq_true,reduceIte];refine aA.2 ?_;refine bld LG [(0,lC p),(1,rH p),(2,i64 who),(3,i64 sa),(4,i64 sb)] rfl rfl ?_;refine zB JY rfl rfl λw1 hb1 x1=>?_;refine gD fM (hxs.ext x1) ?_
  refine ⟨λv w'=>∃ (i:Nat) (ov:O),v=i64 i/\i<=2/\aG w w'/\aY w' w.heap.size [lC p,rH p,i64 who,i64 sa,i64 sb,ov] 283/\w'.ownsRow w.heap.size 3 1 ov i ((xs.take i).map i64)/\ov.ownBlock≠some w.heap.size,
   λv _=>2 - (RowKit.intOf v).toNat,⟨0,_,rfl,Nat.zero_le _,x1,hb1,by rw [List.take_zero];exact ⟨rfl,.inl ⟨rfl,rfl⟩⟩,λh=>by cases h⟩,?_⟩
  rintro _ w2 ⟨i,ov,rfl,hi,x2,hb2,ho2,hne2⟩ _;refine aV.2 (aL (λhlt=>?_) λhge=>?_)
  ·obtain ⟨z,hz⟩:=bQ (l:=xs) (j:=i) (by omega);have hzb:-2147483648<=z/\z<=2147483647:=hsm z (List.mem_of_getElem? hz);refine mH fM eU (hxs.ext x2) (by omega) (by omega) (by simp [hz]:(xs.map i32)[((i:Nat):Int).toNat]?=some (i32 z)) ?_;refine bB hb2.boxed bI aZ rfl ?_;refine V.ok (bG underlying21 underlying3) ?_;rw [aX (by omega)];refine kC bE [i64 z] rfl rfl (by simp) rfl λv3 w3 ho3 x3=>?_;have X3:=x2.trans x3;have hb3:=hb2.ext x3;refine apL bE (x3.own ho2) ho3 (by simp) (by simp [cB]) (by omega) (by unfold maxLen;omega) X3.size λg cap w4 ho4 hg4 hlies=>?_;have f4:Fr (λj=>ov.ownBlock=some j) w3 w4:=Fr.of_grown hg4 λk hk=>hk;have hb4:=f4.blk hb3 hne2;have hbl:=hb3.lt
   have hgne:g≠w.heap.size:=by
    rcases hlies with h|h
    ·intro he;exact hne2 (he▸h)
    ·omega
   refine yV bI iI hb4 rfl (by simp) rfl (bT.2 ?_);rw [aX (by omega),cS];have f5:Fr (λj=>j=w.heap.size) w4 (w4.setCell ⟨w.heap.size,5,none⟩ (.slice (some ⟨g,0,none⟩) (i+1) cap)):=Fr.of_set rfl;refine ⟨⟨i+1,_,rfl,by omega,f5.ext (f4.ext X3 λj hj=>(ho2.lt j hj).1) (λj hj=>by omega),hb4.set 5 _,?_,λhe=>hgne (by cases he;rfl)⟩,by simp only [aU];omega⟩;have:=f5.own ho4 λj hj he=>hgne (by cases hj;exact he);rw [List.take_add_one,hz];simpa using this
  ·have hin:i=2:=by omega
   subst hin;simp only [aF,Int.reduceEq,decide_false,decide_true,aA,aE];have D2:aG w2 w2.drew:=(aG.refl _).drew;have hx2:=hxs.ext x2;have g0:(xs.map i32)[(0:Int).toNat]?=some (i32 a):=by rw [hxe];rfl
   have g1:(xs.map i32)[(1:Int).toNat]?=some (i32 b):=by rw [hxe];rfl
   refine aI.mk' (λw'=>aG w2 w') D2 ?_;refine gR fM eU hx2 (λw' hw=>hw) (by omega) (by omega) g0 ?_;refine gR fM eU hx2 (λw' hw=>hw) (by omega) (by omega) g1 ?_;refine (aMy ha hb).mono λr w3 ⟨hr,hw⟩=>?_;subst hr;have hw:=hw.symm;subst hw;refine ⟨D2,?_⟩;refine aB.ok (λw' _=>fQ) ?_;refine aB.ok (λw' _=>fP) ?_;refine xP.mono λr w3 ⟨hr,hw⟩=>?_;have hw:=hw.symm;subst hw;have hkk:=hk w2.drew (x2.trans D2);unfold pT at hkk;by_cases hb0:b=0
   ·rw [decide_eq_false (λhn=>hn hb0)] at hr;rw [if_pos hb0] at hkk;subst hr;refine ⟨D2,?_⟩;refine aB.ok (λw' _=>fQ) ?_;refine aB.ok (λw' _=>fP) ?_;exact hkk
   ·rw [decide_eq_true hb0,if_neg hb0] at hr;rw [if_neg hb0] at hkk;subst hr;refine ⟨D2,?_⟩;refine aB.ok (λw' _=>fQ) ?_;refine aB.ok (λw' _=>fP) ?_;exact hkk
 refine key λw' hx=>⟨p,rfl,?_,h.ext hx,nR.of_ext hx⟩;unfold pT;split<;>rfl
section
variable {p:RP} {w w':Ω}
theorem wG {ar:List bS} {k:Nat} {x:bS} (hk:ar[k]?=some x) (v':O) (d':List Int):iD (ar.set k { x with dv:=v',data:=d' })=(iD ar).set (k*5+4) v':=by
 have hkl:k < ar.length:=(List.getElem?_eq_some_iff.1 hk).1;apply List.ext_getElem?;intro j;by_cases hj:j < ar.length*5
 ·obtain ⟨a,ha⟩:=bQ (l:=ar) (j:=j / 5) (by omega);have e:j=j / 5*5+j % 5:=by omega
  have hm:j % 5 < 5:=Nat.mod_lt _ (by decide);by_cases hjk:k=j / 5
  ·have h1:(ar.set k { x with dv:=v',data:=d' })[j / 5]?=some { x with dv:=v',data:=d' }:=by rw [<- hjk,List.getElem?_set_self hkl]
   have hL:(iD (ar.set k { x with dv:=v',data:=d' }))[j]?=({ x with dv:=v',data:=d' }:bS).cells[j % 5]?:=by
    have:=iS h1 hm
    rwa [<- e] at this
   rw [hL];by_cases h4:k*5+4=j
   ·have:j % 5=4:=by omega
    rw [<- h4,List.getElem?_set_self (by rw [qD];omega),h4,this];rfl
   ·rw [List.getElem?_set_ne h4]
    have hR:(iD ar)[j]?=x.cells[j % 5]?:=by
     have:=iS (ar:=ar) (k:=j / 5) (a:=x) (j:=j % 5) (by rw [<- hjk];exact hk) hm
     rwa [<- e] at this
    rw [hR];have h5:j % 5=0\/j % 5=1\/j % 5=2\/j % 5=3:=by omega
    rcases h5 with h5|h5|h5|h5<;>rw [h5]<;>rfl
  ·have h1:(ar.set k { x with dv:=v',data:=d' })[j / 5]?=some a:=by rw [List.getElem?_set_ne hjk];exact ha
   have hL:=iS h1 hm;have hR:=iS ha hm;rw [<- e] at hL hR;rw [hL,List.getElem?_set_ne (by omega),hR]
 ·rw [List.getElem?_eq_none (by rw [qD];simp;omega),List.getElem?_eq_none (by simp [qD];omega)]
theorem uY {P:Program} {t e:TypeId} {z:O} {by_:Nat} (ht:P.underlying t=some (.slice e)) (hi:cP P e z 1 by_) {ty:TypeId} {a b:Option Addr} {n c d:Nat} (hn:n<=c) :
  (Builtin.append_ #[t,t] ty #[.slice a n c,.slice b 0 d]).run P w=.ok (.slice a n c) w:=by
 obtain ⟨i,hi',_,_,_⟩:=info_parts hi;have h0:(Builtin.firstCells i.size 0 (.slice b 0 d)).run P w=.ok #[] w:=by cases b<;>simp [Builtin.firstCells,loadCells,loadCellsFrom]
 cases a<;>simp [Builtin.append_,run_underlying ht,sizeOf,typeInfo,hi',Builtin.lenOf,hn,h0,storeCells]
theorem SH {v:O} {l:List Int} (h:gY w v l) (hl:l.length<=4294967296):aD prog 58 #[v] w λr w'=>w'.ownsRow w.heap.size 5 1 r l.length (l.map u8)/\aG w w':=by
 rcases h with ⟨rfl,rfl⟩|⟨ad,c,rfl,hb⟩
 ·exact xR (l:=[]) (aC.nil _ _) (by simp)
 ·by_cases h0:0 < l.length
  ·exact xR (hb h0) hl
  ·have hl0:l=[]:=List.eq_nil_of_length_eq_zero (by omega);subst hl0;apply XO;unfold CS;refine V.ok (kT underlying23) (aA.2 ?_);refine kC lD [] rfl rfl (by simp) rfl λv1 w1 ho x1=>?_;obtain ⟨a,c1,rfl⟩:=(aC.of_own ho).shape;refine V.ok (uY underlying23 mM (Nat.zero_le _)) ⟨ho,x1⟩
theorem gY.shape {v:O} {l:List Int} (h:gY w v l):∃ a c,v=.slice a l.length c:=by
 rcases h with ⟨rfl,rfl⟩|⟨ad,c,rfl,_⟩
 ·exact ⟨none,0,rfl⟩
 ·exact ⟨_,_,rfl⟩
def jO (s:PS) (a b:List Int):Bool × PS:=if a.length > 64\/b.length > 64 then (false,s) else (true,{ s with ar:=DU (DU s.ar 1 a) 2 b,tp:=[],ts:=[] })
theorem uA {ar:List bS} {r:Int} {k:Nat} {x:bS} (hk:ar[k]?=some x) (hr:r=(k:Int)+1) (v':O) (d:List Int):(ar.set k { x with dv:=v',data:=d }).map pa=DU (ar.map pa) r d:=by
 unfold DU;rw [List.getElem?_map,show r.toNat - 1=k by omega,hk,map_set];rfl
end
structure QP where
 (xb yb ub g cap:Nat) (size:Int) (ar:List bS) (iv fv pub sec uv:O) (tp ts:List Int) (tr:List vC)
def QP.ps (q:QP):PS:=⟨q.size,q.ar.map pa,q.tp,q.ts,q.tr⟩
def nO (q:QP) (i:Nat):Prop:=i=q.xb\/i=q.yb\/i=q.ub\/q.uv.ownBlock=some i
def CJ (q:QP) (i:Nat):Prop:=i=q.g\/(∃ a∈q.ar,a.dv.ownBlock=some i)\/q.pub.ownBlock=some i\/q.sec.ownBlock=some i
structure dE (q:QP) (w:Ω):Prop where
 xbox:lM w q.xb 0 [.pointer (some ⟨q.yb,0,none⟩),q.iv,q.fv,q.pub,q.sec]
 ybox:aY w q.yb [i64 q.size,.slice (some ⟨q.g,0,none⟩) q.ar.length q.cap] 156
 ubox:aY w q.ub [q.uv] 66
 list:w.ownsRow 0 127 5 (.slice (some ⟨q.g,0,none⟩) q.ar.length q.cap) q.ar.length (iD q.ar)
 data:∀ a∈q.ar,w.ownsRow 0 5 1 a.dv a.data.length (a.data.map u8)
 len:∀ a∈q.ar,a.data.length<=64
 qp:w.ownsRow 0 5 1 q.pub q.tp.length (q.tp.map u8)
 qs:w.ownsRow 0 5 1 q.sec q.ts.length (q.ts.map u8)
 lp:q.tp.length<=128
 ls:q.ts.length<=128
 trow:w.ownsRow 0 54 4 q.uv q.tr.length (oM q.tr)
 xy:q.xb≠q.yb
 xu:q.xb≠q.ub
 yu:q.yb≠q.ub
 une:∀ i,q.uv.ownBlock=some i->i≠q.xb/\i≠q.yb/\i≠q.ub
 dj:∀ i,nO q i->¬ CJ q i
 two:2<=q.ar.length
 cnt:q.ar.length<=1000
 sz:0<=q.size/\q.size<=1000
variable {q:QP} {w w':Ω}
theorem dE.hi (h:dE q w):∀ i,nO q i\/CJ q i->i < w.heap.size:=by
 intro i hm;rcases hm with (rfl|rfl|rfl|he)|rfl|⟨a,ha,he⟩|he|he
 ·exact h.xbox.lt
 ·exact h.ybox.lt
 ·exact h.ubox.lt
 ·exact (h.trow.lt _ he).2
 ·exact (h.list.lt _ rfl).2
 ·exact ((h.data a ha).lt _ he).2
 ·exact (h.qp.lt _ he).2
 ·exact (h.qs.lt _ he).2
theorem dE.fr {S:Nat->Prop} (h:dE q w) (f:Fr S w w') (hn:∀ i,S i->¬ nO q i/\¬ CJ q i):dE q w':=
 ⟨f.seg h.xbox λhs=>(hn _ hs).1 (.inl rfl),f.blk h.ybox λhs=>(hn _ hs).1 (.inr (.inl rfl)),f.blk h.ubox λhs=>(hn _ hs).1 (.inr (.inr (.inl rfl))),
  f.own h.list λi hi hs=>(hn i hs).2 (.inl (by simpa [Value.ownBlock] using hi.symm)),λa ha=>f.own (h.data a ha) λi hi hs=>(hn i hs).2 (.inr (.inl ⟨a,ha,hi⟩)),h.len,
  f.own h.qp λi hi hs=>(hn i hs).2 (.inr (.inr (.inl hi))),f.own h.qs λi hi hs=>(hn i hs).2 (.inr (.inr (.inr hi))),h.lp,h.ls,f.own h.trow λi hi hs=>(hn i hs).1 (.inr (.inr (.inr hi))),h.xy,h.xu,h.yu,h.une,h.dj,h.two,h.cnt,h.sz⟩
theorem dE.ext (h:dE q w) (hx:aG w w'):dE q w':=h.fr (Fr.of_ext (S:=λ_=>False) hx) λ_ hf=>hf.elim
structure mK (q q':QP) (w w':Ω):Prop where
 xb:q'.xb=q.xb
 yb:q'.yb=q.yb
 ub:q'.ub=q.ub
 size:q'.size=q.size
 iv:q'.iv=q.iv
 fv:q'.fv=q.fv
 mu:∀ i,nO q' i\/CJ q' i->nO q i\/CJ q i\/w.heap.size<=i
 mm:∀ i,nO q' i->nO q i\/w.heap.size<=i
 fr:Fr (nO q) w w'
theorem mK.of_ext (hx:aG w w'):mK q q w w':=⟨rfl,rfl,rfl,rfl,rfl,rfl,λ_ hi=>hi.elim .inl λh=>.inr (.inl h),λ_ hi=>.inl hi,Fr.of_ext hx⟩
theorem mK.trans {q1 q2:QP} {w1 w2:Ω} (h:mK q q1 w w1) (k:mK q1 q2 w1 w2):mK q q2 w w2:=
 ⟨k.xb.trans h.xb,k.yb.trans h.yb,k.ub.trans h.ub,k.size.trans h.size,k.iv.trans h.iv,k.fv.trans h.fv,λi hi=>by
  rcases k.mu i hi with h1|h1|h1
  ·exact h.mu i (.inl h1)
  ·exact h.mu i (.inr h1)
  ·exact .inr (.inr (Nat.le_trans h.fr.size h1)),λi hi=>by
  rcases k.mm i hi with h1|h1
  ·exact h.mm i h1
  ·exact .inr (Nat.le_trans h.fr.size h1),h.fr.trans k.fr λi hi hs=>by
  rcases h.mm i hs with h1|h1
  ·exact h1
  ·omega⟩
def LY (q:QP):O:=.pointer (some ⟨q.yb,0,none⟩)
def rG (q:QP):O:=.pointer (some ⟨q.xb,0,none⟩)
def ubT (q:QP):O:=.pointer (some ⟨q.ub,0,none⟩)
theorem dE.get (h:dE q w) {k:Nat} {a:bS} (hk:q.ar[k]?=some a) {j:Nat} (hj:j < 5):w.cell? ⟨q.g,k*5+j,none⟩=a.cells[j]?:=by
 obtain ⟨u,hu⟩:=bQ (l:=a.cells) (j:=j) (by simp [bS.cells];omega);have:=h.list.cells (g:=q.g) rfl (k*5+j) u (by rw [iS hk hj];exact hu);rw [fL] at this;rw [hu];simpa using this
theorem dE.one (h:dE q w) {k:Nat} {a:bS} (hk:q.ar[k]?=some a):cB a.dv=true:=bR (h.data a (List.mem_of_getElem? hk))
theorem CF (h:dE q w) {k:Nat} {x:bS} (hk:q.ar[k]?=some x) {r:Int} (hr:r=(k:Int)+1) :
  aD prog 105 #[LY q,i64 r] w λv w'=>v=.tuple #[.agg x.cells.toArray,.bool true]/\aG w w':=by
 have hkl:k < q.ar.length:=(List.getElem?_eq_some_iff.1 hk).1;have hc:=h.cnt;apply QF;unfold tV;refine LN eX λw1 hz x1=>?_;refine aV.2 ?_;simp only [show ¬ r < 1 by omega,dZ,aH,reduceIte,Bool.false_eq_true,decide_false];refine ⟨.inl ⟨_,rfl⟩,?_⟩;refine bB (h.ybox.ext x1).boxed bW cM rfl (lA.2 ?_);simp only [show ¬ r > ((q.ar.length:Nat):Int) by omega,cX,aA,decide_false];refine ⟨.inl ⟨_,rfl⟩,?_⟩;refine bB (h.ybox.ext x1).boxed bW cM rfl (iJ.2 ?_);rw [show IntKind.i64.wrap (r - 1)=(k:Int) from by rw [aX (by omega)];omega];refine V.ok (nG (by omega) (by omega)) ?_;have e:0+((k:Nat):Int).toNat*5=k*5:=by omega
 rw [e];refine V.ok (wJ (cs:=x.cells) rfl λj hj=>(h.ext x1).get hk hj) ?_;refine DS eX hz (l:=x.cells) rfl rfl rfl (gF (h.one hk)) λw6 h6 hch=>?_;exact ⟨_,rJ underlying127 rfl eX h6 rfl,⟨_,rfl⟩,rfl,hch.ext w x1 (Nat.le_refl _)⟩
theorem aEk (h:dE q w) {r:Int} (hr:¬ (1<=r/\r<=q.ar.length)) :
  aD prog 105 #[LY q,i64 r] w λv w'=>v=.tuple #[.agg WW.cells.toArray,.bool false]/\aG w w':=by
 apply QF
 have key:∀ {R:O->Ω->Prop},(∀ w',aG w w'->R (.tuple #[.agg WW.cells.toArray,.bool false]) w')->tV (LY q) (i64 r) w R:=by
  intro R hR;unfold tV;refine LN eX λw1 hz x1=>?_
  have fin:V prog (Instr.build 127 #[]) w1 λt17 w11=>U prog (Instr.storeAt 127 (.pointer (some ⟨w.heap.size,0,none⟩)) t17) w11 λ_ w12=>
    ∃ r1,(loadVar 127 (match (Value.pointer (some ⟨w.heap.size,0,none⟩)) with|.pointer (some p)=>p|_=>⟨0,0,none⟩)).run prog w12=.ok r1 w12/\(∃ p,(Value.pointer (some ⟨w.heap.size,0,none⟩))=Value.pointer (some p))/\R (.tuple #[r1,(Value.bool false)]) w12:=by
   refine bld kZ [] rfl rfl ?_;refine DS eX hz (l:=WW.cells) rfl rfl rfl rfl λw6 h6 hch=>?_;exact ⟨_,rJ underlying127 rfl eX h6 rfl,⟨_,rfl⟩,hR _ (hch.ext w x1 (Nat.le_refl _))⟩
  refine aV.2 ?_;by_cases h1:r < 1
  ·simp only [h1,jJ,aH,aE,reduceIte,decide_true];exact fin
  simp only [h1,dZ,aH,reduceIte,Bool.false_eq_true,decide_false];refine ⟨.inl ⟨_,rfl⟩,?_⟩;refine bB (h.ybox.ext x1).boxed bW cM rfl (lA.2 ?_);simp only [show r > ((q.ar.length:Nat):Int) by omega,cX,aE,decide_true];exact fin
 exact key λw' hx=>⟨rfl,hx⟩
theorem aDl {a:bS} {who:Int}:aD prog 141 #[.agg a.cells.toArray,i64 who] w λr w'=>r=.bool (pF a who)/\aG w w':=by
 apply aJo;unfold IG;refine bx λb w1 hb x1=>?_;refine bB hb dJ aJ rfl (aF.2 ?_);by_cases h1:a.owner=-1
 ·simp only [h1,jJ,aH,reduceIte,decide_true];exact ⟨by simp [pF,h1],x1⟩
 simp only [h1,dZ,aH,reduceIte,Bool.false_eq_true,decide_false];refine bB hb dJ aJ rfl (aF.2 ?_);by_cases h2:a.owner=who
 ·simp only [h2,jJ,aH,reduceIte,decide_true];exact ⟨by simp [pF,h2],x1⟩
 simp only [h2,dZ,aH,reduceIte,Bool.false_eq_true,decide_false];refine bB hb eF mU rfl ?_;exact ⟨by simp [pF,h1,h2],x1⟩
theorem AK (h:dE q w) {r who:Int} :
  aD prog 104 #[LY q,i64 r,i64 who] w λv w'=>v=i64 (DG q.ar r who)/\aG w w':=by
 apply aKr;unfold JG;by_cases h1:1<=r/\r<=q.ar.length
 ·obtain ⟨k,a,hk,hr⟩:=KA h1;refine (CF h hk hr).mono λv w1 ⟨hv,x1⟩=>?_;subst hv;refine cH.2 (cG.2 ?_);refine zB oC rfl (gF (h.one hk)) λw2 hc x2=>?_;refine eJ.2 (aA.2 ?_);refine oY hc.boxed KJ rfl ?_;refine aDl.mono λv w3 ⟨hv,x3⟩=>?_;subst hv;have X:=(x1.trans x2).trans x3;rw [LC hk hr];refine eJ.2 (aO.mk (λhn=>⟨?_,X⟩) λhn=>⟨?_,X⟩)
  ·have:pF a who=false:=by simpa using hn
   rw [if_neg (by rw [this];simp)]
  ·have:pF a who=true:=by simpa using hn
   rw [if_pos this]
 ·refine (aEk h h1).mono λv w1 ⟨hv,x1⟩=>?_;subst hv;refine cH.2 (cG.2 ?_);refine zB oC rfl rfl λw2 hc x2=>?_;refine eJ.2 (aE.2 ⟨?_,x1.trans x2⟩);unfold DG;rw [if_neg h1]
theorem kN (h:dE q w) {r a n who:Int} :
  aD prog 106 #[LY q,i64 r,i64 a,i64 n,i64 who] w λv w'=>v=i64 (gS (q.ar.map pa) r a n who)/\aG w w':=by
 rw [<- jB];apply aKq;unfold JF;refine (AK h).mono λv w1 ⟨hv,x1⟩=>?_;subst hv;refine aT.2 (aL (λhne=>?_) λhfine=>?_)
 ·refine ⟨?_,x1⟩;unfold BG;rw [if_neg hne]
 have hfine':DG q.ar r who=36864:=by omega
 obtain ⟨k,x,hk,hr,hm⟩:=qQ hfine';have hxl:=h.len x (List.mem_of_getElem? hk)
 have er:BG q.ar r a n who=if a < 0\/n < 0\/a > x.data.length\/n > x.data.length - a then 28418 else 36864:=by
  unfold BG;rw [if_pos hfine',show r.toNat - 1=k by omega,hk]
 rw [er];refine (CF (h.ext x1) hk hr).mono λv w2 ⟨hv,x2⟩=>?_;subst hv;refine cH.2 (cG.2 ?_);refine zB oC rfl (gF (h.one hk)) λw3 hc x3=>?_;have X:=(x1.trans x2).trans x3;have hs:=aC.of_own (X.own (h.data x (List.mem_of_getElem? hk)));refine aV.2 ?_;by_cases h1:a < 0
 ·simp only [h1,jJ,aH,aE,reduceIte,decide_true];exact ⟨by rw [if_pos (.inl trivial)],X⟩
 simp only [h1,aV,dZ,aH,reduceIte,Bool.false_eq_true,decide_false];by_cases h2:n < 0
 ·simp only [h2,jJ,aH,aE,reduceIte,decide_true];exact ⟨by rw [if_pos (.inr (.inl trivial))],X⟩
 simp only [h2,dZ,reduceIte,Bool.false_eq_true,decide_false];refine bB hc.boxed bO gJ rfl ?_;refine gD iH hs (cX.2 ?_);by_cases h3:a > ((x.data.length:Nat):Int)
 ·simp only [h3,jJ,aH,aE,reduceIte,decide_true];exact ⟨by rw [if_pos (.inr (.inr (.inl trivial)))],X⟩
 simp only [h3,dZ,aH,reduceIte,Bool.false_eq_true,decide_false];refine bB hc.boxed bO gJ rfl (gD iH hs (iJ.2 ?_));rw [aX (by omega)];by_cases h4:n > ((x.data.length:Nat):Int) - a
 ·simp only [h4,cX,aE,decide_true];exact ⟨by simp,X⟩
 simp only [h4,cX,aA,decide_false];exact ⟨by simp,X⟩
theorem DL (h:dE q w):aD prog 140 #[LY q] w λv w'=>(v=i64 ((gA (q.ar.map pa):Nat):Int)/\gA (q.ar.map pa)<=72*(q.ar.length - 2))/\w'=w:=by
 apply aJp;unfold IH;have hc:=h.cnt;have h2:=h.two;refine ⟨λv v' w'=>∃ z i:Nat,v=i64 (z:Int)/\v'=i64 ((i+2:Nat):Int)/\i<=q.ar.length - 2/\z<=72*i/\z=DN (q.ar.map pa) i/\w'=w,λ_ v _=>q.ar.length - (RowKit.intOf v).toNat,⟨0,0,rfl,rfl,Nat.zero_le _,Nat.le_refl _,rfl,rfl⟩,?_⟩;rintro _ _ w1 ⟨z,i,rfl,rfl,hi,hz2,hz,hw⟩ _;have hw:=hw.symm;subst hw;refine ⟨.inl ⟨_,rfl⟩,?_⟩;refine bB h.ybox.boxed bW cM rfl (lA.2 ?_);refine aV.2 (aL (λhlt=>?_) λhge=>?_)
 ·obtain ⟨a,ha⟩:=bQ (l:=q.ar) (j:=i+2) (by omega);have hal:=h.len a (List.mem_of_getElem? ha);have ho:=h.data a (List.mem_of_getElem? ha);refine bT.2 ?_;rw [aX (by omega)];refine ⟨.inl ⟨_,rfl⟩,?_⟩;refine bB h.ybox.boxed bW cM rfl ?_;refine V.ok (nG (by omega) (by omega)) ?_;have e:0+((i+2:Nat):Int).toNat*5=(i+2)*5:=by omega
  rw [e];refine V.ok iN ?_;refine V.ok (jG (h.get ha (by omega:4 < 5))) ?_;refine gD iH (aC.of_own ho) ?_;refine bT.2 ?_;rw [aX (by omega)];refine bT.2 ?_;rw [aX (by omega)];exact ⟨⟨z+(8+a.data.length),i+1,by congr 1;omega,by congr 1,by omega,by omega,by rw [zE ha,hz],rfl⟩,by simp only [RowKit.intOf];omega⟩
 ·have e:i=q.ar.length - 2:=by omega
  have e2:gA (q.ar.map pa)=z:=by unfold gA;rw [List.length_map,<- e,hz]
  rw [e2];exact ⟨⟨rfl,by omega⟩,rfl⟩
theorem TH (h:dE q w) (hl:q.tr.length<=100000) {e:vC}:aD prog 61 #[ubT q,.agg e.cells.toArray] w λ_ w'=>
  ∃ uv',dE { q with uv:=uv',tr:=q.tr++[e] } w'/\mK q { q with uv:=uv',tr:=q.tr++[e] } w w':=by
 apply aQs;unfold OZ;refine sO λw0 hb0 x0=>?_;have h0:=h.ext x0;refine V.ok (zL underlying62) ?_;simp only [FI];refine ⟨.inl ⟨_,rfl⟩,?_⟩;refine bB h0.ubox.boxed kX tG rfl (gD LZ (aC.of_own h0.trow) (aV.2 ?_));simp only [show ((q.tr.length:Nat):Int) < 200000 by omega,decide_true,aH,reduceIte];refine aE.2 ?_;have D:aG w0 w0.drew:=(aG.refl _).drew;have s0:=x0.size;have hub:∀ i,q.uv.ownBlock=some i->i < w.heap.size:=λi hi=>h.hi i (.inl (.inr (.inr (.inr hi))));have hnb:¬ q.uv.ownBlock=some w.heap.size:=λhe=>by have:=hub _ he;omega
 have hnu:¬ q.uv.ownBlock=some q.ub:=λhe=>(h.une _ he).2.2 rfl;refine aI.mk' (λw'=>Fr (λi=>q.uv.ownBlock=some i) w0 w') (Fr.of_ext D) ⟨.inl ⟨_,rfl⟩,?_⟩;refine dU (λw' hw=>(hw.blk h0.ubox hnu).boxed) kX tG rfl ?_;refine yA (λw' hw=>(hw.blk hb0 hnb).boxed) aLh rfl ?_;refine V.ok (v:=.slice (some ⟨w0.drew.heap.size,0,none⟩) 1 1) (w':=w0.drew.alloc (.cells e.cells.toArray 54)) (by kernel_rfl) ?_;have hb1:aY (w0.drew.alloc (.cells e.cells.toArray 54)) w0.drew.heap.size e.cells 54:=by unfold aY;rw [heap_alloc_new]
 have x1:aG w0.drew (w0.drew.alloc (.cells e.cells.toArray 54)):=(aG.refl _).alloc _;have d0:=D.size;have hdz:w0.drew.heap.size=w0.heap.size:=rfl;generalize w0.drew.alloc (.cells e.cells.toArray 54)=w1 at hb1 x1 ⊢;have X1:=D.trans x1;have s1:=X1.size;refine ⟨Fr.of_ext X1,?_⟩;have ho1:w1.ownsRow 0 54 4 (.slice (some ⟨w0.drew.heap.size,0,none⟩) 1 1) 1 e.cells:=dX hb1 rfl (Nat.zero_le _) (by unfold maxLen;omega);have h1:=h0.ext X1;refine apZ underlying50 EX rfl (by omega) h1.trow ho1 (by omega) (by rfl) (by omega) (by unfold maxLen;omega) (by omega) λg' cap' w2 ho2 hg2 hlies=>?_;have f2:Fr (λi=>q.uv.ownBlock=some i) w1 w2:=Fr.of_grown hg2 λk hk=>hk;have f02:Fr (λi=>q.uv.ownBlock=some i) w0 w2:=(Fr.of_ext (S:=λi=>q.uv.ownBlock=some i) X1).trans f2 λ_ _ h=>h;refine ⟨f02,.inl ⟨_,rfl⟩,?_⟩;refine aB.ok (λw' _=>RA) ?_;have hb2:=f02.blk h0.ubox hnu;have hul:=h.ubox.lt;refine sT AD hb2 rfl (by simp) rfl ?_;have f3:Fr (λi=>i=q.ub) w2 (w2.setCell ⟨q.ub,0,none⟩ (.slice (some ⟨g',0,none⟩) (q.tr.length+1) cap')):=Fr.of_set rfl;have hb3:=hb2.set 0 (.slice (some ⟨g',0,none⟩) (q.tr.length+1) cap')
 have hlie:q.uv.ownBlock=some g'\/w.heap.size<=g':=by
  rcases hlies with hl|hl
  ·exact .inl hl
  ·exact .inr (by omega)
 have hgu:¬ g'=q.ub:=λhe=>by
  rcases hlie with hl|hl
  ·exact hnu (he▸hl)
  ·omega
 have ho3:=f3.own ho2 λk hk=>by
  have:g'=k:=by simpa [Value.ownBlock] using hk
  omega
 generalize w2.setCell ⟨q.ub,0,none⟩ (.slice (some ⟨g',0,none⟩) (q.tr.length+1) cap')=w3 at f3 hb3 ho3 ⊢;have F:Fr (λi=>i=q.ub\/q.uv.ownBlock=some i) w w3:=((Fr.of_ext (S:=λi=>q.uv.ownBlock=some i) x0).trans f02 λ_ _ h=>h).or f3 |>.mono λi hi=>hi.symm;have hM:∀ i,(i=q.ub\/q.uv.ownBlock=some i)->nO q i:=λi hi=>hi.elim (λh=>.inr (.inr (.inl h))) λh=>.inr (.inr (.inr h));have hC:∀ i,(i=q.ub\/q.uv.ownBlock=some i)->¬ CJ q i:=λi hi=>h.dj i (hM i hi);have hx:¬ (q.xb=q.ub\/q.uv.ownBlock=some q.xb):=λhi=>hi.elim h.xu λe=>(h.une _ e).1 rfl;have hy:¬ (q.yb=q.ub\/q.uv.ownBlock=some q.yb):=λhi=>hi.elim h.yu λe=>(h.une _ e).2.1 rfl;have hxl:=h.xbox.lt;have hyl:=h.ybox.lt
 have mm:∀ i,nO { q with uv:=.slice (some ⟨g',0,none⟩) (q.tr.length+1) cap',tr:=q.tr++[e] } i->nO q i\/w.heap.size<=i:=λi hi=>by
  rcases hi with hi|hi|hi|hi
  ·exact .inl (.inl hi)
  ·exact .inl (.inr (.inl hi))
  ·exact .inl (.inr (.inr (.inl hi)))
  ·have:g'=i:=by simpa [Value.ownBlock] using hi
   subst this;exact hlie.imp (λh=>.inr (.inr (.inr h))) id
 refine ⟨.slice (some ⟨g',0,none⟩) (q.tr.length+1) cap',⟨F.seg h.xbox hx,F.blk h.ybox hy,hb3,F.own h.list λi hi hs=>hC i hs (.inl (by simpa [Value.ownBlock] using hi.symm)),λa ha=>F.own (h.data a ha) λi hi hs=>hC i hs (.inr (.inl ⟨a,ha,hi⟩)),h.len,F.own h.qp λi hi hs=>hC i hs (.inr (.inr (.inl hi))),F.own h.qs λi hi hs=>hC i hs (.inr (.inr (.inr hi))),h.lp,h.ls,?_,h.xy,h.xu,h.yu,λi hi=>?_,λi hi hc=>?_,h.two,h.cnt,h.sz⟩,⟨rfl,rfl,rfl,rfl,rfl,rfl,λi hi=>?_,mm,F.mono hM⟩⟩
 ·show w3.ownsRow 0 54 4 (.slice (some ⟨g',0,none⟩) (q.tr.length+1) cap') (q.tr++[e]).length (oM (q.tr++[e]));rw [MG,List.length_append];have:oM [e]=e.cells:=by simp [oM]
  rw [this];exact ho3
 ·have hgi:g'=i:=by simpa [Value.ownBlock] using hi
  subst hgi;rcases hlie with hl|hl
  ·exact h.une _ hl
  ·exact ⟨by show g'≠q.xb;omega,by show g'≠q.yb;omega,by show g'≠q.ub;omega⟩
 ·rcases mm i hi with hm|hm
  ·exact h.dj i hm hc
  ·have:=h.hi i (.inr hc);omega
 ·rcases hi with hi|hi
  ·exact (mm i hi).imp id .inr
  ·exact .inr (.inl hi)
section
variable {w w':Ω} {K:O->Ω->Prop}
theorem FT (hk:∀ w',w'.ownsRow w.heap.size 127 5 (.slice (some ⟨w.heap.size,0,none⟩) 0 0) 0 []->aG w w'->w.heap.size < w'.heap.size->K (.slice (some ⟨w.heap.size,0,none⟩) 0 0) w'):V prog (Instr.buildSlice 154 0 #[]) w K:=by
 refine V.ok (v:=.slice (some ⟨w.heap.size,0,none⟩) 0 0) (w':=w.alloc (.cells (([]:List O)).toArray 127)) (by kernel_rfl) ?_;have hb1:aY (w.alloc (.cells (([]:List O)).toArray 127)) w.heap.size [] 127:=by unfold aY;rw [heap_alloc_new]
 exact hk _ (dX hb1 rfl (Nat.le_refl _) (by unfold maxLen;omega)) ((aG.refl _).alloc _) hb1.lt
theorem NZ {B g cap n:Nat} {v:O} {cs:List O} (ho:w.ownsRow B 127 5 v 0 []) (hs:w.ownsRow 0 127 5 (.slice (some ⟨g,0,none⟩) n cap) n cs) (hn:0 < n) (hn2:n<=1000) (h1:cs.all cB=true) (hB:B<=w.heap.size)
  (hk:∀ g' cap' w',w'.ownsRow B 127 5 (.slice (some ⟨g',0,none⟩) n cap') n cs->w.grownBy w' v.ownBlock->(v.ownBlock=some g'\/g'=w.heap.size)->g' < w'.heap.size->K (.slice (some ⟨g',0,none⟩) n cap') w') :
  V prog (Builtin.append_ #[154,154] 154 #[v,.slice (some ⟨g,0,none⟩) n cap]) w K:=by
 refine apZ underlying154 eX rfl (by omega) ho hs hn h1 (by omega) (by unfold maxLen;omega) hB λg' cap' w2 ho2 hg2 hlies=>?_;rw [Nat.zero_add,List.nil_append] at ho2;rw [Nat.zero_add];exact hk g' cap' w2 ho2 hg2 hlies (ho2.lt _ rfl).2
theorem DZ {ar:List bS} (h:∀ a∈ar,cB a.dv=true):(iD ar).all cB=true:=by
 rw [List.all_eq_true];intro v hv;obtain ⟨a,ha,he⟩:=List.mem_flatMap.1 hv;exact List.all_eq_true.1 (gF (h a ha)) v he
end
section
variable {q:QP} {w w':Ω}
theorem dE.rowOne (h:dE q w):(iD q.ar).all cB=true:=DZ λa ha=>bR (h.data a ha)
theorem dE.setL (h:dE q w) {g' cap':Nat} {ar':List bS} (hl:w.ownsRow 0 127 5 (.slice (some ⟨g',0,none⟩) ar'.length cap') ar'.length (iD ar')) (hd:∀ a∈ar',w.ownsRow 0 5 1 a.dv a.data.length (a.data.map u8)) (hlen:∀ a∈ar',a.data.length<=64) (h2:2<=ar'.length) (hc:ar'.length<=1000) (hg:¬ nO q g') (hn:∀ a∈ar',∀ i,a.dv.ownBlock=some i->¬ nO q i) :
  dE { q with g:=g',cap:=cap',ar:=ar' } (w.setCell ⟨q.yb,1,none⟩ (.slice (some ⟨g',0,none⟩) ar'.length cap'))/\Fr (λi=>i=q.yb) w (w.setCell ⟨q.yb,1,none⟩ (.slice (some ⟨g',0,none⟩) ar'.length cap')):=by
 have f:Fr (λi=>i=q.yb) w (w.setCell ⟨q.yb,1,none⟩ (.slice (some ⟨g',0,none⟩) ar'.length cap')):=Fr.of_set rfl;have hM:nO q q.yb:=.inr (.inl rfl)
 refine ⟨⟨f.seg h.xbox h.xy,h.ybox.set 1 _,f.blk h.ubox λe=>h.yu e.symm,f.own hl λi hi e=>hg (by have h1:g'=i:=(by simpa [Value.ownBlock] using hi);rw [h1,e];exact hM),λa ha=>f.own (hd a ha) λi hi e=>hn a ha i hi (e▸hM),hlen,
  f.own h.qp λi hi e=>h.dj i (e▸hM) (.inr (.inr (.inl hi))),f.own h.qs λi hi e=>h.dj i (e▸hM) (.inr (.inr (.inr hi))),h.lp,h.ls,f.own h.trow λi hi e=>(h.une i hi).2.1 e,h.xy,h.xu,h.yu,h.une,λi hi hr=>?_,h2,hc,h.sz⟩,f⟩
 rcases hr with hr|⟨a,ha,he⟩|hr|hr
 ·have hr:i=g':=hr;exact hg (hr▸hi)
 ·exact hn a ha i he hi
 ·exact h.dj i hi (.inr (.inr (.inl hr)))
 ·exact h.dj i hi (.inr (.inr (.inr hr)))
theorem dE.stpL (_:dE q w) {w1:Ω} {g' cap':Nat} {ar':List bS} (hf:Fr (nO q) w w1) (hg:g'=q.g\/w.heap.size<=g') (hn:∀ a∈ar',∀ i,a.dv.ownBlock=some i->(∃ b∈q.ar,b.dv.ownBlock=some i)\/w.heap.size<=i):mK q { q with g:=g',cap:=cap',ar:=ar' } w w1:=by
 refine ⟨rfl,rfl,rfl,rfl,rfl,rfl,λi hi=>?_,λi hi=>.inl hi,hf⟩;rcases hi with hi|hi|⟨a,ha,he⟩|hi
 ·exact .inl hi
 ·have hi:i=g':=hi;rcases hg with hg|hg
  ·exact .inr (.inl (.inl (hi.trans hg)))
  ·exact .inr (.inr (hi▸hg))
 ·rcases hn a ha i he with ⟨b,hb,e⟩|hs
  ·exact .inr (.inl (.inr (.inl ⟨b,hb,e⟩)))
  ·exact .inr (.inr hs)
 ·exact .inr (.inl (.inr (.inr hi)))
theorem ME:∀ (l:List PA) (i:Nat),i<=l.length - 2->8*i<=DN l i
 | l,0,_=>Nat.zero_le _
 | l,i+1,hi=>by
  have ih:=ME l i (by omega);obtain ⟨a,ha⟩:=bQ (l:=l) (j:=i+2) (by omega);have hd:(l.drop 2)[i]?=some a:=by rw [List.getElem?_drop,show 2+i=i+2 by omega];exact ha
  unfold DN at ih ⊢;rw [List.take_add_one,hd];simp [List.sum_append] at ih ⊢;omega
theorem DM (ar:List bS) (_:2<=ar.length):8*(ar.length - 2)<=gA (ar.map pa):=by
 have:=ME (ar.map pa) (ar.length - 2) (by simp);unfold gA;simpa using this
theorem LM (h:dE q w) {who life:Int} {n:Nat} {share:Bool} (hl:0<=life/\life<=3) (hn:n<=64) :
  aD prog 103 #[LY q,i64 who,i64 3,i64 life,.bool share,i64 (n:Int)] w λv w'=>
   ((life > 2\/8+(n:Int) > q.size - gA (q.ar.map pa))/\v=.tuple #[i64 0,.bool false]/\aG w w')\/(¬ (life > 2\/8+(n:Int) > q.size - gA (q.ar.map pa))/\v=.tuple #[i64 ((q.ar.length+1:Nat):Int),.bool true]/\∃ g' cap' dv,dE { q with g:=g',cap:=cap',ar:=q.ar++[⟨who,3,life,share,dv,List.replicate n 0⟩] } w'/\mK q { q with g:=g',cap:=cap',ar:=q.ar++[⟨who,3,life,share,dv,List.replicate n 0⟩] } w w'/\Fr (λi=>i=q.yb) w w'):=by
 apply QG;unfold yT;have hcnt:=h.cnt;have htwo:=h.two;have hszq:=h.sz;have D0:aG w w.drew:=(aG.refl _).drew;refine aI.mk' (λw'=>aG w w') D0 ?_;refine aB.ok (λw' _=>oD) ?_;simp only [show decide ((3:Int)≠3)=false by decide,jR,KX,aH,reduceIte,Bool.false_eq_true];refine aB.ok (λw' _=>nE) ?_;simp only [show ¬ life < 0 by omega,jR,aH,reduceIte,Bool.false_eq_true,decide_false];refine aB.ok (λw' _=>nI) ?_;by_cases hlife:life > 2
 ·simp only [hlife,jJ,uM,aH,aE,reduceIte,decide_true];exact ⟨D0,.inl ⟨.inl (by first|exact hlife|trivial),by first|rfl|trivial,D0⟩⟩
 simp only [hlife,jR,aH,reduceIte,Bool.false_eq_true,decide_false];refine aB.ok (λw' _=>nE) ?_;simp only [show ¬ ((n:Nat):Int) < 0 by omega,jR,aH,reduceIte,Bool.false_eq_true,decide_false];refine aB.ok (λw' _=>nI) ?_;simp only [show ¬ ((n:Nat):Int) > 64 by omega,dZ,jR,aH,reduceIte,Bool.false_eq_true,decide_false];refine aB.ok (λw' _=>lG) ?_;rw [aX (by omega)];refine ⟨.inl ⟨_,rfl⟩,?_⟩;refine dU (λw' hw=>(h.ybox.ext hw).boxed) eC aJ rfl ?_;refine (DL (h.ext D0)).mono λv w' ⟨⟨hv,hz2⟩,hw⟩=>?_;subst hv;have hw:=hw.symm;subst hw;refine ⟨D0,?_⟩;refine aB.ok (λw' _=>nC) ?_;rw [aX (by omega)];refine aB.ok (λw' _=>nI) ?_;refine aL (λhfull=>.inl ⟨by first|exact .inr hfull|exact hfull|omega,by first|rfl|trivial,D0⟩) λhroom=>?_;have X3:aG w w.drew.drew:=D0.drew;have hz3:=X3.size;refine ⟨λw'=>∃ g' cap' dv,dE { q with g:=g',cap:=cap',ar:=q.ar++[⟨who,3,life,share,dv,List.replicate n 0⟩] } w'/\mK q { q with g:=g',cap:=cap',ar:=q.ar++[⟨who,3,life,share,dv,List.replicate n 0⟩] } w w'/\Fr (λi=>i=q.yb) w w',?_,?_⟩
 ·refine aI.mk' (λw'=>aG w w') X3 ⟨.inl ⟨_,rfl⟩,?_⟩;refine dU (λw' hw=>(h.ybox.ext hw).boxed) bW cM rfl ?_
  have fin:∀ {w7:Ω} {b60 g54 c54 b62:Nat},aY w7 b60 (List.replicate n (u8 0)) 5->w7.ownsRow w.heap.size 127 5 (.slice (some ⟨g54,0,none⟩) q.ar.length c54) q.ar.length (iD q.ar)->aY w7 b62 (⟨who,3,life,share,.slice (some ⟨b60,0,none⟩) n n,List.replicate n 0⟩:bS).cells 127->aG w w7->w.heap.size<=b60->b60≠g54->b60≠b62->g54≠b62 ->
    V prog (Builtin.append_ #[154,154] 154 #[.slice (some ⟨g54,0,none⟩) q.ar.length c54,.slice (some ⟨b62,0,none⟩) 1 1]) w7 λt63 w8=>aG w w8/\Go.Vc.aM (LY q)/\aB prog (λw'=>aG w w') (Instr.fieldAt 156 (LY q) 1) λt65=>U prog (Instr.storeAt 154 t65 t63) w8 λ_ w9=>
     ∃ g' cap' dv,dE { q with g:=g',cap:=cap',ar:=q.ar++[⟨who,3,life,share,dv,List.replicate n 0⟩] } w9/\mK q { q with g:=g',cap:=cap',ar:=q.ar++[⟨who,3,life,share,dv,List.replicate n 0⟩] } w w9/\Fr (λi=>i=q.yb) w w9:=by
   intro w7 b60 g54 c54 b62 hdv h54 h62 X7 hb60 hne1 hne2 hne3;have s7:=X7.size;have ho62:w7.ownsRow 0 127 5 (.slice (some ⟨b62,0,none⟩) 1 1) 1 _:=dX h62 rfl (Nat.zero_le _) (by unfold maxLen;omega);refine apZ underlying154 eX rfl (by omega) h54 ho62 (by omega) rfl (by omega) (by unfold maxLen;omega) s7 λg' cap' w8 ho8 hg8 hlies=>?_;have f8:Fr (λi=>i=g54) w7 w8:=Fr.of_grown hg8 λi hi=>by simpa [Value.ownBlock] using hi.symm
   have X8:aG w w8:=X7.grown hg8 λi hi=>(h54.lt i hi).1;have hlies:g'=g54\/g'=w7.heap.size:=hlies.imp (λh=>by simpa [Value.ownBlock] using h.symm) id;have hg54:w.heap.size<=g54:=(h54.lt _ rfl).1;have h8:=h.ext X8;have hdl:=hdv.lt;have hg'w:w.heap.size<=g':=by omega
   have hdv8:w8.ownsRow 0 5 1 (.slice (some ⟨b60,0,none⟩) n n) (List.replicate n (0:Int)).length ((List.replicate n (0:Int)).map u8):=by
    have:=dX (B:=0) (size:=1) (n:=n) (f8.blk hdv hne1) (by simp) (Nat.zero_le _) (by unfold maxLen;omega);simpa using this
   have hnM:∀ i,w.heap.size<=i->¬ nO q i:=λi hi hm=>by have:=h.hi i (.inl hm);omega
   refine ⟨X8,.inl ⟨_,rfl⟩,?_⟩;refine aB.ok (λw' _=>pC) ?_;refine sT oI h8.ybox rfl (by simp) rfl ?_
   have hlist:w8.ownsRow 0 127 5 (.slice (some ⟨g',0,none⟩) (q.ar++[(⟨who,3,life,share,.slice (some ⟨b60,0,none⟩) n n,List.replicate n 0⟩:bS)]).length cap') (q.ar++[(⟨who,3,life,share,.slice (some ⟨b60,0,none⟩) n n,List.replicate n 0⟩:bS)]).length (iD (q.ar++[⟨who,3,life,share,.slice (some ⟨b60,0,none⟩) n n,List.replicate n 0⟩])):=by
    rw [uC,List.length_append];exact aP ho8 (Nat.zero_le _)
   have used:8*(q.ar.length - 2)<=gA (q.ar.map pa):=DM q.ar htwo
   obtain ⟨h9,f9⟩:=h8.setL hlist (λa ha=>by
    rcases List.mem_append.1 ha with ha|ha
    ·exact h8.data a ha
    ·obtain rfl:=List.mem_singleton.1 ha;exact hdv8) (λa ha=>by
    rcases List.mem_append.1 ha with ha|ha
    ·exact h.len a ha
    ·obtain rfl:=List.mem_singleton.1 ha;simpa using hn) (by simp;omega) (by simp;omega) (hnM _ hg'w) (λa ha i hi=>by
    rcases List.mem_append.1 ha with ha|ha
    ·exact λhm=>h.dj i hm (.inr (.inl ⟨a,ha,hi⟩))
    ·obtain rfl:=List.mem_singleton.1 ha;have:b60=i:=by simpa [Value.ownBlock] using hi
     exact hnM i (by omega))
   rw [List.length_append] at h9 f9;refine ⟨g',cap',_,h9,h.stpL ((Fr.of_ext (S:=nO q) X8).trans (f9.mono λi hi=>.inr (.inl hi)) λ_ _ h=>h) (.inr hg'w) λa ha i hi=>?_,(Fr.of_ext (S:=λi=>i=q.yb) X8).trans f9 λ_ _ h=>h⟩;rcases List.mem_append.1 ha with ha|ha
   ·exact .inl ⟨a,ha,hi⟩
   ·obtain rfl:=List.mem_singleton.1 ha;have:b60=i:=by simpa [Value.ownBlock] using hi
    exact .inr (by omega)
  generalize w.drew.drew=w3 at X3 hz3 ⊢;refine ⟨?_,?_⟩
  ·refine FT λw4 h49 x4 l4=>?_;have X4:=X3.trans x4;have h49:=aP h49 X3.size;have s4:=x4.size;have t4:=X4.size;refine ⟨X4,?_⟩;refine ⟨?_,?_⟩
   ·refine NZ h49 (X4.own h.list) (by omega) (by omega) h.rowOne X4.size λg54 c54 w5 h54 hg54 hl54 l5=>?_;have X5:aG w w5:=X4.grown hg54 λi hi=>(h49.lt i hi).1;have f54:Fr (λi=>i=w3.heap.size) w4 w5:=Fr.of_grown hg54 λi hi=>by simpa [Value.ownBlock] using hi.symm
    have s5:=f54.size;have hl54:g54=w3.heap.size\/g54=w4.heap.size:=hl54.imp (λh=>by simpa [Value.ownBlock] using h.symm) id;have t5:=X5.size;refine ⟨X5,?_⟩;refine wX (n:=n) rfl underlying23 mM rfl (by omega) (by omega) λw6 hdv x6 l6=>?_;have X6:=X5.trans x6;have s6:=x6.size;have h54:=x6.own h54;have t6:=X6.size;refine ⟨X6,?_⟩;refine pX kZ [(0,i64 who),(1,i64 3),(2,i64 life),(3,.bool share),(4,.slice (some ⟨w5.heap.size,0,none⟩) n n)] rfl rfl ?_;refine V.ok (v:=.slice (some ⟨w6.heap.size,0,none⟩) 1 1) (w':=w6.alloc (.cells (⟨who,3,life,share,.slice (some ⟨w5.heap.size,0,none⟩) n n,List.replicate n 0⟩:bS).cells.toArray 127)) (by kernel_rfl) ?_;have h62:aY (w6.alloc (.cells (⟨who,3,life,share,.slice (some ⟨w5.heap.size,0,none⟩) n n,List.replicate n 0⟩:bS).cells.toArray 127)) w6.heap.size (⟨who,3,life,share,.slice (some ⟨w5.heap.size,0,none⟩) n n,List.replicate n 0⟩:bS).cells 127:=by unfold aY;rw [heap_alloc_new]
    have x7:aG w6 (w6.alloc (.cells (⟨who,3,life,share,.slice (some ⟨w5.heap.size,0,none⟩) n n,List.replicate n 0⟩:bS).cells.toArray 127)):=(aG.refl _).alloc _;have l7:=h62.lt;generalize w6.alloc (.cells (⟨who,3,life,share,.slice (some ⟨w5.heap.size,0,none⟩) n n,List.replicate n 0⟩:bS).cells.toArray 127)=w7 at h62 x7 l7 ⊢;have X7:=X6.trans x7;have s7:=x7.size;have h54:=x7.own h54;have hdv:=hdv.ext x7;have t7:=X7.size;refine ⟨X7,?_⟩;exact fin hdv h54 h62 X7 (by omega) (by omega) (by omega) (by omega)
   ·refine wX (n:=n) rfl underlying23 mM rfl (by omega) (by omega) λw5 hdv x5 l5=>?_;have X5:=X4.trans x5;have s5:=x5.size;have h49:=x5.own h49;have t5:=X5.size;refine ⟨X5,?_⟩;refine pX kZ [(0,i64 who),(1,i64 3),(2,i64 life),(3,.bool share),(4,.slice (some ⟨w4.heap.size,0,none⟩) n n)] rfl rfl ?_;refine ⟨?_,?_⟩
    ·refine NZ h49 (X5.own h.list) (by omega) (by omega) h.rowOne X5.size λg54 c54 w6 h54 hg54 hl54 l6=>?_;have X6:aG w w6:=X5.grown hg54 λi hi=>(h49.lt i hi).1;have f54:Fr (λi=>i=w3.heap.size) w5 w6:=Fr.of_grown hg54 λi hi=>by simpa [Value.ownBlock] using hi.symm
     have s6:=f54.size;have hl54:g54=w3.heap.size\/g54=w5.heap.size:=hl54.imp (λh=>by simpa [Value.ownBlock] using h.symm) id;have hdv:=f54.blk hdv (by omega);have t6:=X6.size;refine ⟨X6,?_⟩;refine V.ok (v:=.slice (some ⟨w6.heap.size,0,none⟩) 1 1) (w':=w6.alloc (.cells (⟨who,3,life,share,.slice (some ⟨w4.heap.size,0,none⟩) n n,List.replicate n 0⟩:bS).cells.toArray 127)) (by kernel_rfl) ?_;have h62:aY (w6.alloc (.cells (⟨who,3,life,share,.slice (some ⟨w4.heap.size,0,none⟩) n n,List.replicate n 0⟩:bS).cells.toArray 127)) w6.heap.size (⟨who,3,life,share,.slice (some ⟨w4.heap.size,0,none⟩) n n,List.replicate n 0⟩:bS).cells 127:=by unfold aY;rw [heap_alloc_new]
     have x7:aG w6 (w6.alloc (.cells (⟨who,3,life,share,.slice (some ⟨w4.heap.size,0,none⟩) n n,List.replicate n 0⟩:bS).cells.toArray 127)):=(aG.refl _).alloc _;have l7:=h62.lt;generalize w6.alloc (.cells (⟨who,3,life,share,.slice (some ⟨w4.heap.size,0,none⟩) n n,List.replicate n 0⟩:bS).cells.toArray 127)=w7 at h62 x7 l7 ⊢;have X7:=X6.trans x7;have s7:=x7.size;have hdv:=hdv.ext x7;have h54:=x7.own h54;have t7:=X7.size;refine ⟨X7,?_⟩;exact fin hdv h54 h62 X7 (by omega) (by omega) (by omega) (by omega)
    ·refine V.ok (v:=.slice (some ⟨w5.heap.size,0,none⟩) 1 1) (w':=w5.alloc (.cells (⟨who,3,life,share,.slice (some ⟨w4.heap.size,0,none⟩) n n,List.replicate n 0⟩:bS).cells.toArray 127)) (by kernel_rfl) ?_;have h62:aY (w5.alloc (.cells (⟨who,3,life,share,.slice (some ⟨w4.heap.size,0,none⟩) n n,List.replicate n 0⟩:bS).cells.toArray 127)) w5.heap.size (⟨who,3,life,share,.slice (some ⟨w4.heap.size,0,none⟩) n n,List.replicate n 0⟩:bS).cells 127:=by unfold aY;rw [heap_alloc_new]
     have x6:aG w5 (w5.alloc (.cells (⟨who,3,life,share,.slice (some ⟨w4.heap.size,0,none⟩) n n,List.replicate n 0⟩:bS).cells.toArray 127)):=(aG.refl _).alloc _;have l6:=h62.lt;generalize w5.alloc (.cells (⟨who,3,life,share,.slice (some ⟨w4.heap.size,0,none⟩) n n,List.replicate n 0⟩:bS).cells.toArray 127)=w6 at h62 x6 l6 ⊢;have X6:=X5.trans x6;have s6:=x6.size;have h49:=x6.own h49;have hdv:=hdv.ext x6;have t6:=X6.size;refine ⟨X6,?_⟩;refine NZ h49 (X6.own h.list) (by omega) (by omega) h.rowOne X6.size λg54 c54 w7 h54 hg54 hl54 l7=>?_;have X7:aG w w7:=X6.grown hg54 λi hi=>(h49.lt i hi).1;have f54:Fr (λi=>i=w3.heap.size) w6 w7:=Fr.of_grown hg54 λi hi=>by simpa [Value.ownBlock] using hi.symm
     have s7:=f54.size;have hl54:g54=w3.heap.size\/g54=w6.heap.size:=hl54.imp (λh=>by simpa [Value.ownBlock] using h.symm) id;have hdv:=f54.blk hdv (by omega);have h62:=f54.blk h62 (by omega);have t7:=X7.size;refine ⟨X7,?_⟩;exact fin hdv h54 h62 X7 (by omega) (by omega) (by omega) (by omega)
  ·refine wX (n:=n) rfl underlying23 mM rfl (by omega) (by omega) λw4 hdv x4 l4=>?_;have X4:=X3.trans x4;have s4:=x4.size;have t4:=X4.size;refine ⟨X4,?_⟩;refine pX kZ [(0,i64 who),(1,i64 3),(2,i64 life),(3,.bool share),(4,.slice (some ⟨w3.heap.size,0,none⟩) n n)] rfl rfl ?_;refine ⟨?_,?_⟩
   ·refine FT λw5 h49 x5 l5=>?_;have X5:=X4.trans x5;have h49:=aP h49 X4.size;have s5:=x5.size;have hdv:=hdv.ext x5;have t5:=X5.size;refine ⟨X5,?_⟩;refine ⟨?_,?_⟩
    ·refine NZ h49 (X5.own h.list) (by omega) (by omega) h.rowOne X5.size λg54 c54 w6 h54 hg54 hl54 l6=>?_;have X6:aG w w6:=X5.grown hg54 λi hi=>(h49.lt i hi).1;have f54:Fr (λi=>i=w4.heap.size) w5 w6:=Fr.of_grown hg54 λi hi=>by simpa [Value.ownBlock] using hi.symm
     have s6:=f54.size;have hl54:g54=w4.heap.size\/g54=w5.heap.size:=hl54.imp (λh=>by simpa [Value.ownBlock] using h.symm) id;have hdv:=f54.blk hdv (by omega);have t6:=X6.size;refine ⟨X6,?_⟩;refine V.ok (v:=.slice (some ⟨w6.heap.size,0,none⟩) 1 1) (w':=w6.alloc (.cells (⟨who,3,life,share,.slice (some ⟨w3.heap.size,0,none⟩) n n,List.replicate n 0⟩:bS).cells.toArray 127)) (by kernel_rfl) ?_;have h62:aY (w6.alloc (.cells (⟨who,3,life,share,.slice (some ⟨w3.heap.size,0,none⟩) n n,List.replicate n 0⟩:bS).cells.toArray 127)) w6.heap.size (⟨who,3,life,share,.slice (some ⟨w3.heap.size,0,none⟩) n n,List.replicate n 0⟩:bS).cells 127:=by unfold aY;rw [heap_alloc_new]
     have x7:aG w6 (w6.alloc (.cells (⟨who,3,life,share,.slice (some ⟨w3.heap.size,0,none⟩) n n,List.replicate n 0⟩:bS).cells.toArray 127)):=(aG.refl _).alloc _;have l7:=h62.lt;generalize w6.alloc (.cells (⟨who,3,life,share,.slice (some ⟨w3.heap.size,0,none⟩) n n,List.replicate n 0⟩:bS).cells.toArray 127)=w7 at h62 x7 l7 ⊢;have X7:=X6.trans x7;have s7:=x7.size;have hdv:=hdv.ext x7;have h54:=x7.own h54;have t7:=X7.size;refine ⟨X7,?_⟩;exact fin hdv h54 h62 X7 (by omega) (by omega) (by omega) (by omega)
    ·refine V.ok (v:=.slice (some ⟨w5.heap.size,0,none⟩) 1 1) (w':=w5.alloc (.cells (⟨who,3,life,share,.slice (some ⟨w3.heap.size,0,none⟩) n n,List.replicate n 0⟩:bS).cells.toArray 127)) (by kernel_rfl) ?_;have h62:aY (w5.alloc (.cells (⟨who,3,life,share,.slice (some ⟨w3.heap.size,0,none⟩) n n,List.replicate n 0⟩:bS).cells.toArray 127)) w5.heap.size (⟨who,3,life,share,.slice (some ⟨w3.heap.size,0,none⟩) n n,List.replicate n 0⟩:bS).cells 127:=by unfold aY;rw [heap_alloc_new]
     have x6:aG w5 (w5.alloc (.cells (⟨who,3,life,share,.slice (some ⟨w3.heap.size,0,none⟩) n n,List.replicate n 0⟩:bS).cells.toArray 127)):=(aG.refl _).alloc _;have l6:=h62.lt;generalize w5.alloc (.cells (⟨who,3,life,share,.slice (some ⟨w3.heap.size,0,none⟩) n n,List.replicate n 0⟩:bS).cells.toArray 127)=w6 at h62 x6 l6 ⊢;have X6:=X5.trans x6;have s6:=x6.size;have hdv:=hdv.ext x6;have h49:=x6.own h49;have t6:=X6.size;refine ⟨X6,?_⟩;refine NZ h49 (X6.own h.list) (by omega) (by omega) h.rowOne X6.size λg54 c54 w7 h54 hg54 hl54 l7=>?_;have X7:aG w w7:=X6.grown hg54 λi hi=>(h49.lt i hi).1;have f54:Fr (λi=>i=w4.heap.size) w6 w7:=Fr.of_grown hg54 λi hi=>by simpa [Value.ownBlock] using hi.symm
     have s7:=f54.size;have hl54:g54=w4.heap.size\/g54=w6.heap.size:=hl54.imp (λh=>by simpa [Value.ownBlock] using h.symm) id;have hdv:=f54.blk hdv (by omega);have h62:=f54.blk h62 (by omega);have t7:=X7.size;refine ⟨X7,?_⟩;exact fin hdv h54 h62 X7 (by omega) (by omega) (by omega) (by omega)
   ·refine V.ok (v:=.slice (some ⟨w4.heap.size,0,none⟩) 1 1) (w':=w4.alloc (.cells (⟨who,3,life,share,.slice (some ⟨w3.heap.size,0,none⟩) n n,List.replicate n 0⟩:bS).cells.toArray 127)) (by kernel_rfl) ?_;have h62:aY (w4.alloc (.cells (⟨who,3,life,share,.slice (some ⟨w3.heap.size,0,none⟩) n n,List.replicate n 0⟩:bS).cells.toArray 127)) w4.heap.size (⟨who,3,life,share,.slice (some ⟨w3.heap.size,0,none⟩) n n,List.replicate n 0⟩:bS).cells 127:=by unfold aY;rw [heap_alloc_new]
    have x5:aG w4 (w4.alloc (.cells (⟨who,3,life,share,.slice (some ⟨w3.heap.size,0,none⟩) n n,List.replicate n 0⟩:bS).cells.toArray 127)):=(aG.refl _).alloc _;have l5:=h62.lt;generalize w4.alloc (.cells (⟨who,3,life,share,.slice (some ⟨w3.heap.size,0,none⟩) n n,List.replicate n 0⟩:bS).cells.toArray 127)=w5 at h62 x5 l5 ⊢;have X5:=X4.trans x5;have s5:=x5.size;have hdv:=hdv.ext x5;have t5:=X5.size;refine ⟨X5,?_⟩;refine FT λw6 h49 x6 l6=>?_;have X6:=X5.trans x6;have h49:=aP h49 X5.size;have s6:=x6.size;have hdv:=hdv.ext x6;have h62:=h62.ext x6;have t6:=X6.size;refine ⟨X6,?_⟩;refine NZ h49 (X6.own h.list) (by omega) (by omega) h.rowOne X6.size λg54 c54 w7 h54 hg54 hl54 l7=>?_;have X7:aG w w7:=X6.grown hg54 λi hi=>(h49.lt i hi).1;have f54:Fr (λi=>i=w5.heap.size) w6 w7:=Fr.of_grown hg54 λi hi=>by simpa [Value.ownBlock] using hi.symm
    have s7:=f54.size;have hl54:g54=w5.heap.size\/g54=w6.heap.size:=hl54.imp (λh=>by simpa [Value.ownBlock] using h.symm) id;have hdv:=f54.blk hdv (by omega);have h62:=f54.blk h62 (by omega);have t7:=X7.size;refine ⟨X7,?_⟩;exact fin hdv h54 h62 X7 (by omega) (by omega) (by omega) (by omega)
 ·rintro w9 ⟨g',cap',dv,h9,s9,f9⟩ _;refine ⟨.inl ⟨_,rfl⟩,?_⟩;refine bB h9.ybox.boxed bW cM rfl (lA.2 ?_);exact .inr ⟨by first|exact hroom|omega|(intro hh;rcases hh with hh|hh<;>first|exact hh.elim|omega|exact absurd hh hroom),by simp,g',cap',dv,h9,s9,f9⟩
theorem LL (h:dE q w) {who life:Int} {n:Nat} {share:Bool} (hl:0<=life/\life<=3) (hn:n<=64) :
  aD prog 103 #[LY q,i64 who,i64 4,i64 life,.bool share,i64 (n:Int)] w λv w'=>
   ((life > 2\/8+(n:Int) > q.size - gA (q.ar.map pa))/\v=.tuple #[i64 0,.bool false]/\aG w w')\/(¬ (life > 2\/8+(n:Int) > q.size - gA (q.ar.map pa))/\v=.tuple #[i64 ((q.ar.length+1:Nat):Int),.bool true]/\∃ g' cap' dv,dE { q with g:=g',cap:=cap',ar:=q.ar++[⟨who,4,life,share,dv,List.replicate n 0⟩] } w'/\mK q { q with g:=g',cap:=cap',ar:=q.ar++[⟨who,4,life,share,dv,List.replicate n 0⟩] } w w'/\Fr (λi=>i=q.yb) w w'):=by
 apply QG;unfold yT;have hcnt:=h.cnt;have htwo:=h.two;have hszq:=h.sz;have D0:aG w w.drew:=(aG.refl _).drew;refine aI.mk' (λw'=>aG w w') D0 ?_;refine aB.ok (λw' _=>oD) ?_;simp only [show decide ((4:Int)≠3)=true by decide,WE,aH,reduceIte];refine aB.ok (λw' _=>oD) ?_;simp only [show decide ((4:Int)≠4)=false by decide,jR,aH,reduceIte,Bool.false_eq_true];refine aB.ok (λw' _=>nE) ?_;simp only [show ¬ life < 0 by omega,jR,aH,reduceIte,Bool.false_eq_true,decide_false];refine aB.ok (λw' _=>nI) ?_;by_cases hlife:life > 2
 ·simp only [hlife,jJ,uM,aH,aE,reduceIte,decide_true];exact ⟨D0,.inl ⟨.inl (by first|exact hlife|trivial),by first|rfl|trivial,D0⟩⟩
 simp only [hlife,jR,aH,reduceIte,Bool.false_eq_true,decide_false];refine aB.ok (λw' _=>nE) ?_;simp only [show ¬ ((n:Nat):Int) < 0 by omega,jR,aH,reduceIte,Bool.false_eq_true,decide_false];refine aB.ok (λw' _=>nI) ?_;simp only [show ¬ ((n:Nat):Int) > 64 by omega,dZ,jR,aH,reduceIte,Bool.false_eq_true,decide_false];refine aB.ok (λw' _=>lG) ?_;rw [aX (by omega)];refine ⟨.inl ⟨_,rfl⟩,?_⟩;refine dU (λw' hw=>(h.ybox.ext hw).boxed) eC aJ rfl ?_;refine (DL (h.ext D0)).mono λv w' ⟨⟨hv,hz2⟩,hw⟩=>?_;subst hv;have hw:=hw.symm;subst hw;refine ⟨D0,?_⟩;refine aB.ok (λw' _=>nC) ?_;rw [aX (by omega)];refine aB.ok (λw' _=>nI) ?_;refine aL (λhfull=>.inl ⟨by first|exact .inr hfull|exact hfull|omega,by first|rfl|trivial,D0⟩) λhroom=>?_;have X3:aG w w.drew.drew:=D0.drew;have hz3:=X3.size;refine ⟨λw'=>∃ g' cap' dv,dE { q with g:=g',cap:=cap',ar:=q.ar++[⟨who,4,life,share,dv,List.replicate n 0⟩] } w'/\mK q { q with g:=g',cap:=cap',ar:=q.ar++[⟨who,4,life,share,dv,List.replicate n 0⟩] } w w'/\Fr (λi=>i=q.yb) w w',?_,?_⟩
 ·refine aI.mk' (λw'=>aG w w') X3 ⟨.inl ⟨_,rfl⟩,?_⟩;refine dU (λw' hw=>(h.ybox.ext hw).boxed) bW cM rfl ?_
  have fin:∀ {w7:Ω} {b60 g54 c54 b62:Nat},aY w7 b60 (List.replicate n (u8 0)) 5->w7.ownsRow w.heap.size 127 5 (.slice (some ⟨g54,0,none⟩) q.ar.length c54) q.ar.length (iD q.ar)->aY w7 b62 (⟨who,4,life,share,.slice (some ⟨b60,0,none⟩) n n,List.replicate n 0⟩:bS).cells 127->aG w w7->w.heap.size<=b60->b60≠g54->b60≠b62->g54≠b62 ->
    V prog (Builtin.append_ #[154,154] 154 #[.slice (some ⟨g54,0,none⟩) q.ar.length c54,.slice (some ⟨b62,0,none⟩) 1 1]) w7 λt63 w8=>aG w w8/\Go.Vc.aM (LY q)/\aB prog (λw'=>aG w w') (Instr.fieldAt 156 (LY q) 1) λt65=>U prog (Instr.storeAt 154 t65 t63) w8 λ_ w9=>
     ∃ g' cap' dv,dE { q with g:=g',cap:=cap',ar:=q.ar++[⟨who,4,life,share,dv,List.replicate n 0⟩] } w9/\mK q { q with g:=g',cap:=cap',ar:=q.ar++[⟨who,4,life,share,dv,List.replicate n 0⟩] } w w9/\Fr (λi=>i=q.yb) w w9:=by
   intro w7 b60 g54 c54 b62 hdv h54 h62 X7 hb60 hne1 hne2 hne3;have s7:=X7.size;have ho62:w7.ownsRow 0 127 5 (.slice (some ⟨b62,0,none⟩) 1 1) 1 _:=dX h62 rfl (Nat.zero_le _) (by unfold maxLen;omega);refine apZ underlying154 eX rfl (by omega) h54 ho62 (by omega) rfl (by omega) (by unfold maxLen;omega) s7 λg' cap' w8 ho8 hg8 hlies=>?_;have f8:Fr (λi=>i=g54) w7 w8:=Fr.of_grown hg8 λi hi=>by simpa [Value.ownBlock] using hi.symm
   have X8:aG w w8:=X7.grown hg8 λi hi=>(h54.lt i hi).1;have hlies:g'=g54\/g'=w7.heap.size:=hlies.imp (λh=>by simpa [Value.ownBlock] using h.symm) id;have hg54:w.heap.size<=g54:=(h54.lt _ rfl).1;have h8:=h.ext X8;have hdl:=hdv.lt;have hg'w:w.heap.size<=g':=by omega
   have hdv8:w8.ownsRow 0 5 1 (.slice (some ⟨b60,0,none⟩) n n) (List.replicate n (0:Int)).length ((List.replicate n (0:Int)).map u8):=by
    have:=dX (B:=0) (size:=1) (n:=n) (f8.blk hdv hne1) (by simp) (Nat.zero_le _) (by unfold maxLen;omega);simpa using this
   have hnM:∀ i,w.heap.size<=i->¬ nO q i:=λi hi hm=>by have:=h.hi i (.inl hm);omega
   refine ⟨X8,.inl ⟨_,rfl⟩,?_⟩;refine aB.ok (λw' _=>pC) ?_;refine sT oI h8.ybox rfl (by simp) rfl ?_
   have hlist:w8.ownsRow 0 127 5 (.slice (some ⟨g',0,none⟩) (q.ar++[(⟨who,4,life,share,.slice (some ⟨b60,0,none⟩) n n,List.replicate n 0⟩:bS)]).length cap') (q.ar++[(⟨who,4,life,share,.slice (some ⟨b60,0,none⟩) n n,List.replicate n 0⟩:bS)]).length (iD (q.ar++[⟨who,4,life,share,.slice (some ⟨b60,0,none⟩) n n,List.replicate n 0⟩])):=by
    rw [uC,List.length_append];exact aP ho8 (Nat.zero_le _)
   have used:8*(q.ar.length - 2)<=gA (q.ar.map pa):=DM q.ar htwo
   obtain ⟨h9,f9⟩:=h8.setL hlist (λa ha=>by
    rcases List.mem_append.1 ha with ha|ha
    ·exact h8.data a ha
    ·obtain rfl:=List.mem_singleton.1 ha;exact hdv8) (λa ha=>by
    rcases List.mem_append.1 ha with ha|ha
    ·exact h.len a ha
    ·obtain rfl:=List.mem_singleton.1 ha;simpa using hn) (by simp;omega) (by simp;omega) (hnM _ hg'w) (λa ha i hi=>by
    rcases List.mem_append.1 ha with ha|ha
    ·exact λhm=>h.dj i hm (.inr (.inl ⟨a,ha,hi⟩))
    ·obtain rfl:=List.mem_singleton.1 ha;have:b60=i:=by simpa [Value.ownBlock] using hi
     exact hnM i (by omega))
   rw [List.length_append] at h9 f9;refine ⟨g',cap',_,h9,h.stpL ((Fr.of_ext (S:=nO q) X8).trans (f9.mono λi hi=>.inr (.inl hi)) λ_ _ h=>h) (.inr hg'w) λa ha i hi=>?_,(Fr.of_ext (S:=λi=>i=q.yb) X8).trans f9 λ_ _ h=>h⟩;rcases List.mem_append.1 ha with ha|ha
   ·exact .inl ⟨a,ha,hi⟩
   ·obtain rfl:=List.mem_singleton.1 ha;have:b60=i:=by simpa [Value.ownBlock] using hi
    exact .inr (by omega)
  generalize w.drew.drew=w3 at X3 hz3 ⊢;refine ⟨?_,?_⟩
  ·refine FT λw4 h49 x4 l4=>?_;have X4:=X3.trans x4;have h49:=aP h49 X3.size;have s4:=x4.size;have t4:=X4.size;refine ⟨X4,?_⟩;refine ⟨?_,?_⟩
   ·refine NZ h49 (X4.own h.list) (by omega) (by omega) h.rowOne X4.size λg54 c54 w5 h54 hg54 hl54 l5=>?_;have X5:aG w w5:=X4.grown hg54 λi hi=>(h49.lt i hi).1;have f54:Fr (λi=>i=w3.heap.size) w4 w5:=Fr.of_grown hg54 λi hi=>by simpa [Value.ownBlock] using hi.symm
    have s5:=f54.size;have hl54:g54=w3.heap.size\/g54=w4.heap.size:=hl54.imp (λh=>by simpa [Value.ownBlock] using h.symm) id;have t5:=X5.size;refine ⟨X5,?_⟩;refine wX (n:=n) rfl underlying23 mM rfl (by omega) (by omega) λw6 hdv x6 l6=>?_;have X6:=X5.trans x6;have s6:=x6.size;have h54:=x6.own h54;have t6:=X6.size;refine ⟨X6,?_⟩;refine pX kZ [(0,i64 who),(1,i64 4),(2,i64 life),(3,.bool share),(4,.slice (some ⟨w5.heap.size,0,none⟩) n n)] rfl rfl ?_;refine V.ok (v:=.slice (some ⟨w6.heap.size,0,none⟩) 1 1) (w':=w6.alloc (.cells (⟨who,4,life,share,.slice (some ⟨w5.heap.size,0,none⟩) n n,List.replicate n 0⟩:bS).cells.toArray 127)) (by kernel_rfl) ?_;have h62:aY (w6.alloc (.cells (⟨who,4,life,share,.slice (some ⟨w5.heap.size,0,none⟩) n n,List.replicate n 0⟩:bS).cells.toArray 127)) w6.heap.size (⟨who,4,life,share,.slice (some ⟨w5.heap.size,0,none⟩) n n,List.replicate n 0⟩:bS).cells 127:=by unfold aY;rw [heap_alloc_new]
    have x7:aG w6 (w6.alloc (.cells (⟨who,4,life,share,.slice (some ⟨w5.heap.size,0,none⟩) n n,List.replicate n 0⟩:bS).cells.toArray 127)):=(aG.refl _).alloc _;have l7:=h62.lt;generalize w6.alloc (.cells (⟨who,4,life,share,.slice (some ⟨w5.heap.size,0,none⟩) n n,List.replicate n 0⟩:bS).cells.toArray 127)=w7 at h62 x7 l7 ⊢;have X7:=X6.trans x7;have s7:=x7.size;have h54:=x7.own h54;have hdv:=hdv.ext x7;have t7:=X7.size;refine ⟨X7,?_⟩;exact fin hdv h54 h62 X7 (by omega) (by omega) (by omega) (by omega)
   ·refine wX (n:=n) rfl underlying23 mM rfl (by omega) (by omega) λw5 hdv x5 l5=>?_;have X5:=X4.trans x5;have s5:=x5.size;have h49:=x5.own h49;have t5:=X5.size;refine ⟨X5,?_⟩;refine pX kZ [(0,i64 who),(1,i64 4),(2,i64 life),(3,.bool share),(4,.slice (some ⟨w4.heap.size,0,none⟩) n n)] rfl rfl ?_;refine ⟨?_,?_⟩
    ·refine NZ h49 (X5.own h.list) (by omega) (by omega) h.rowOne X5.size λg54 c54 w6 h54 hg54 hl54 l6=>?_;have X6:aG w w6:=X5.grown hg54 λi hi=>(h49.lt i hi).1;have f54:Fr (λi=>i=w3.heap.size) w5 w6:=Fr.of_grown hg54 λi hi=>by simpa [Value.ownBlock] using hi.symm
     have s6:=f54.size;have hl54:g54=w3.heap.size\/g54=w5.heap.size:=hl54.imp (λh=>by simpa [Value.ownBlock] using h.symm) id;have hdv:=f54.blk hdv (by omega);have t6:=X6.size;refine ⟨X6,?_⟩;refine V.ok (v:=.slice (some ⟨w6.heap.size,0,none⟩) 1 1) (w':=w6.alloc (.cells (⟨who,4,life,share,.slice (some ⟨w4.heap.size,0,none⟩) n n,List.replicate n 0⟩:bS).cells.toArray 127)) (by kernel_rfl) ?_;have h62:aY (w6.alloc (.cells (⟨who,4,life,share,.slice (some ⟨w4.heap.size,0,none⟩) n n,List.replicate n 0⟩:bS).cells.toArray 127)) w6.heap.size (⟨who,4,life,share,.slice (some ⟨w4.heap.size,0,none⟩) n n,List.replicate n 0⟩:bS).cells 127:=by unfold aY;rw [heap_alloc_new]
     have x7:aG w6 (w6.alloc (.cells (⟨who,4,life,share,.slice (some ⟨w4.heap.size,0,none⟩) n n,List.replicate n 0⟩:bS).cells.toArray 127)):=(aG.refl _).alloc _;have l7:=h62.lt;generalize w6.alloc (.cells (⟨who,4,life,share,.slice (some ⟨w4.heap.size,0,none⟩) n n,List.replicate n 0⟩:bS).cells.toArray 127)=w7 at h62 x7 l7 ⊢;have X7:=X6.trans x7;have s7:=x7.size;have hdv:=hdv.ext x7;have h54:=x7.own h54;have t7:=X7.size;refine ⟨X7,?_⟩;exact fin hdv h54 h62 X7 (by omega) (by omega) (by omega) (by omega)
    ·refine V.ok (v:=.slice (some ⟨w5.heap.size,0,none⟩) 1 1) (w':=w5.alloc (.cells (⟨who,4,life,share,.slice (some ⟨w4.heap.size,0,none⟩) n n,List.replicate n 0⟩:bS).cells.toArray 127)) (by kernel_rfl) ?_;have h62:aY (w5.alloc (.cells (⟨who,4,life,share,.slice (some ⟨w4.heap.size,0,none⟩) n n,List.replicate n 0⟩:bS).cells.toArray 127)) w5.heap.size (⟨who,4,life,share,.slice (some ⟨w4.heap.size,0,none⟩) n n,List.replicate n 0⟩:bS).cells 127:=by unfold aY;rw [heap_alloc_new]
     have x6:aG w5 (w5.alloc (.cells (⟨who,4,life,share,.slice (some ⟨w4.heap.size,0,none⟩) n n,List.replicate n 0⟩:bS).cells.toArray 127)):=(aG.refl _).alloc _;have l6:=h62.lt;generalize w5.alloc (.cells (⟨who,4,life,share,.slice (some ⟨w4.heap.size,0,none⟩) n n,List.replicate n 0⟩:bS).cells.toArray 127)=w6 at h62 x6 l6 ⊢;have X6:=X5.trans x6;have s6:=x6.size;have h49:=x6.own h49;have hdv:=hdv.ext x6;have t6:=X6.size;refine ⟨X6,?_⟩;refine NZ h49 (X6.own h.list) (by omega) (by omega) h.rowOne X6.size λg54 c54 w7 h54 hg54 hl54 l7=>?_;have X7:aG w w7:=X6.grown hg54 λi hi=>(h49.lt i hi).1;have f54:Fr (λi=>i=w3.heap.size) w6 w7:=Fr.of_grown hg54 λi hi=>by simpa [Value.ownBlock] using hi.symm
     have s7:=f54.size;have hl54:g54=w3.heap.size\/g54=w6.heap.size:=hl54.imp (λh=>by simpa [Value.ownBlock] using h.symm) id;have hdv:=f54.blk hdv (by omega);have h62:=f54.blk h62 (by omega);have t7:=X7.size;refine ⟨X7,?_⟩;exact fin hdv h54 h62 X7 (by omega) (by omega) (by omega) (by omega)
  ·refine wX (n:=n) rfl underlying23 mM rfl (by omega) (by omega) λw4 hdv x4 l4=>?_;have X4:=X3.trans x4;have s4:=x4.size;have t4:=X4.size;refine ⟨X4,?_⟩;refine pX kZ [(0,i64 who),(1,i64 4),(2,i64 life),(3,.bool share),(4,.slice (some ⟨w3.heap.size,0,none⟩) n n)] rfl rfl ?_;refine ⟨?_,?_⟩
   ·refine FT λw5 h49 x5 l5=>?_;have X5:=X4.trans x5;have h49:=aP h49 X4.size;have s5:=x5.size;have hdv:=hdv.ext x5;have t5:=X5.size;refine ⟨X5,?_⟩;refine ⟨?_,?_⟩
    ·refine NZ h49 (X5.own h.list) (by omega) (by omega) h.rowOne X5.size λg54 c54 w6 h54 hg54 hl54 l6=>?_;have X6:aG w w6:=X5.grown hg54 λi hi=>(h49.lt i hi).1;have f54:Fr (λi=>i=w4.heap.size) w5 w6:=Fr.of_grown hg54 λi hi=>by simpa [Value.ownBlock] using hi.symm
     have s6:=f54.size;have hl54:g54=w4.heap.size\/g54=w5.heap.size:=hl54.imp (λh=>by simpa [Value.ownBlock] using h.symm) id;have hdv:=f54.blk hdv (by omega);have t6:=X6.size;refine ⟨X6,?_⟩;refine V.ok (v:=.slice (some ⟨w6.heap.size,0,none⟩) 1 1) (w':=w6.alloc (.cells (⟨who,4,life,share,.slice (some ⟨w3.heap.size,0,none⟩) n n,List.replicate n 0⟩:bS).cells.toArray 127)) (by kernel_rfl) ?_;have h62:aY (w6.alloc (.cells (⟨who,4,life,share,.slice (some ⟨w3.heap.size,0,none⟩) n n,List.replicate n 0⟩:bS).cells.toArray 127)) w6.heap.size (⟨who,4,life,share,.slice (some ⟨w3.heap.size,0,none⟩) n n,List.replicate n 0⟩:bS).cells 127:=by unfold aY;rw [heap_alloc_new]
     have x7:aG w6 (w6.alloc (.cells (⟨who,4,life,share,.slice (some ⟨w3.heap.size,0,none⟩) n n,List.replicate n 0⟩:bS).cells.toArray 127)):=(aG.refl _).alloc _;have l7:=h62.lt;generalize w6.alloc (.cells (⟨who,4,life,share,.slice (some ⟨w3.heap.size,0,none⟩) n n,List.replicate n 0⟩:bS).cells.toArray 127)=w7 at h62 x7 l7 ⊢;have X7:=X6.trans x7;have s7:=x7.size;have hdv:=hdv.ext x7;have h54:=x7.own h54;have t7:=X7.size;refine ⟨X7,?_⟩;exact fin hdv h54 h62 X7 (by omega) (by omega) (by omega) (by omega)
    ·refine V.ok (v:=.slice (some ⟨w5.heap.size,0,none⟩) 1 1) (w':=w5.alloc (.cells (⟨who,4,life,share,.slice (some ⟨w3.heap.size,0,none⟩) n n,List.replicate n 0⟩:bS).cells.toArray 127)) (by kernel_rfl) ?_;have h62:aY (w5.alloc (.cells (⟨who,4,life,share,.slice (some ⟨w3.heap.size,0,none⟩) n n,List.replicate n 0⟩:bS).cells.toArray 127)) w5.heap.size (⟨who,4,life,share,.slice (some ⟨w3.heap.size,0,none⟩) n n,List.replicate n 0⟩:bS).cells 127:=by unfold aY;rw [heap_alloc_new]
     have x6:aG w5 (w5.alloc (.cells (⟨who,4,life,share,.slice (some ⟨w3.heap.size,0,none⟩) n n,List.replicate n 0⟩:bS).cells.toArray 127)):=(aG.refl _).alloc _;have l6:=h62.lt;generalize w5.alloc (.cells (⟨who,4,life,share,.slice (some ⟨w3.heap.size,0,none⟩) n n,List.replicate n 0⟩:bS).cells.toArray 127)=w6 at h62 x6 l6 ⊢;have X6:=X5.trans x6;have s6:=x6.size;have hdv:=hdv.ext x6;have h49:=x6.own h49;have t6:=X6.size;refine ⟨X6,?_⟩;refine NZ h49 (X6.own h.list) (by omega) (by omega) h.rowOne X6.size λg54 c54 w7 h54 hg54 hl54 l7=>?_;have X7:aG w w7:=X6.grown hg54 λi hi=>(h49.lt i hi).1;have f54:Fr (λi=>i=w4.heap.size) w6 w7:=Fr.of_grown hg54 λi hi=>by simpa [Value.ownBlock] using hi.symm
     have s7:=f54.size;have hl54:g54=w4.heap.size\/g54=w6.heap.size:=hl54.imp (λh=>by simpa [Value.ownBlock] using h.symm) id;have hdv:=f54.blk hdv (by omega);have h62:=f54.blk h62 (by omega);have t7:=X7.size;refine ⟨X7,?_⟩;exact fin hdv h54 h62 X7 (by omega) (by omega) (by omega) (by omega)
   ·refine V.ok (v:=.slice (some ⟨w4.heap.size,0,none⟩) 1 1) (w':=w4.alloc (.cells (⟨who,4,life,share,.slice (some ⟨w3.heap.size,0,none⟩) n n,List.replicate n 0⟩:bS).cells.toArray 127)) (by kernel_rfl) ?_;have h62:aY (w4.alloc (.cells (⟨who,4,life,share,.slice (some ⟨w3.heap.size,0,none⟩) n n,List.replicate n 0⟩:bS).cells.toArray 127)) w4.heap.size (⟨who,4,life,share,.slice (some ⟨w3.heap.size,0,none⟩) n n,List.replicate n 0⟩:bS).cells 127:=by unfold aY;rw [heap_alloc_new]
    have x5:aG w4 (w4.alloc (.cells (⟨who,4,life,share,.slice (some ⟨w3.heap.size,0,none⟩) n n,List.replicate n 0⟩:bS).cells.toArray 127)):=(aG.refl _).alloc _;have l5:=h62.lt;generalize w4.alloc (.cells (⟨who,4,life,share,.slice (some ⟨w3.heap.size,0,none⟩) n n,List.replicate n 0⟩:bS).cells.toArray 127)=w5 at h62 x5 l5 ⊢;have X5:=X4.trans x5;have s5:=x5.size;have hdv:=hdv.ext x5;have t5:=X5.size;refine ⟨X5,?_⟩;refine FT λw6 h49 x6 l6=>?_;have X6:=X5.trans x6;have h49:=aP h49 X5.size;have s6:=x6.size;have hdv:=hdv.ext x6;have h62:=h62.ext x6;have t6:=X6.size;refine ⟨X6,?_⟩;refine NZ h49 (X6.own h.list) (by omega) (by omega) h.rowOne X6.size λg54 c54 w7 h54 hg54 hl54 l7=>?_;have X7:aG w w7:=X6.grown hg54 λi hi=>(h49.lt i hi).1;have f54:Fr (λi=>i=w5.heap.size) w6 w7:=Fr.of_grown hg54 λi hi=>by simpa [Value.ownBlock] using hi.symm
    have s7:=f54.size;have hl54:g54=w5.heap.size\/g54=w6.heap.size:=hl54.imp (λh=>by simpa [Value.ownBlock] using h.symm) id;have hdv:=f54.blk hdv (by omega);have h62:=f54.blk h62 (by omega);have t7:=X7.size;refine ⟨X7,?_⟩;exact fin hdv h54 h62 X7 (by omega) (by omega) (by omega) (by omega)
 ·rintro w9 ⟨g',cap',dv,h9,s9,f9⟩ _;refine ⟨.inl ⟨_,rfl⟩,?_⟩;refine bB h9.ybox.boxed bW cM rfl (lA.2 ?_);exact .inr ⟨by first|exact hroom|omega|(intro hh;rcases hh with hh|hh<;>first|exact hh.elim|omega|exact absurd hh hroom),by simp,g',cap',dv,h9,s9,f9⟩
end
section
variable {q:QP} {w w':Ω} {K:O->Ω->Prop}
theorem aPq {B:Nat} {v sv:O} {l:List Int} (ho:w.ownsRow B 5 1 v 0 []) (h:gY w sv l) (hl:l.length<=1000000) (hB:B<=w.heap.size)
  (hk:∀ v' w',w'.ownsRow B 5 1 v' l.length (l.map u8)->w.grownBy w' v.ownBlock->(v'.ownBlock=v.ownBlock\/v'.ownBlock=some w.heap.size)->K v' w') :
  V prog (Builtin.append_ #[23,23] 23 #[v,sv]) w K:=by
 have go:aC w sv 1 l.length (l.map u8)->V prog (Builtin.append_ #[23,23] 23 #[v,sv]) w K:=λhs=>by
  refine apS lD ho hs (oJ _) (by omega) (by unfold maxLen;omega) hB λv' w' ho' hg hl=>?_;rw [Nat.zero_add,List.nil_append] at ho';exact hk v' w' ho' hg hl
 rcases h with ⟨rfl,rfl⟩|⟨ad,c,rfl,hb⟩
 ·exact go (aC.nil _ _)
 ·by_cases h0:0 < l.length
  ·exact go (hb h0)
  ·have hl0:l=[]:=List.eq_nil_of_length_eq_zero (by omega);subst hl0;obtain ⟨a,c1,hv⟩:=(aC.of_own ho).shape;subst hv;refine V.ok (uY underlying23 mM (Nat.zero_le _)) (hk _ _ ho ⟨rfl,rfl,rfl,Nat.le_refl _,λ_ _ _=>rfl⟩ (.inl rfl))
theorem dE.relist (h:dE q w) {B g54 c54:Nat} {dv:O} {d':List Int} {k:Nat} {x:bS} (hk:q.ar[k]?=some x) (h54:w.ownsRow B 127 5 (.slice (some ⟨g54,0,none⟩) q.ar.length c54) q.ar.length (iD q.ar)) (hdv:w.ownsRow B 5 1 dv d'.length (d'.map u8)) (hne:dv.ownBlock≠some g54) (hd:d'.length<=64) (hB:∀ i,B<=i->¬ nO q i/\¬ CJ q i) :
  dE { q with g:=g54,cap:=c54,ar:=q.ar.set k { x with dv:=dv,data:=d' } } ((w.setCell ⟨g54,k*5+4,none⟩ dv).setCell ⟨q.yb,1,none⟩ (.slice (some ⟨g54,0,none⟩) q.ar.length c54))/\Fr (λi=>i=g54) w (w.setCell ⟨g54,k*5+4,none⟩ dv)/\Fr (λi=>i=q.yb) (w.setCell ⟨g54,k*5+4,none⟩ dv) ((w.setCell ⟨g54,k*5+4,none⟩ dv).setCell ⟨q.yb,1,none⟩ (.slice (some ⟨g54,0,none⟩) q.ar.length c54)):=by
 have hkl:k < q.ar.length:=(List.getElem?_eq_some_iff.1 hk).1;have hgB:B<=g54:=(h54.lt _ rfl).1;have f1:Fr (λi=>i=g54) w (w.setCell ⟨g54,k*5+4,none⟩ dv):=Fr.of_set rfl;have h1:=h.fr f1 λi hi=>hB i (hi▸hgB);have row1:=(h54.stored (k*5+4) dv).1;rw [<- wG hk dv d'] at row1;have hdv1:=f1.own hdv λi hi e=>hne (e▸hi)
 have each:∀ a∈q.ar.set k { x with dv:=dv,data:=d' },a={ x with dv:=dv,data:=d' }\/a∈q.ar:=by
  intro a ha;obtain ⟨i,hi⟩:=List.getElem?_of_mem ha;by_cases hik:k=i
  ·subst hik;rw [List.getElem?_set_self hkl] at hi;cases hi;exact .inl rfl
  ·rw [List.getElem?_set_ne hik] at hi;exact .inr (List.mem_of_getElem? hi)
 have hlen:(q.ar.set k { x with dv:=dv,data:=d' }).length=q.ar.length:=by simp
 obtain ⟨h2,f2⟩:=h1.setL (g':=g54) (cap':=c54) (ar':=q.ar.set k { x with dv:=dv,data:=d' }) (by rw [hlen];exact aP row1 (Nat.zero_le _)) (λa ha=>by
   rcases each a ha with rfl|ha
   ·exact aP hdv1 (Nat.zero_le _)
   ·exact h1.data a ha) (λa ha=>by
   rcases each a ha with rfl|ha
   ·exact hd
   ·exact h.len a ha) (by rw [hlen];exact h.two) (by rw [hlen];exact h.cnt) (hB g54 hgB).1 (λa ha i hi=>by
   rcases each a ha with rfl|ha
   ·exact (hB i (hdv.lt i hi).1).1
   ·exact λhm=>h.dj i hm (.inr (.inl ⟨a,ha,hi⟩)))
 rw [hlen] at h2 f2;exact ⟨h2,f1,f2⟩
theorem dE.stpR (h:dE q w) {w1:Ω} {g54 c54:Nat} {dv:O} {d':List Int} {k:Nat} {x:bS} (hk:q.ar[k]?=some x) (hf:Fr (nO q) w w1) (hg:w.heap.size<=g54) (hdv:∀ i,dv.ownBlock=some i->w.heap.size<=i):mK q { q with g:=g54,cap:=c54,ar:=q.ar.set k { x with dv:=dv,data:=d' } } w w1:=by
 have hkl:k < q.ar.length:=(List.getElem?_eq_some_iff.1 hk).1;refine h.stpL hf (.inr hg) λa ha i hi=>?_;obtain ⟨j,hj⟩:=List.getElem?_of_mem ha;by_cases hik:k=j
 ·subst hik;rw [List.getElem?_set_self hkl] at hj;cases hj;exact .inr (hdv i hi)
 ·rw [List.getElem?_set_ne hik] at hj;exact .inl ⟨a,List.mem_of_getElem? hj,hi⟩
theorem dE.above (h:dE q w):∀ i,w.heap.size<=i->¬ nO q i/\¬ CJ q i:=λi hi=>⟨λhm=>by have:=h.hi i (.inl hm);omega,λhm=>by have:=h.hi i (.inr hm);omega⟩
theorem NA (h:dE q w) {k:Nat} {x:bS} (hk:q.ar[k]?=some x) {r:Int} (hr:r=(k:Int)+1) {a:Nat} {sv:O} {S:List Int} (hS:dL w sv S) (hn:a+S.length<=x.data.length) :
  aD prog 107 #[LY q,i64 r,i64 (a:Int),sv] w λ_ w'=>∃ g' cap' dv,dE { q with g:=g',cap:=cap',ar:=q.ar.set k { x with dv:=dv,data:=x.data.take a++S++x.data.drop (a+S.length) } } w'/\mK q { q with g:=g',cap:=cap',ar:=q.ar.set k { x with dv:=dv,data:=x.data.take a++S++x.data.drop (a+S.length) } } w w'/\Fr (λi=>i=q.yb) w w':=by
 have hkl:k < q.ar.length:=(List.getElem?_eq_some_iff.1 hk).1;have hxm:=List.mem_of_getElem? hk;have hxl:=h.len x hxm;have hcnt:=h.cnt;have hw:=h.hi;apply aKp;unfold JE;refine kC lD [] rfl rfl (by simp) rfl λv1 w1 ho1 x1=>?_;refine ⟨.inl ⟨_,rfl⟩,?_⟩;refine bB (h.ybox.ext x1).boxed bW cM rfl (iJ.2 ?_);rw [show IntKind.i64.wrap (r - 1)=(k:Int) from by rw [aX (by omega)];omega];refine V.ok (nG (by omega) (by omega)) ?_;have e:0+((k:Nat):Int).toNat*5=k*5:=by omega
 rw [e];refine V.ok iN ?_;refine V.ok (jG ((h.ext x1).get hk (by omega:4 < 5))) ?_;have s1:=x1.size;refine apS lD ho1 (aC.of_own (x1.own (h.data x hxm))) (oJ _) (by omega) (by unfold maxLen;omega) s1 λv2 w2 ho2 hg2 hl2=>?_;rw [Nat.zero_add,List.nil_append] at ho2;have x2:aG w w2:=x1.grown hg2 λi hi=>(ho1.lt i hi).1;refine ⟨λv w'=>∃ (i:Nat) (cur:List Int),v=i64 i/\i<=S.length/\qX x.data S a i cur/\w'.ownsRow w.heap.size 5 1 v2 x.data.length (cur.map u8)/\aG w w',λv _=>S.length - (RowKit.intOf v).toNat,⟨0,x.data,rfl,Nat.zero_le _,⟨rfl,λj=>by rw [if_neg (by omega)]⟩,ho2,x2⟩,?_⟩;rintro _ w3 ⟨i,cur,rfl,hi,hcur,ho3,x3⟩ _;have hS3:=hS.ext x3;refine gD iH hS3 ?_;refine aV.2 (aL (λhlt=>?_) λhge=>?_)
 ·refine bT.2 ?_;rw [show IntKind.i64.wrap ((a:Int)+(i:Int))=((a+i:Nat):Int) from by rw [aX (by omega)];omega];refine mH iH uK hS3 (by omega) (by omega) (rC (by omega)) ?_;refine stO iH mM ho3 (by omega) (by omega) rfl λw4 ho4 hg4=>?_;rw [Int.toNat_natCast] at ho4;refine mR (by omega) ?_;refine ⟨⟨i+1,cur.set (a+i) (S.getD i 0),rfl,by omega,hcur.step (by omega) (by omega),?_,x3.grown hg4 λj hj=>(ho3.lt j hj).1⟩,by simp only [aU];omega⟩;simpa [List.map_set] using ho4
 ·have hin:i=S.length:=by omega
  subst hin;have hd:=hcur.done hn;refine FT λw4 h49 x4 l4=>?_;have X4:=x3.trans x4;have h49:=aP h49 x3.size;have s4:=X4.size;have z3:=x3.size;refine ⟨.inl ⟨_,rfl⟩,?_⟩;refine bB (h.ybox.ext X4).boxed bW cM rfl ?_;refine NZ h49 (X4.own h.list) (by omega) (by omega) h.rowOne s4 λg54 c54 w5 h54 hg54 hl54 l5=>?_;have X5:aG w w5:=X4.grown hg54 λi hi=>(h49.lt i hi).1;have f54:Fr (λi=>i=w3.heap.size) w4 w5:=Fr.of_grown hg54 λi hi=>by simpa [Value.ownBlock] using hi.symm
  have hl54:g54=w3.heap.size\/g54=w4.heap.size:=hl54.imp (λh=>by simpa [Value.ownBlock] using h.symm) id;have hv2:∀ j,v2.ownBlock=some j->j < w3.heap.size:=λj hj=>(ho3.lt j hj).2;have ho5:=f54.own (x4.own ho3) λj hj e=>by have:=hv2 j hj;omega
  refine iJ.2 ?_;rw [show IntKind.i64.wrap (r - 1)=(k:Int) from by rw [aX (by omega)];omega];refine V.ok (nG (by omega) (by omega)) ?_;rw [e];refine V.ok iN ?_;have hcell:=h54.cellAt (k*5+4) (by omega);rw [iS hk (by omega:4 < 5)] at hcell;refine U.ok (kG lJ (bR ho5) hcell (h54.frozenAt _)) ?_;refine ⟨.inl ⟨_,rfl⟩,?_⟩;have hB:=h.above;have hl:(x.data.take a++S++x.data.drop (a+S.length)).length=x.data.length:=by rw [<- hd];exact hcur.1
  have ho5':w5.ownsRow w.heap.size 5 1 v2 (x.data.take a++S++x.data.drop (a+S.length)).length ((x.data.take a++S++x.data.drop (a+S.length)).map u8):=by
   rw [hl,<- hd];exact ho5
  obtain ⟨h6,f6,f7⟩:=(h.ext X5).relist hk h54 ho5' (λe=>by have:=hv2 _ e;omega) (by rw [hl];exact hxl) hB;refine V.ok pC ?_;have hy6:=f6.blk ((h.ext X5).ybox) (λe=>(hB _ (h54.lt _ rfl).1).1 (.inr (.inl e.symm)));refine sT oI hy6 rfl (by simp) rfl ?_;refine ⟨g54,c54,v2,h6,h.stpR hk ?_ (h54.lt _ rfl).1 (λi hi=>(ho5.lt i hi).1),?_⟩
  all_goals have g1:aG w (w5.setCell ⟨g54,k*5+4,none⟩ v2):=f6.ext X5 λi hi=>by rw [hi];exact (h54.lt _ rfl).1
  ·exact (Fr.of_ext (S:=nO q) g1).trans (f7.mono λi hi=>.inr (.inl hi)) λ_ _ h=>h
  ·exact (Fr.of_ext (S:=λi=>i=q.yb) g1).trans f7 λ_ _ h=>h
end
def jP (t0 t2 t3 t4 t5 t6 t16:O) (w16:Ω) (R:O->Ω->Prop):Prop:=
 ∃ J3:NP 1,
 (V prog (do eqGuard .eql 3 (.tmp 75) (.const (i64 17)) t3 (i64 17);binOp .eql 3 t3 (i64 17)) w16 λt77 w21=>
 aO t77 (
 J3 t77 w21) (
 V prog (do eqGuard .eql 3 (.tmp 75) (.const (i64 18)) t3 (i64 18);binOp .eql 3 t3 (i64 18)) w21 λt78 w22=>
 J3 t78 w22)) /\
 ∀ (t76:O),∀ w23:Ω,J3 t76 w23->∀ _f:bP,
 aO t76 (
 V prog (Instr.indexAt 42 t16 (i64 1)) w23 λt80 w24=>
 V prog (Instr.loadAt 3 t80) w24 λt81 w25=>
 V prog (do eqGuard .eql 3 (.tmp 81) (.const (i64 0)) t81 (i64 0);binOp .eql 3 t81 (i64 0)) w25 λt82 w26=>
 aO t82 (
 R (.tuple #[(Value.int IntKind.i32 0),(i64 28419)]) w26) (
 aI w26 λS18 w27=>
 aB prog S18 (Instr.indexAt 37 t6 (i64 0)) λt85=>
 aB prog S18 (Instr.loadAt 21 t85) λt86=>
 aB prog S18 (Instr.indexAt 37 t6 (i64 1)) λt88=>
 aB prog S18 (Instr.loadAt 21 t88) λt89=>
 aD prog 68 #[t3,t86,t89] w27 λt90 w28=>
 S18 w28 /\
 R (.tuple #[t90,(i64 36864)]) w28)) (
 V prog (do eqGuard .eql 3 (.tmp 75) (.const (i64 27)) t3 (i64 27);binOp .eql 3 t3 (i64 27)) w23 λt92 w29=>
 aO t92 (
 V prog (Instr.indexAt 42 t16 (i64 0)) w29 λt94 w30=>
 V prog (Instr.loadAt 3 t94) w30 λt95 w31=>
 V prog (binOp .lss 3 t95 (i64 0)) w31 λt96 w32=>
 gd t96 false (λK=>K t16 w32) w32 λt98 w33=>
 gd t96 false (λK=>V prog (Instr.indexAt 42 t98 (i64 0)) w33 K) w33 λt99 w34=>
 gd t96 false (λK=>V prog (Instr.loadAt 3 t99) w34 K) w34 λt100 w35=>
 gd t96 false (λK=>V prog (binOp .gtr 3 t100 (i64 64)) w35 K) w35 λt101 w36=>
 aN t96 (.bool true) t101 λt102=>
 aO t102 (
 R (.tuple #[(Value.int IntKind.i32 0),(i64 28425)]) w36) (
 aI w36 λS22 w38=>
 Go.Vc.aM (t0) /\
 aB prog S22 (Instr.fieldAt 139 t0 0) λt106=>
 aB prog S22 (Instr.loadAt 137 t106) λt107=>
 aB prog S22 (binOp .rem 3 t5 (i64 4)) λt111=>
 aB prog S22 (binOp .add 3 t111 (i64 4)) λt112=>
 aB prog S22 (binOp .rem 3 t112 (i64 4)) λt113=>
 aB prog S22 (binOp .geq 3 t5 (i64 4)) λt115=>
 aB prog S22 (Instr.indexAt 42 t16 (i64 0)) λt117=>
 aB prog S22 (Instr.loadAt 3 t117) λt118=>
 aD prog 103 #[t107,t2,t4,t113,t115,t118] w38 λt119 w39=>
 S22 w39 /\
 aB prog S22 (Instr.extract t119 0) λt120=>
 aB prog S22 (Instr.extract t119 1) λt121=>
 V prog (Op.unary UnOp.not t121) w39 λt123 w40=>
 aO t123 (
 R (.tuple #[(Value.int IntKind.i32 0),(i64 28421)]) w40) (
 V prog (convert 3 21 t120) w40 λt125 w41=>
 R (.tuple #[t125,(i64 36864)]) w41))) (
 V prog (do eqGuard .eql 3 (.tmp 75) (.const (i64 28)) t3 (i64 28);binOp .eql 3 t3 (i64 28)) w29 λt127 w42=>
 aO t127 (
 aI w42 λS27 w43=>
 Go.Vc.aM (t0) /\
 aB prog S27 (Instr.fieldAt 139 t0 0) λt130=>
 aB prog S27 (Instr.loadAt 137 t130) λt131=>
 aB prog S27 (Instr.indexAt 42 t16 (i64 0)) λt133=>
 aB prog S27 (Instr.loadAt 3 t133) λt134=>
 aD prog 104 #[t131,t134,t2] w43 λt136 w44=>
 S27 w44 /\
 V prog (do eqGuard .neq 3 (.tmp 137) (.const (i64 36864)) t136 (i64 36864);binOp .neq 3 t136 (i64 36864)) w44 λt138 w45=>
 aO t138 (
 R (.tuple #[(Value.int IntKind.i32 0),t136]) w45) (
 ∃ J4:NP 1,
 (aI w45 λS30 w46=>
 Go.Vc.aM (t0) /\
 aB prog S30 (Instr.fieldAt 139 t0 0) λt143=>
 aB prog S30 (Instr.loadAt 137 t143) λt144=>
 aB prog S30 (Instr.indexAt 42 t16 (i64 0)) λt146=>
 aB prog S30 (Instr.loadAt 3 t146) λt147=>
 (aD prog 105 #[t144,t147] w46 λt148 w47=>
 S30 w47 /\
 aB prog S30 (Instr.extract t148 0) λt149=>
 aB prog S30 (Instr.extract t148 1) λ_=>
 V prog (Instr.alloc 127 true (.tuple #[])) w47 λt23 w48=>
 S30 w48 /\
 U prog (Instr.storeAt 127 t23 t149) w48 λ_ w49=>
 S30 w49 /\
 J4 t23 w49) /\
 (V prog (Instr.alloc 127 true (.tuple #[])) w46 λt23_1 w50=>
 S30 w50 /\
 aD prog 105 #[t144,t147] w50 λt148_1 w51=>
 S30 w51 /\
 aB prog S30 (Instr.extract t148_1 0) λt149_1=>
 aB prog S30 (Instr.extract t148_1 1) λ_=>
 U prog (Instr.storeAt 127 t23_1 t149_1) w51 λ_ w52=>
 S30 w52 /\
 J4 t23_1 w52)) /\
 ∀ (t23_2:O),∀ w53:Ω,J4 t23_2 w53->∀ _f:bP,
 V prog (Instr.fieldAt 127 t23_2 4) w53 λt151 w54=>
 V prog (Instr.loadAt 23 t151) w54 λt152 w55=>
 V prog (Builtin.len_ #[23] 3 #[t152]) w55 λt153 w56=>
 V prog (convert 3 21 t153) w56 λt154 w57=>
 R (.tuple #[t154,(i64 36864)]) w57)) (
 ∃ J5:NP 1,
 (V prog (do eqGuard .eql 3 (.tmp 75) (.const (i64 29)) t3 (i64 29);binOp .eql 3 t3 (i64 29)) w42 λt156 w58=>
 aO t156 (
 J5 t156 w58) (
 V prog (do eqGuard .eql 3 (.tmp 75) (.const (i64 30)) t3 (i64 30);binOp .eql 3 t3 (i64 30)) w58 λt157 w59=>
 J5 t157 w59)) /\
 ∀ (t155:O),∀ w60:Ω,J5 t155 w60->∀ _f:bP,
 aO t155 (
 aI w60 λS34 w61=>
 Go.Vc.aM (t0) /\
 aB prog S34 (Instr.fieldAt 139 t0 0) λt160=>
 aB prog S34 (Instr.loadAt 137 t160) λt161=>
 aB prog S34 (Instr.indexAt 42 t16 (i64 0)) λt163=>
 aB prog S34 (Instr.loadAt 3 t163) λt164=>
 aB prog S34 (Instr.indexAt 42 t16 (i64 1)) λt166=>
 aB prog S34 (Instr.loadAt 3 t166) λt167=>
 aD prog 106 #[t161,t164,t167,(i64 1),t2] w61 λt169 w62=>
 S34 w62 /\
 V prog (do eqGuard .neq 3 (.tmp 170) (.const (i64 36864)) t169 (i64 36864);binOp .neq 3 t169 (i64 36864)) w62 λt171 w63=>
 aO t171 (
 R (.tuple #[(Value.int IntKind.i32 0),t169]) w63) (
 V prog (do eqGuard .eql 3 (.tmp 173) (.const (i64 30)) t3 (i64 30);binOp .eql 3 t3 (i64 30)) w63 λt174 w64=>
 aO t174 (
 aI w64 λS38 w65=>
 Go.Vc.aM (t0) /\
 aB prog S38 (Instr.fieldAt 139 t0 0) λt177=>
 aB prog S38 (Instr.loadAt 137 t177) λt178=>
 aB prog S38 (Instr.indexAt 42 t16 (i64 0)) λt180=>
 aB prog S38 (Instr.loadAt 3 t180) λt181=>
 aB prog S38 (Instr.indexAt 42 t16 (i64 1)) λt183=>
 aB prog S38 (Instr.loadAt 3 t183) λt184=>
 aB prog S38 (Instr.indexAt 42 t16 (i64 2)) λt186=>
 aB prog S38 (Instr.loadAt 3 t186) λt187=>
 aB prog S38 (convert 3 5 t187) λt188=>
 V prog (Instr.buildSlice 23 1 #[(0,t188)]) w65 λt189 w66=>
 S38 w66 /\
 aD prog 107 #[t178,t181,t184,t189] w66 λ_ w67=>
 S38 w67 /\
 R (.tuple #[(Value.int IntKind.i32 0),(i64 36864)]) w67) (
 ∃ J6:NP 1,
 (aI w64 λS40 w68=>
 Go.Vc.aM (t0) /\
 aB prog S40 (Instr.fieldAt 139 t0 0) λt194=>
 aB prog S40 (Instr.loadAt 137 t194) λt195=>
 aB prog S40 (Instr.indexAt 42 t16 (i64 0)) λt197=>
 aB prog S40 (Instr.loadAt 3 t197) λt198=>
 (aD prog 105 #[t195,t198] w68 λt199 w69=>
 S40 w69 /\
 aB prog S40 (Instr.extract t199 0) λt200=>
 aB prog S40 (Instr.extract t199 1) λ_=>
 V prog (Instr.alloc 127 true (.tuple #[])) w69 λt26 w70=>
 S40 w70 /\
 U prog (Instr.storeAt 127 t26 t200) w70 λ_ w71=>
 S40 w71 /\
 J6 t26 w71) /\
 (V prog (Instr.alloc 127 true (.tuple #[])) w68 λt26_1 w72=>
 S40 w72 /\
 aD prog 105 #[t195,t198] w72 λt199_1 w73=>
 S40 w73 /\
 aB prog S40 (Instr.extract t199_1 0) λt200_1=>
 aB prog S40 (Instr.extract t199_1 1) λ_=>
 U prog (Instr.storeAt 127 t26_1 t200_1) w73 λ_ w74=>
 S40 w74 /\
 J6 t26_1 w74)) /\
 ∀ (t26_2:O),∀ w75:Ω,J6 t26_2 w75->∀ _f:bP,
 aI w75 λS41 w76=>
 aB prog S41 (Instr.fieldAt 127 t26_2 4) λt202=>
 aB prog S41 (Instr.loadAt 23 t202) λt203=>
 aB prog S41 (Instr.indexAt 42 t16 (i64 1)) λt205=>
 aB prog S41 (Instr.loadAt 3 t205) λt206=>
 aB prog S41 (Instr.indexAt 23 t203 t206) λt207=>
 aB prog S41 (Instr.loadAt 5 t207) λt208=>
 aB prog S41 (convert 5 21 t208) λt209=>
 R (.tuple #[t209,(i64 36864)]) w76))) (
 ∃ J7:NP 1,
 (V prog (do eqGuard .eql 3 (.tmp 75) (.const (i64 31)) t3 (i64 31);binOp .eql 3 t3 (i64 31)) w60 λt211 w77=>
 aO t211 (
 J7 t211 w77) (
 V prog (do eqGuard .eql 3 (.tmp 75) (.const (i64 32)) t3 (i64 32);binOp .eql 3 t3 (i64 32)) w77 λt212 w78=>
 J7 t212 w78)) /\
 ∀ (t210:O),∀ w79:Ω,J7 t210 w79->∀ _f:bP,
 aO t210 (
 aI w79 λS44 w80=>
 Go.Vc.aM (t0) /\
 aB prog S44 (Instr.fieldAt 139 t0 0) λt215=>
 aB prog S44 (Instr.loadAt 137 t215) λt216=>
 aB prog S44 (Instr.indexAt 42 t16 (i64 0)) λt218=>
 aB prog S44 (Instr.loadAt 3 t218) λt219=>
 aB prog S44 (Instr.indexAt 42 t16 (i64 1)) λt221=>
 aB prog S44 (Instr.loadAt 3 t221) λt222=>
 aB prog S44 (Instr.indexAt 42 t16 (i64 4)) λt224=>
 aB prog S44 (Instr.loadAt 3 t224) λt225=>
 aD prog 106 #[t216,t219,t222,t225,t2] w80 λt227 w81=>
 S44 w81 /\
 V prog (do eqGuard .neq 3 (.tmp 228) (.const (i64 36864)) t227 (i64 36864);binOp .neq 3 t227 (i64 36864)) w81 λt229 w82=>
 aO t229 (
 R (.tuple #[(Value.int IntKind.i32 0),t227]) w82) (
 aI w82 λS47 w83=>
 Go.Vc.aM (t0) /\
 aB prog S47 (Instr.fieldAt 139 t0 0) λt233=>
 aB prog S47 (Instr.loadAt 137 t233) λt234=>
 aB prog S47 (Instr.indexAt 42 t16 (i64 2)) λt236=>
 aB prog S47 (Instr.loadAt 3 t236) λt237=>
 aB prog S47 (Instr.indexAt 42 t16 (i64 3)) λt239=>
 aB prog S47 (Instr.loadAt 3 t239) λt240=>
 aB prog S47 (Instr.indexAt 42 t16 (i64 4)) λt242=>
 aB prog S47 (Instr.loadAt 3 t242) λt243=>
 aD prog 106 #[t234,t237,t240,t243,t2] w83 λt245 w84=>
 S47 w84 /\
 V prog (do eqGuard .neq 3 (.tmp 246) (.const (i64 36864)) t245 (i64 36864);binOp .neq 3 t245 (i64 36864)) w84 λt247 w85=>
 aO t247 (
 R (.tuple #[(Value.int IntKind.i32 0),t245]) w85) (
 ∃ J8:NP 1,
 (aI w85 λS50 w86=>
 Go.Vc.aM (t0) /\
 aB prog S50 (Instr.fieldAt 139 t0 0) λt252=>
 aB prog S50 (Instr.loadAt 137 t252) λt253=>
 aB prog S50 (Instr.indexAt 42 t16 (i64 0)) λt255=>
 aB prog S50 (Instr.loadAt 3 t255) λt256=>
 (aD prog 105 #[t253,t256] w86 λt257 w87=>
 S50 w87 /\
 aB prog S50 (Instr.extract t257 0) λt258=>
 aB prog S50 (Instr.extract t257 1) λ_=>
 V prog (Instr.alloc 127 true (.tuple #[])) w87 λt30 w88=>
 S50 w88 /\
 U prog (Instr.storeAt 127 t30 t258) w88 λ_ w89=>
 S50 w89 /\
 J8 t30 w89) /\
 (V prog (Instr.alloc 127 true (.tuple #[])) w86 λt30_1 w90=>
 S50 w90 /\
 aD prog 105 #[t253,t256] w90 λt257_1 w91=>
 S50 w91 /\
 aB prog S50 (Instr.extract t257_1 0) λt258_1=>
 aB prog S50 (Instr.extract t257_1 1) λ_=>
 U prog (Instr.storeAt 127 t30_1 t258_1) w91 λ_ w92=>
 S50 w92 /\
 J8 t30_1 w92)) /\
 ∀ (t30_2:O),∀ w93:Ω,J8 t30_2 w93->∀ _f:bP,
 ∃ J9:NP 1,
 (aI w93 λS51 w94=>
 Go.Vc.aM (t0) /\
 aB prog S51 (Instr.fieldAt 139 t0 0) λt263=>
 aB prog S51 (Instr.loadAt 137 t263) λt264=>
 aB prog S51 (Instr.indexAt 42 t16 (i64 2)) λt266=>
 aB prog S51 (Instr.loadAt 3 t266) λt267=>
 (aD prog 105 #[t264,t267] w94 λt268 w95=>
 S51 w95 /\
 aB prog S51 (Instr.extract t268 0) λt269=>
 aB prog S51 (Instr.extract t268 1) λ_=>
 V prog (Instr.alloc 127 true (.tuple #[])) w95 λt32 w96=>
 S51 w96 /\
 U prog (Instr.storeAt 127 t32 t269) w96 λ_ w97=>
 S51 w97 /\
 J9 t32 w97) /\
 (V prog (Instr.alloc 127 true (.tuple #[])) w94 λt32_1 w98=>
 S51 w98 /\
 aD prog 105 #[t264,t267] w98 λt268_1 w99=>
 S51 w99 /\
 aB prog S51 (Instr.extract t268_1 0) λt269_1=>
 aB prog S51 (Instr.extract t268_1 1) λ_=>
 U prog (Instr.storeAt 127 t32_1 t269_1) w99 λ_ w100=>
 S51 w100 /\
 J9 t32_1 w100)) /\
 ∀ (t32_2:O),∀ w101:Ω,J9 t32_2 w101->∀ _f:bP,
 aI w101 λS52 w102=>
 aB prog S52 (Instr.fieldAt 127 t32_2 4) λt271=>
 aB prog S52 (Instr.loadAt 23 t271) λt272=>
 aB prog S52 (Instr.indexAt 42 t16 (i64 3)) λt274=>
 aB prog S52 (Instr.loadAt 3 t274) λt275=>
 aB prog S52 (Instr.indexAt 42 t16 (i64 3)) λt277=>
 aB prog S52 (Instr.loadAt 3 t277) λt278=>
 aB prog S52 (Instr.indexAt 42 t16 (i64 4)) λt280=>
 aB prog S52 (Instr.loadAt 3 t280) λt281=>
 aB prog S52 (binOp .add 3 t278 t281) λt282=>
 aB prog S52 (Instr.sliceAt 23 t272 (some t275) (some t282) none) λt283=>
 V prog (do eqGuard .eql 3 (.tmp 284) (.const (i64 31)) t3 (i64 31);binOp .eql 3 t3 (i64 31)) w102 λt285 w103=>
 aO t285 (
 aI w103 λS54 w104=>
 Go.Vc.aM (t0) /\
 aB prog S54 (Instr.fieldAt 139 t0 0) λt288=>
 aB prog S54 (Instr.loadAt 137 t288) λt289=>
 aB prog S54 (Instr.indexAt 42 t16 (i64 0)) λt291=>
 aB prog S54 (Instr.loadAt 3 t291) λt292=>
 aB prog S54 (Instr.indexAt 42 t16 (i64 1)) λt294=>
 aB prog S54 (Instr.loadAt 3 t294) λt295=>
 aD prog 107 #[t289,t292,t295,t283] w104 λ_ w105=>
 S54 w105 /\
 R (.tuple #[(Value.int IntKind.i32 0),(i64 36864)]) w105) (
 aI w103 λS56 w106=>
 aB prog S56 (Instr.fieldAt 127 t30_2 4) λt298=>
 aB prog S56 (Instr.loadAt 23 t298) λt299=>
 aB prog S56 (Instr.indexAt 42 t16 (i64 1)) λt301=>
 aB prog S56 (Instr.loadAt 3 t301) λt302=>
 aB prog S56 (Instr.indexAt 42 t16 (i64 1)) λt304=>
 aB prog S56 (Instr.loadAt 3 t304) λt305=>
 aB prog S56 (Instr.indexAt 42 t16 (i64 4)) λt307=>
 aB prog S56 (Instr.loadAt 3 t307) λt308=>
 aB prog S56 (binOp .add 3 t305 t308) λt309=>
 aB prog S56 (Instr.sliceAt 23 t299 (some t302) (some t309) none) λt310=>
 aB prog S56 (convert 23 9 t310) λt311=>
 aB prog S56 (convert 23 9 t283) λt313=>
 aB prog S56 (do eqGuard .eql 9 (.tmp 311) (.tmp 313) t311 t313;binOp .eql 9 t311 t313) λt314=>
 aO t314 (
 R (.tuple #[(Value.int IntKind.i32 1),(i64 36864)]) w106) (
 R (.tuple #[(Value.int IntKind.i32 0),(i64 36864)]) w106))))) (
 aI w79 λS59 w107=>
 Go.Vc.aM (t0) /\
 aB prog S59 (Instr.fieldAt 139 t0 0) λt317=>
 aB prog S59 (Instr.loadAt 137 t317) λt318=>
 aB prog S59 (Instr.indexAt 42 t16 (i64 0)) λt320=>
 aB prog S59 (Instr.loadAt 3 t320) λt321=>
 aB prog S59 (Instr.indexAt 42 t16 (i64 1)) λt323=>
 aB prog S59 (Instr.loadAt 3 t323) λt324=>
 aB prog S59 (Instr.indexAt 42 t16 (i64 2)) λt326=>
 aB prog S59 (Instr.loadAt 3 t326) λt327=>
 aD prog 106 #[t318,t321,t324,t327,t2] w107 λt329 w108=>
 S59 w108 /\
 V prog (do eqGuard .neq 3 (.tmp 330) (.const (i64 36864)) t329 (i64 36864);binOp .neq 3 t329 (i64 36864)) w108 λt331 w109=>
 aO t331 (
 R (.tuple #[(Value.int IntKind.i32 0),t329]) w109) (
 ∃ J10:NP 1,
 (aI w109 λS62 w110=>
 Go.Vc.aM (t0) /\
 aB prog S62 (Instr.fieldAt 139 t0 0) λt336=>
 aB prog S62 (Instr.loadAt 137 t336) λt337=>
 aB prog S62 (Instr.indexAt 42 t16 (i64 0)) λt339=>
 aB prog S62 (Instr.loadAt 3 t339) λt340=>
 (aD prog 105 #[t337,t340] w110 λt341 w111=>
 S62 w111 /\
 aB prog S62 (Instr.extract t341 0) λt342=>
 aB prog S62 (Instr.extract t341 1) λ_=>
 V prog (Instr.alloc 127 true (.tuple #[])) w111 λt36 w112=>
 S62 w112 /\
 U prog (Instr.storeAt 127 t36 t342) w112 λ_ w113=>
 S62 w113 /\
 J10 t36 w113) /\
 (V prog (Instr.alloc 127 true (.tuple #[])) w110 λt36_1 w114=>
 S62 w114 /\
 aD prog 105 #[t337,t340] w114 λt341_1 w115=>
 S62 w115 /\
 aB prog S62 (Instr.extract t341_1 0) λt342_1=>
 aB prog S62 (Instr.extract t341_1 1) λ_=>
 U prog (Instr.storeAt 127 t36_1 t342_1) w115 λ_ w116=>
 S62 w116 /\
 J10 t36_1 w116)) /\
 ∀ (t36_2:O),∀ w117:Ω,J10 t36_2 w117->∀ _f:bP,
 Go.Vc.aM (t0) /\
 V prog (Instr.fieldAt 139 t0 3) w117 λt346 w119=>
 ∃ J11:NP 1,
 (V prog (do eqGuard .neq 3 (.tmp 347) (.const (i64 1)) t4 (i64 1);binOp .neq 3 t4 (i64 1)) w119 λt348 w120=>
 aO t348 (
 Go.Vc.aM (t0) /\
 V prog (Instr.fieldAt 139 t0 4) w120 λt351 w122=>
 J11 t351 w122) (
 J11 t346 w120)) /\
 ∀ (t38:O),∀ w123:Ω,J11 t38 w123->∀ _f:bP,
 aI w123 λS66 w124=>
 aB prog S66 (Instr.indexAt 42 t16 (i64 2)) λt353=>
 aB prog S66 (Instr.loadAt 3 t353) λt354=>
 Go.Vc.aM (t38) /\
 aB prog S66 (Instr.loadAt 23 t38) λt357=>
 aB prog S66 (Builtin.len_ #[23] 3 #[t357]) λt358=>
 aB prog S66 (binOp .sub 3 (i64 128) t358) λt359=>
 aB prog S66 (binOp .gtr 3 t354 t359) λt360=>
 aO t360 (
 R (.tuple #[(Value.int IntKind.i32 0),(i64 28425)]) w124) (
 aI w124 λS68 w125=>
 Go.Vc.aM (t38) /\
 aB prog S68 (Instr.loadAt 23 t38) λt365=>
 aB prog S68 (Instr.fieldAt 127 t36_2 4) λt367=>
 aB prog S68 (Instr.loadAt 23 t367) λt368=>
 aB prog S68 (Instr.indexAt 42 t16 (i64 1)) λt370=>
 aB prog S68 (Instr.loadAt 3 t370) λt371=>
 aB prog S68 (Instr.indexAt 42 t16 (i64 1)) λt373=>
 aB prog S68 (Instr.loadAt 3 t373) λt374=>
 aB prog S68 (Instr.indexAt 42 t16 (i64 2)) λt376=>
 aB prog S68 (Instr.loadAt 3 t376) λt377=>
 aB prog S68 (binOp .add 3 t374 t377) λt378=>
 aB prog S68 (Instr.sliceAt 23 t368 (some t371) (some t378) none) λt379=>
 V prog (Instr.buildSlice 23 0 #[]) w125 λt362 w126=>
 S68 w126 /\
 V prog (Builtin.append_ #[23,23] 23 #[t362,t365]) w126 λt366 w127=>
 S68 w127 /\
 V prog (Builtin.append_ #[23,23] 23 #[t366,t379]) w127 λt380 w128=>
 S68 w128 /\
 Go.Vc.aM (t38) /\
 U prog (Instr.storeAt 23 t38 t380) w128 λ_ w129=>
 R (.tuple #[(Value.int IntKind.i32 0),(i64 36864)]) w129)))))))
theorem MF:∀ {l:List vC} {k:Nat} {e:vC} {j:Nat},l[k]?=some e->j < 4->(oM l)[k*4+j]?=e.cells[j]?
 | [],k,e,j,h,_=>by simp at h
 | b::l,0,e,j,h,hj=>by
  simp at h;subst h;show (b.cells++oM l)[0*4+j]?=_;rw [List.getElem?_append_left (by simp [vC.cells];omega)];simp
 | b::l,k+1,e,j,h,hj=>by
  have h':l[k]?=some e:=by simpa using h
  show (b.cells++oM l)[(k+1)*4+j]?=_;rw [List.getElem?_append_right (by simp [vC.cells];omega),<- MF h' hj]
  congr 1
  simp [vC.cells];omega
section
variable {w w':Ω}
theorem LD {t:TypeId} {w:Ω} {K:O->Ω->Prop} {n:Nat} {parts:Array (Nat × O)} {cs:List O} (hr:(Instr.buildSlice t n parts).run prog w=.ok (.slice (some ⟨w.heap.size,0,none⟩) n n) (w.alloc (.cells cs.toArray 54))) (hn:cs.length=n*4) (hm:n<=maxLen) (hk:∀ w',w'.ownsRow w.heap.size 54 4 (.slice (some ⟨w.heap.size,0,none⟩) n n) n cs->aG w w'->K (.slice (some ⟨w.heap.size,0,none⟩) n n) w'):V prog (Instr.buildSlice t n parts) w K:=by
 refine V.ok hr ?_;have hb1:aY (w.alloc (.cells cs.toArray 54)) w.heap.size cs 54:=by unfold aY;rw [heap_alloc_new]
 exact hk _ (dX hb1 hn (Nat.le_refl _) hm) ((aG.refl _).alloc _)
theorem aC.ldxE {t x:TypeId} {w:Ω} {v:O} {n:Nat} {l:List vC} {i:Nat} {e:vC} {K:O->Ω->Prop} (hx:XA prog t 4) (ht:∃ d z by_,prog.underlying x=some d/\mP d=true/\cP prog x z 4 by_) (hs:aC w v 4 n (oM l)) (hi:i < n) (he:l[i]?=some e) (hk:K (.agg e.cells.toArray) w) :
  V prog (Instr.indexAt t v (.int .i64 (i:Int))) w λp w1=>V prog (Instr.loadAt x p) w1 K:=by
 obtain ⟨e',z,b',hte,hinf⟩:=hx;obtain ⟨d,z2,by2,hd,ha,hi2⟩:=ht;obtain ⟨b,off,cap,rfl,hc⟩:=hs.there (by omega);refine V.ok (eQ hte hinf (by omega) (by omega)) (V.ok (iY hd ha hi2 (cs:=e.cells) rfl λj hj=>?_) hk);have hj4:j < 4:=hj;obtain ⟨u,hu⟩:=bQ (l:=e.cells) (j:=j) hj;have:=hc (i*4+j) u (by rw [MF he hj4];exact hu);rw [hu,Int.toNat_natCast,Nat.add_assoc];exact this
end
theorem JT {w:Ω} {sa sb x0 x1:Int} {ov:O} (_:aC w ov 1 2 [i64 x0,i64 x1]):aD prog 102 #[i64 17,i64 sa,i64 sb,ov] w λr w'=>(w'.ownsRow w.heap.size 54 4 r 0 (oM []))/\aG w w':=by
 apply mX
 have key:∀ {R:O->Ω->Prop},(∀ r w',w'.ownsRow w.heap.size 54 4 r 0 (oM [])->aG w w'->R r w')->eM (i64 17) (i64 sa) (i64 sb) ov w R:=by
  intro R hR;unfold eM;simp only [aF,Int.reduceEq,decide_false,aA];refine ⟨λv w'=>v=.bool false/\w'=w,(by first|exact ⟨rfl,rfl⟩|(simp only [aF,Int.reduceEq,decide_false,decide_true,aA,aE];exact ⟨trivial,trivial⟩)|(simp only [aF,Int.reduceEq,decide_false,decide_true,aA,aE];exact ⟨rfl,rfl⟩)),?_⟩;rintro _ w' ⟨rfl,hw⟩ _;have hw:=hw.symm;subst hw;refine aA.2 ?_;refine ⟨λv w'=>v=.bool false/\w'=w,(by first|exact ⟨rfl,rfl⟩|(simp only [aF,Int.reduceEq,decide_false,decide_true,aA,aE];exact ⟨trivial,trivial⟩)|(simp only [aF,Int.reduceEq,decide_false,decide_true,aA,aE];exact ⟨rfl,rfl⟩)),?_⟩;rintro _ w' ⟨rfl,hw⟩ _;have hw:=hw.symm;subst hw;refine aA.2 ?_
  try simp only [aF,Int.reduceEq,decide_false,decide_true,aA,aE]
  exact hR _ _ (World.ownsRow_nil _ _ _ _) (aG.refl _)
 exact key λr w' h1 h2=>⟨h1,h2⟩
theorem JS {w:Ω} {sa sb x0 x1:Int} {ov:O} (_:aC w ov 1 2 [i64 x0,i64 x1]):aD prog 102 #[i64 18,i64 sa,i64 sb,ov] w λr w'=>(w'.ownsRow w.heap.size 54 4 r 0 (oM []))/\aG w w':=by
 apply mX
 have key:∀ {R:O->Ω->Prop},(∀ r w',w'.ownsRow w.heap.size 54 4 r 0 (oM [])->aG w w'->R r w')->eM (i64 18) (i64 sa) (i64 sb) ov w R:=by
  intro R hR;unfold eM;simp only [aF,Int.reduceEq,decide_false,aA];refine ⟨λv w'=>v=.bool false/\w'=w,(by first|exact ⟨rfl,rfl⟩|(simp only [aF,Int.reduceEq,decide_false,decide_true,aA,aE];exact ⟨trivial,trivial⟩)|(simp only [aF,Int.reduceEq,decide_false,decide_true,aA,aE];exact ⟨rfl,rfl⟩)),?_⟩;rintro _ w' ⟨rfl,hw⟩ _;have hw:=hw.symm;subst hw;refine aA.2 ?_;refine ⟨λv w'=>v=.bool false/\w'=w,(by first|exact ⟨rfl,rfl⟩|(simp only [aF,Int.reduceEq,decide_false,decide_true,aA,aE];exact ⟨trivial,trivial⟩)|(simp only [aF,Int.reduceEq,decide_false,decide_true,aA,aE];exact ⟨rfl,rfl⟩)),?_⟩;rintro _ w' ⟨rfl,hw⟩ _;have hw:=hw.symm;subst hw;refine aA.2 ?_
  try simp only [aF,Int.reduceEq,decide_false,decide_true,aA,aE]
  exact hR _ _ (World.ownsRow_nil _ _ _ _) (aG.refl _)
 exact key λr w' h1 h2=>⟨h1,h2⟩
theorem JR {w:Ω} {sa sb x0:Int} {ov:O} (ho:aC w ov 1 1 [i64 x0]):aD prog 102 #[i64 27,i64 sa,i64 sb,ov] w λr w'=>(w'.ownsRow w.heap.size 54 4 r 1 (oM [⟨3,sa,sb,x0⟩]))/\aG w w':=by
 apply mX
 have key:∀ {R:O->Ω->Prop},(∀ r w',w'.ownsRow w.heap.size 54 4 r 1 (oM [⟨3,sa,sb,x0⟩])->aG w w'->R r w')->eM (i64 27) (i64 sa) (i64 sb) ov w R:=by
  intro R hR;unfold eM;simp only [aF,Int.reduceEq,decide_false,decide_true,aA,aE];refine mH aK aJ ho (by omega) (by omega) (rfl:([i64 x0]:List O)[(0:Int).toNat]?=_) ?_;refine bld rN [(0,i64 3),(1,i64 sa),(2,i64 sb),(3,i64 x0)] rfl rfl ?_;refine LD (cs:=oM [⟨3,sa,sb,x0⟩]) (by kernel_rfl) rfl (by unfold maxLen;omega) λw2 ho2 x2=>?_;exact hR _ _ ho2 x2
 exact key λr w' h1 h2=>⟨h1,h2⟩
theorem JQ {w:Ω} {sa sb x0:Int} {ov:O} (ho:aC w ov 1 1 [i64 x0]):aD prog 102 #[i64 28,i64 sa,i64 sb,ov] w λr w'=>(w'.ownsRow w.heap.size 54 4 r 1 (oM [⟨2,x0,0,0⟩]))/\aG w w':=by
 apply mX
 have key:∀ {R:O->Ω->Prop},(∀ r w',w'.ownsRow w.heap.size 54 4 r 1 (oM [⟨2,x0,0,0⟩])->aG w w'->R r w')->eM (i64 28) (i64 sa) (i64 sb) ov w R:=by
  intro R hR;unfold eM;simp only [aF,Int.reduceEq,decide_false,decide_true,aA,aE];refine mH aK aJ ho (by omega) (by omega) (rfl:([i64 x0]:List O)[(0:Int).toNat]?=_) ?_;refine bld rN [(0,i64 2),(1,i64 x0)] rfl rfl ?_;refine LD (cs:=oM [⟨2,x0,0,0⟩]) (by kernel_rfl) rfl (by unfold maxLen;omega) λw2 ho2 x2=>?_;exact hR _ _ ho2 x2
 exact key λr w' h1 h2=>⟨h1,h2⟩
theorem JP {w:Ω} {sa sb x0 x1:Int} {ov:O} (ho:aC w ov 1 2 [i64 x0,i64 x1]):aD prog 102 #[i64 29,i64 sa,i64 sb,ov] w λr w'=>(w'.ownsRow w.heap.size 54 4 r 1 (oM [⟨2,x0,x1,1⟩]))/\aG w w':=by
 apply mX
 have key:∀ {R:O->Ω->Prop},(∀ r w',w'.ownsRow w.heap.size 54 4 r 1 (oM [⟨2,x0,x1,1⟩])->aG w w'->R r w')->eM (i64 29) (i64 sa) (i64 sb) ov w R:=by
  intro R hR;unfold eM;simp only [aF,Int.reduceEq,decide_false,decide_true,aA,aE];refine ⟨λv w'=>v=.bool true/\w'=w,(by first|exact ⟨rfl,rfl⟩|(simp only [aF,Int.reduceEq,decide_false,decide_true,aA,aE];exact ⟨trivial,trivial⟩)|(simp only [aF,Int.reduceEq,decide_false,decide_true,aA,aE];exact ⟨rfl,rfl⟩)),?_⟩;rintro _ w' ⟨rfl,hw⟩ _;have hw:=hw.symm;subst hw;refine aE.2 ?_;have D:aG w w.drew:=(aG.refl _).drew;refine aI.mk' (λw'=>aG w w') D ?_;refine gR aK aJ ho (λw' hw=>hw) (by omega) (by omega) (rfl:([i64 x0,i64 x1]:List O)[(0:Int).toNat]?=_) ?_;refine gR aK aJ ho (λw' hw=>hw) (by omega) (by omega) (rfl:([i64 x0,i64 x1]:List O)[(1:Int).toNat]?=_) ?_;refine pX rN [(0,i64 2),(1,i64 x0),(2,i64 x1),(3,i64 1)] rfl rfl ?_;refine LD (cs:=oM [⟨2,x0,x1,1⟩]) (by kernel_rfl) rfl (by unfold maxLen;omega) λw2 ho2 x2=>?_;exact ⟨D.trans x2,hR _ _ (aP ho2 D.size) (D.trans x2)⟩
 exact key λr w' h1 h2=>⟨h1,h2⟩
theorem JO {w:Ω} {sa sb x0 x1 x2:Int} {ov:O} (ho:aC w ov 1 3 [i64 x0,i64 x1,i64 x2]):aD prog 102 #[i64 30,i64 sa,i64 sb,ov] w λr w'=>(w'.ownsRow w.heap.size 54 4 r 1 (oM [⟨2,x0,x1,1⟩]))/\aG w w':=by
 apply mX
 have key:∀ {R:O->Ω->Prop},(∀ r w',w'.ownsRow w.heap.size 54 4 r 1 (oM [⟨2,x0,x1,1⟩])->aG w w'->R r w')->eM (i64 30) (i64 sa) (i64 sb) ov w R:=by
  intro R hR;unfold eM;simp only [aF,Int.reduceEq,decide_false,decide_true,aA];refine ⟨λv w'=>v=.bool true/\w'=w,(by first|exact ⟨rfl,rfl⟩|(simp only [aF,Int.reduceEq,decide_false,decide_true,aA,aE];exact ⟨trivial,trivial⟩)|(simp only [aF,Int.reduceEq,decide_false,decide_true,aA,aE];exact ⟨rfl,rfl⟩)),?_⟩;rintro _ w' ⟨rfl,hw⟩ _;have hw:=hw.symm;subst hw;refine aE.2 ?_;have D:aG w w.drew:=(aG.refl _).drew;refine aI.mk' (λw'=>aG w w') D ?_;refine gR aK aJ ho (λw' hw=>hw) (by omega) (by omega) (rfl:([i64 x0,i64 x1,i64 x2]:List O)[(0:Int).toNat]?=_) ?_;refine gR aK aJ ho (λw' hw=>hw) (by omega) (by omega) (rfl:([i64 x0,i64 x1,i64 x2]:List O)[(1:Int).toNat]?=_) ?_;refine pX rN [(0,i64 2),(1,i64 x0),(2,i64 x1),(3,i64 1)] rfl rfl ?_;refine LD (cs:=oM [⟨2,x0,x1,1⟩]) (by kernel_rfl) rfl (by unfold maxLen;omega) λw2 ho2 x2=>?_;exact ⟨D.trans x2,hR _ _ (aP ho2 D.size) (D.trans x2)⟩
 exact key λr w' h1 h2=>⟨h1,h2⟩
theorem JN {w:Ω} {sa sb x0 x1 x2 x3 x4:Int} {ov:O} (ho:aC w ov 1 5 [i64 x0,i64 x1,i64 x2,i64 x3,i64 x4]):aD prog 102 #[i64 31,i64 sa,i64 sb,ov] w λr w'=>(w'.ownsRow w.heap.size 54 4 r 2 (oM [⟨2,x0,x1,x4⟩,⟨2,x2,x3,x4⟩]))/\aG w w':=by
 apply mX
 have key:∀ {R:O->Ω->Prop},(∀ r w',w'.ownsRow w.heap.size 54 4 r 2 (oM [⟨2,x0,x1,x4⟩,⟨2,x2,x3,x4⟩])->aG w w'->R r w')->eM (i64 31) (i64 sa) (i64 sb) ov w R:=by
  intro R hR;unfold eM;simp only [aF,Int.reduceEq,decide_false,decide_true,aA,aE];refine ⟨λv w'=>v=.bool false/\w'=w,(by first|exact ⟨rfl,rfl⟩|(simp only [aF,Int.reduceEq,decide_false,decide_true,aA,aE];exact ⟨trivial,trivial⟩)|(simp only [aF,Int.reduceEq,decide_false,decide_true,aA,aE];exact ⟨rfl,rfl⟩)),?_⟩;rintro _ w' ⟨rfl,hw⟩ _;have hw:=hw.symm;subst hw;refine aA.2 ?_;refine ⟨λv w'=>v=.bool true/\w'=w,(by first|exact ⟨rfl,rfl⟩|(simp only [aF,Int.reduceEq,decide_false,decide_true,aA,aE];exact ⟨trivial,trivial⟩)|(simp only [aF,Int.reduceEq,decide_false,decide_true,aA,aE];exact ⟨rfl,rfl⟩)),?_⟩;rintro _ w' ⟨rfl,hw⟩ _;have hw:=hw.symm;subst hw;refine aE.2 ?_;have D:aG w w.drew:=(aG.refl _).drew;refine aI.mk' (λw'=>aG w w') D ?_;refine gR aK aJ ho (λw' hw=>hw) (by omega) (by omega) (rfl:([i64 x0,i64 x1,i64 x2,i64 x3,i64 x4]:List O)[(0:Int).toNat]?=_) ?_;refine gR aK aJ ho (λw' hw=>hw) (by omega) (by omega) (rfl:([i64 x0,i64 x1,i64 x2,i64 x3,i64 x4]:List O)[(1:Int).toNat]?=_) ?_;refine gR aK aJ ho (λw' hw=>hw) (by omega) (by omega) (rfl:([i64 x0,i64 x1,i64 x2,i64 x3,i64 x4]:List O)[(4:Int).toNat]?=_) ?_;refine pX rN [(0,i64 2),(1,i64 x0),(2,i64 x1),(3,i64 x4)] rfl rfl ?_;refine gR aK aJ ho (λw' hw=>hw) (by omega) (by omega) (rfl:([i64 x0,i64 x1,i64 x2,i64 x3,i64 x4]:List O)[(2:Int).toNat]?=_) ?_
  refine gR aK aJ ho (λw' hw=>hw) (by omega) (by omega) (rfl:([i64 x0,i64 x1,i64 x2,i64 x3,i64 x4]:List O)[(3:Int).toNat]?=_) ?_;refine gR aK aJ ho (λw' hw=>hw) (by omega) (by omega) (rfl:([i64 x0,i64 x1,i64 x2,i64 x3,i64 x4]:List O)[(4:Int).toNat]?=_) ?_;refine pX rN [(0,i64 2),(1,i64 x2),(2,i64 x3),(3,i64 x4)] rfl rfl ?_;refine LD (cs:=oM [⟨2,x0,x1,x4⟩,⟨2,x2,x3,x4⟩]) (by kernel_rfl) rfl (by unfold maxLen;omega) λw2 ho2 x2=>?_;exact ⟨D.trans x2,hR _ _ (aP ho2 D.size) (D.trans x2)⟩
 exact key λr w' h1 h2=>⟨h1,h2⟩
theorem JM {w:Ω} {sa sb x0 x1 x2 x3 x4:Int} {ov:O} (ho:aC w ov 1 5 [i64 x0,i64 x1,i64 x2,i64 x3,i64 x4]):aD prog 102 #[i64 32,i64 sa,i64 sb,ov] w λr w'=>(w'.ownsRow w.heap.size 54 4 r 2 (oM [⟨2,x0,x1,x4⟩,⟨2,x2,x3,x4⟩]))/\aG w w':=by
 apply mX
 have key:∀ {R:O->Ω->Prop},(∀ r w',w'.ownsRow w.heap.size 54 4 r 2 (oM [⟨2,x0,x1,x4⟩,⟨2,x2,x3,x4⟩])->aG w w'->R r w')->eM (i64 32) (i64 sa) (i64 sb) ov w R:=by
  intro R hR;unfold eM;simp only [aF,Int.reduceEq,decide_false,decide_true,aA];refine ⟨λv w'=>v=.bool false/\w'=w,(by first|exact ⟨rfl,rfl⟩|(simp only [aF,Int.reduceEq,decide_false,decide_true,aA,aE];exact ⟨trivial,trivial⟩)|(simp only [aF,Int.reduceEq,decide_false,decide_true,aA,aE];exact ⟨rfl,rfl⟩)),?_⟩;rintro _ w' ⟨rfl,hw⟩ _;have hw:=hw.symm;subst hw;refine aA.2 ?_;refine ⟨λv w'=>v=.bool true/\w'=w,(by first|exact ⟨rfl,rfl⟩|(simp only [aF,Int.reduceEq,decide_false,decide_true,aA,aE];exact ⟨trivial,trivial⟩)|(simp only [aF,Int.reduceEq,decide_false,decide_true,aA,aE];exact ⟨rfl,rfl⟩)),?_⟩;rintro _ w' ⟨rfl,hw⟩ _;have hw:=hw.symm;subst hw;refine aE.2 ?_;have D:aG w w.drew:=(aG.refl _).drew;refine aI.mk' (λw'=>aG w w') D ?_;refine gR aK aJ ho (λw' hw=>hw) (by omega) (by omega) (rfl:([i64 x0,i64 x1,i64 x2,i64 x3,i64 x4]:List O)[(0:Int).toNat]?=_) ?_;refine gR aK aJ ho (λw' hw=>hw) (by omega) (by omega) (rfl:([i64 x0,i64 x1,i64 x2,i64 x3,i64 x4]:List O)[(1:Int).toNat]?=_) ?_;refine gR aK aJ ho (λw' hw=>hw) (by omega) (by omega) (rfl:([i64 x0,i64 x1,i64 x2,i64 x3,i64 x4]:List O)[(4:Int).toNat]?=_) ?_;refine pX rN [(0,i64 2),(1,i64 x0),(2,i64 x1),(3,i64 x4)] rfl rfl ?_;refine gR aK aJ ho (λw' hw=>hw) (by omega) (by omega) (rfl:([i64 x0,i64 x1,i64 x2,i64 x3,i64 x4]:List O)[(2:Int).toNat]?=_) ?_
  refine gR aK aJ ho (λw' hw=>hw) (by omega) (by omega) (rfl:([i64 x0,i64 x1,i64 x2,i64 x3,i64 x4]:List O)[(3:Int).toNat]?=_) ?_;refine gR aK aJ ho (λw' hw=>hw) (by omega) (by omega) (rfl:([i64 x0,i64 x1,i64 x2,i64 x3,i64 x4]:List O)[(4:Int).toNat]?=_) ?_;refine pX rN [(0,i64 2),(1,i64 x2),(2,i64 x3),(3,i64 x4)] rfl rfl ?_;refine LD (cs:=oM [⟨2,x0,x1,x4⟩,⟨2,x2,x3,x4⟩]) (by kernel_rfl) rfl (by unfold maxLen;omega) λw2 ho2 x2=>?_;exact ⟨D.trans x2,hR _ _ (aP ho2 D.size) (D.trans x2)⟩
 exact key λr w' h1 h2=>⟨h1,h2⟩
theorem JL {w:Ω} {sa sb x0 x1 x2:Int} {ov:O} (ho:aC w ov 1 3 [i64 x0,i64 x1,i64 x2]):aD prog 102 #[i64 36,i64 sa,i64 sb,ov] w λr w'=>(w'.ownsRow w.heap.size 54 4 r 1 (oM [⟨2,x0,x1,x2⟩]))/\aG w w':=by
 apply mX
 have key:∀ {R:O->Ω->Prop},(∀ r w',w'.ownsRow w.heap.size 54 4 r 1 (oM [⟨2,x0,x1,x2⟩])->aG w w'->R r w')->eM (i64 36) (i64 sa) (i64 sb) ov w R:=by
  intro R hR;unfold eM;simp only [aF,Int.reduceEq,decide_false,decide_true,aA,aE];refine ⟨λv w'=>v=.bool false/\w'=w,(by first|exact ⟨rfl,rfl⟩|(simp only [aF,Int.reduceEq,decide_false,decide_true,aA,aE];exact ⟨trivial,trivial⟩)|(simp only [aF,Int.reduceEq,decide_false,decide_true,aA,aE];exact ⟨rfl,rfl⟩)),?_⟩;rintro _ w' ⟨rfl,hw⟩ _;have hw:=hw.symm;subst hw;refine aA.2 ?_;refine ⟨λv w'=>v=.bool false/\w'=w,(by first|exact ⟨rfl,rfl⟩|(simp only [aF,Int.reduceEq,decide_false,decide_true,aA,aE];exact ⟨trivial,trivial⟩)|(simp only [aF,Int.reduceEq,decide_false,decide_true,aA,aE];exact ⟨rfl,rfl⟩)),?_⟩;rintro _ w' ⟨rfl,hw⟩ _;have hw:=hw.symm;subst hw;refine aA.2 ?_
  try simp only [aF,Int.reduceEq,decide_false,decide_true,aA,aE]
  have D:aG w w.drew:=(aG.refl _).drew;refine aI.mk' (λw'=>aG w w') D ?_;refine gR aK aJ ho (λw' hw=>hw) (by omega) (by omega) (rfl:([i64 x0,i64 x1,i64 x2]:List O)[(0:Int).toNat]?=_) ?_;refine gR aK aJ ho (λw' hw=>hw) (by omega) (by omega) (rfl:([i64 x0,i64 x1,i64 x2]:List O)[(1:Int).toNat]?=_) ?_;refine gR aK aJ ho (λw' hw=>hw) (by omega) (by omega) (rfl:([i64 x0,i64 x1,i64 x2]:List O)[(2:Int).toNat]?=_) ?_;refine pX rN [(0,i64 2),(1,i64 x0),(2,i64 x1),(3,i64 x2)] rfl rfl ?_;refine LD (cs:=oM [⟨2,x0,x1,x2⟩]) (by kernel_rfl) rfl (by unfold maxLen;omega) λw2 ho2 x2=>?_;exact ⟨D.trans x2,hR _ _ (aP ho2 D.size) (D.trans x2)⟩
 exact key λr w' h1 h2=>⟨h1,h2⟩
theorem aEe {w:Ω} {a b:Int} (ha:-2147483648<=a/\a<=2147483647) (hb:-2147483648<=b/\b<=2147483647) (h0:b≠0):aD prog 68 #[i64 17,i32 a,i32 b] w λr w'=>r=i32 (IntKind.i32.wrap (IntKind.i64.wrap (a.tdiv b)))/\w'=w:=by
 apply XN
 have key:∀ {R:O->Ω->Prop},R (i32 (IntKind.i32.wrap (IntKind.i64.wrap (a.tdiv b)))) w->tT (i64 17) (i32 a) (i32 b) w R:=by
  intro R hR;unfold tT;simp only [aF,Int.reduceEq,decide_false,decide_true,aA,aE];simp only [h0,aA,decide_false];refine V.ok (bG underlying21 underlying2) ?_;refine V.ok (bG underlying21 underlying2) ?_;rw [pY ha,pY hb];exact V.ok (EC h0) (V.ok (bG underlying2 underlying21) hR)
 exact key ⟨rfl,rfl⟩
theorem aEd {w:Ω} {a b:Int} (ha:-2147483648<=a/\a<=2147483647) (hb:-2147483648<=b/\b<=2147483647) (h0:b≠0):aD prog 68 #[i64 18,i32 a,i32 b] w λr w'=>r=i32 (IntKind.i32.wrap (a.tmod b))/\w'=w:=by
 apply XN
 have key:∀ {R:O->Ω->Prop},R (i32 (IntKind.i32.wrap (a.tmod b))) w->tT (i64 18) (i32 a) (i32 b) w R:=by
  intro R hR;unfold tT;simp only [aF,Int.reduceEq,decide_false,decide_true,aA,aE];simp only [h0,aA,decide_false];refine V.ok (bG underlying21 underlying2) ?_;refine V.ok (bG underlying21 underlying2) ?_;rw [pY ha,pY hb];exact V.ok (uE h0) (V.ok (bG underlying2 underlying21) hR)
 exact key ⟨rfl,rfl⟩
theorem BL {op:Int} {nn:Nat} {q:QP} {w:Ω} {who sa sb:Int} {av:O} {xs:List Int} {evs:List vC} {R:O->Ω->Prop} (h:dE q w) (hl:q.tr.length<=99000) (hnn:nn<=5) (hev:evs.length<=2)
  (hsv:∀ {w:Ω},aD prog 67 #[i64 op] w λr w'=>r=i64 (nn:Int)/\w'=w)
  (hsh:∀ {w:Ω} {ov:O},aC w ov 1 nn (xs.map i64)->aD prog 102 #[i64 op,i64 sa,i64 sb,ov] w λr w'=>(w'.ownsRow w.heap.size 54 4 r evs.length (oM evs))/\aG w w')
  (hxl:xs.length=nn) (hxs:aC w av 1 nn (xs.map i32)) (hsm:gE xs)
  (hk:∀ w' ov uv',dE { q with uv:=uv',tr:=q.tr++evs } w'->mK q { q with uv:=uv',tr:=q.tr++evs } w w'->(∀ w2,Fr (nO { q with uv:=uv',tr:=q.tr++evs }) w' w2->aC w2 ov 1 nn (xs.map i64))->jP (rG q) (i64 who) (i64 op) (i64 sa) (i64 sb) av ov w' R) :
  CR (rG q) (ubT q) (i64 who) (i64 op) (i64 sa) (i64 sb) av w R:=by
 unfold CR;refine hsv.mono λr w' ⟨hr,hw⟩=>?_;subst hr;have hw:=hw.symm;subst hw;refine gD fM hxs (aT.2 (aL (λhn=>absurd rfl hn) λ_=>?_));refine ⟨λv v' w'=>∃ i:Nat,v'=i64 i/\i<=nn/\aG w w'/\w'.ownsRow w.heap.size 3 1 v i ((xs.take i).map i64),λ_ v _=>nn - (RowKit.intOf v).toNat,⟨0,rfl,Nat.zero_le _,aG.refl _,by rw [List.take_zero];exact World.ownsRow_nil _ _ _ _⟩,?_⟩;rintro ov _ w2 ⟨i,rfl,hi,x2,ho2⟩ _;refine gD fM (hxs.ext x2) ?_;refine aV.2 (aL (λhlt=>?_) λhge=>?_)
 ·obtain ⟨z,hz⟩:=bQ (l:=xs) (j:=i) (by omega);have hzb:-2147483648<=z/\z<=2147483647:=hsm z (List.mem_of_getElem? hz);refine mH fM eU (hxs.ext x2) (by omega) (by omega) (by simp [hz]:(xs.map i32)[((i:Nat):Int).toNat]?=some (i32 z)) ?_;refine V.ok (bG underlying21 underlying3) ?_;rw [aX (by omega)];refine kC bE [i64 z] rfl rfl (by simp) rfl λv3 w3 ho3 x3=>?_;have X3:=x2.trans x3;refine apS bE (x3.own ho2) (aC.of_own ho3) (by simp [cB]) (by omega) (by unfold maxLen;omega) X3.size λv4 w4 ho4 hg4 _=>?_;refine mR (by omega) ?_;refine ⟨⟨i+1,rfl,by omega,X3.grown hg4 λj hj=>(ho2.lt j hj).1,?_⟩,by simp only [aU];omega⟩;rw [List.take_add_one,hz];simpa using ho4
 have hin:i=nn:=by omega
 subst hin;rw [List.take_of_length_le (by omega)] at ho2;refine (hsh (aC.of_own ho2)).mono λev w3 ⟨he3,x3⟩=>?_;have X3:=x2.trans x3;have ho3:=x3.own ho2;have h3:=h.ext X3;have s2:=x2.size;have s3:=x3.size;have hlow:∀ j,nO q j->j < w.heap.size:=λj hj=>h.hi j (.inl hj);refine ⟨λv w'=>∃ (i:Nat) (uv':O),v=i64 i/\i<=evs.length/\dE { q with uv:=uv',tr:=q.tr++evs.take i } w'/\mK q { q with uv:=uv',tr:=q.tr++evs.take i } w3 w',λv _=>evs.length - (RowKit.intOf v).toNat,⟨0,q.uv,rfl,Nat.zero_le _,by rw [List.take_zero,List.append_nil];exact h3,by rw [List.take_zero,List.append_nil];exact mK.of_ext (aG.refl _)⟩,?_⟩;rintro _ w4 ⟨i,uv',rfl,hi,h4,s4⟩ _;have he4:=s4.fr.own he3 λj hj hm=>by have:=(he3.lt j hj).1;have:=hlow j hm;omega
 refine gD LZ (aC.of_own he4) ?_;refine aV.2 (aL (λhlt=>?_) λhge=>?_)
 ·obtain ⟨e,hee⟩:=bQ (l:=evs) (j:=i) (by omega);refine aC.ldxE LZ aLh (aC.of_own he4) (by omega) hee ?_;refine (TH h4 (by show (q.tr++evs.take i).length<=100000;rw [List.length_append];have h9:(evs.take i).length<=evs.length:=(by simp [List.length_take];omega);omega) (e:=e)).mono λ_ w5 ⟨uv5,h5,s5⟩=>?_;refine mR (by omega) ?_;have hte:q.tr++evs.take (i+1)=(q.tr++evs.take i)++[e]:=by rw [List.take_add_one,hee];simp
  exact ⟨⟨i+1,uv5,rfl,by omega,by rw [hte];exact h5,by rw [hte];exact s4.trans s5⟩,by simp only [aU];omega⟩
 have hin:i=evs.length:=by omega
 subst hin;rw [List.take_of_length_le (Nat.le_refl _)] at h4 s4;refine hk w4 ov uv' h4 ((mK.of_ext X3).trans s4) λw5 f5=>?_;have ho4:=s4.fr.own ho3 λj hj hm=>by have:=(ho3.lt j hj).1;have:=hlow j hm;omega
 refine aC.of_own (f5.own ho4 λj hj hm=>?_);have hj3:=(ho3.lt j hj);rcases s4.mm j hm with hm|hm
 ·have:=hlow j hm;omega
 ·omega
def SW (q:QP) (w:Ω) (x:AZ) (r:O) (w':Ω):Prop:=∃ q',r=.tuple #[i32 x.1,i64 x.2.1]/\q'.ps=x.2.2/\dE q' w'/\mK q q' w w'
section
variable {q:QP} {w w':Ω} {av ov:O} {R:O->Ω->Prop} {s:PS}
theorem iR (h:dE q w) (hx:aG w w') {x:AZ} {r:O} (hr:r=.tuple #[i32 x.1,i64 x.2.1]) (hp:q.ps=x.2.2):SW q w x r w':=⟨q,hr,hp,h.ext hx,mK.of_ext hx⟩
theorem qS (h:dE q w) {k:Nat} {x:bS} (hk:q.ar[k]?=some x) {nn:Nat} {cs:List O} {idx r:Int} (hr:r=(k:Int)+1) (hov:aC w ov 1 nn cs) (h0:0<=idx) (h1:idx < nn) (hget:cs[idx.toNat]?=some (i64 r)) :
  aI w λS w46=>Go.Vc.aM (rG q)/\aB prog S (Instr.fieldAt 139 (rG q) 0) λt143=>aB prog S (Instr.loadAt 137 t143) λt144=>aB prog S (Instr.indexAt 42 ov (.int .i64 idx)) λt146=>aB prog S (Instr.loadAt 3 t146) λt147=>
   (aD prog 105 #[t144,t147] w46 λt148 w47=>S w47/\aB prog S (Instr.extract t148 0) λt149=>aB prog S (Instr.extract t148 1) λ_=>V prog (Instr.alloc 127 true (.tuple #[])) w47 λt23 w48=>S w48/\U prog (Instr.storeAt 127 t23 t149) w48 λ_ w49=>S w49/\(∃ b,t23=.pointer (some ⟨b,0,none⟩)/\fA w49 b x.cells/\aG w w49)) /\
   (V prog (Instr.alloc 127 true (.tuple #[])) w46 λt23 w50=>S w50/\aD prog 105 #[t144,t147] w50 λt148 w51=>S w51/\aB prog S (Instr.extract t148 0) λt149=>aB prog S (Instr.extract t148 1) λ_=>U prog (Instr.storeAt 127 t23 t149) w51 λ_ w52=>S w52/\(∃ b,t23=.pointer (some ⟨b,0,none⟩)/\fA w52 b x.cells/\aG w w52)):=by
 have D:aG w w.drew:=(aG.refl _).drew;refine aI.mk' (λw'=>aG w w') D ⟨.inl ⟨_,rfl⟩,?_⟩;refine dU (λw' hw=>(h.xbox.ext hw).boxed) bJ dF rfl ?_;refine gR aK aJ hov (λw' hw=>hw) h0 h1 hget ?_;refine ⟨?_,?_⟩
 ·refine (CF (h.ext D) hk hr).mono λv w1 ⟨hv,x1⟩=>?_;subst hv;have X1:=D.trans x1;refine ⟨X1,?_⟩;refine aB.ok (λw' _=>fQ) ?_;refine aB.ok (λw' _=>fP) ?_;refine LN eX λw2 hb x2=>?_;have X2:=X1.trans x2;refine ⟨X2,?_⟩;refine DS eX hb (l:=x.cells) rfl rfl rfl (gF (h.one hk)) λw3 hb3 hch=>?_;have X3:=hch.ext w X2 X1.size;exact ⟨X3,_,rfl,hb3.boxed,X3⟩
 ·refine LN eX λw2 hb x2=>?_;have X2:=D.trans x2;refine ⟨X2,?_⟩;refine (CF (h.ext X2) hk hr).mono λv w3 ⟨hv,x3⟩=>?_;subst hv;have X3:=X2.trans x3;refine ⟨X3,?_⟩;refine aB.ok (λw' _=>fQ) ?_;refine aB.ok (λw' _=>fP) ?_;refine DS eX (hb.ext x3) (l:=x.cells) rfl rfl rfl (gF (h.one hk)) λw4 hb4 hch=>?_;have X4:=hch.ext w X3 D.size;exact ⟨X4,_,rfl,hb4.boxed,X4⟩
theorem NV (h:dE q w) {w2:Ω} (f:Fr (λi=>i=q.yb) w w2):fA w2 q.xb [.pointer (some ⟨q.yb,0,none⟩),q.iv,q.fv,q.pub,q.sec]:=(f.seg h.xbox h.xy).boxed
theorem xL {w2:Ω} (f:Fr (λi=>i=q.yb) w w2):Fr (nO q) w w2:=f.mono λ_ hi=>.inr (.inl hi)
theorem bL {w2:Ω} (x:aG w w2):Fr (nO q) w w2:=Fr.of_ext x
theorem NI {l:List PA} {r:Int} (h:∀ x∈l,pQ x.data):pQ (kY l r):=by
 unfold kY;cases hg:l[r.toNat - 1]? with
 | none=>exact λb hb=>by cases hb
 | some x=>exact h x (List.mem_of_getElem? hg)
theorem QM:∀ {a b:List Int},pQ a->pQ b->(strOfNums a).toList=(strOfNums b).toList->a=b:=by
 intro a b ha hb h
 have h2:(a.map λn=>UInt8.ofNat n.toNat)=b.map λn=>UInt8.ofNat n.toNat:=by
  rw [ByteArray.toList_eq,ByteArray.toList_eq] at h;exact h
 clear h;induction a generalizing b with
 | nil=>cases b with
  | nil=>rfl
  | cons y b=>simp at h2
 | cons x a ih=>cases b with
  | nil=>simp at h2
  | cons y b=>
   simp only [List.map_cons,List.cons.injEq] at h2;have hx:=ha x (by simp);have hy:=hb y (by simp)
   have:x.toNat % 256=y.toNat % 256:=by
    have:=congrArg UInt8.toNat h2.1;simpa [UInt8.toNat_ofNat] using this
   have hxy:x=y:=by omega
   rw [hxy,ih (λz hz=>ha z (by simp [hz])) (λz hz=>hb z (by simp [hz])) h2.2]
theorem aMw (h:dE q w) {who sa sb a b:Int} (hov:∀ w2,Fr (nO q) w w2->aC w2 ov 1 2 [i64 a,i64 b]) (hav:aC w av 1 2 [i32 a,i32 b]) (ha:-2147483648<=a/\a<=2147483647) (hb:-2147483648<=b/\b<=2147483647) (hps:q.ps=s) (hk:∀ r w',SW q w (pU s a b) r w'->R r w') :
  jP (rG q) (i64 who) (i64 17) (i64 sa) (i64 sb) av ov w R:=by
 unfold jP;refine ⟨λv w'=>v=.bool true/\w'=w,(by first|exact ⟨rfl,rfl⟩|(try simp only [aF,Int.reduceEq,decide_false,decide_true,aE];exact ⟨trivial,trivial⟩)|(try simp only [aF,Int.reduceEq,decide_false,decide_true,aA,aE];exact ⟨rfl,rfl⟩)),?_⟩;rintro _ w' ⟨rfl,hw⟩ _;have hw:=hw.symm;subst hw;refine aE.2 ?_;refine mH aK aJ (hov w (Fr.refl _ _)) (by omega) (by omega) (rfl:([i64 a,i64 b]:List O)[(1:Int).toNat]?=_) ?_;refine aF.2 (aL (λh0=>hk _ _ (iR h (aG.refl _) ?_ ?_)) λh0=>?_)
 ·unfold pU;rw [if_pos h0]
 ·unfold pU;rw [if_pos h0];exact hps
 have D:aG w w.drew:=(aG.refl _).drew;refine aI.mk' (λw'=>aG w w') D ?_;refine gR fM eU hav (λw' hw=>hw) (by omega) (by omega) (rfl:([i32 a,i32 b]:List O)[(0:Int).toNat]?=_) ?_;refine gR fM eU hav (λw' hw=>hw) (by omega) (by omega) (rfl:([i32 a,i32 b]:List O)[(1:Int).toNat]?=_) ?_;refine (aEe ha hb h0).mono λr w1 ⟨hr,hw⟩=>?_;subst hr;have hw:=hw.symm;subst hw;refine ⟨D,hk _ _ (iR h D ?_ ?_)⟩
 ·unfold pU;rw [if_neg h0]
 ·unfold pU;rw [if_neg h0];exact hps
theorem aMv (h:dE q w) {who sa sb a b:Int} (hov:∀ w2,Fr (nO q) w w2->aC w2 ov 1 2 [i64 a,i64 b]) (hav:aC w av 1 2 [i32 a,i32 b]) (ha:-2147483648<=a/\a<=2147483647) (hb:-2147483648<=b/\b<=2147483647) (hps:q.ps=s) (hk:∀ r w',SW q w (pT s a b) r w'->R r w') :
  jP (rG q) (i64 who) (i64 18) (i64 sa) (i64 sb) av ov w R:=by
 unfold jP;refine ⟨λv w'=>v=.bool true/\w'=w,(by first|exact ⟨rfl,rfl⟩|(try simp only [aF,Int.reduceEq,decide_false,decide_true,aA];exact ⟨trivial,trivial⟩)|(try simp only [aF,Int.reduceEq,decide_false,decide_true,aA,aE];exact ⟨rfl,rfl⟩)),?_⟩;rintro _ w' ⟨rfl,hw⟩ _;have hw:=hw.symm;subst hw;refine aE.2 ?_;refine mH aK aJ (hov w (Fr.refl _ _)) (by omega) (by omega) (rfl:([i64 a,i64 b]:List O)[(1:Int).toNat]?=_) ?_;refine aF.2 (aL (λh0=>hk _ _ (iR h (aG.refl _) ?_ ?_)) λh0=>?_)
 ·unfold pT;rw [if_pos h0]
 ·unfold pT;rw [if_pos h0];exact hps
 have D:aG w w.drew:=(aG.refl _).drew;refine aI.mk' (λw'=>aG w w') D ?_;refine gR fM eU hav (λw' hw=>hw) (by omega) (by omega) (rfl:([i32 a,i32 b]:List O)[(0:Int).toNat]?=_) ?_;refine gR fM eU hav (λw' hw=>hw) (by omega) (by omega) (rfl:([i32 a,i32 b]:List O)[(1:Int).toNat]?=_) ?_;refine (aEd ha hb h0).mono λr w1 ⟨hr,hw⟩=>?_;subst hr;have hw:=hw.symm;subst hw;refine ⟨D,hk _ _ (iR h D ?_ ?_)⟩
 ·unfold pT;rw [if_neg h0]
 ·unfold pT;rw [if_neg h0];exact hps
theorem UB (h:dE q w) {who sb n:Int} (hsb:0<=sb/\sb < 7) (hov:∀ w2,Fr (nO q) w w2->aC w2 ov 1 1 [i64 n]) (hps:q.ps=s.ev [⟨3,3,sb,n⟩]) (hk:∀ r w',SW q w (dW s who 3 sb n) r w'->R r w') :
  jP (rG q) (i64 who) (i64 27) (i64 3) (i64 sb) av ov w R:=by
 have har:q.ar.map pa=s.ar:=congrArg PS.ar hps;have hsz:q.size=s.size:=congrArg PS.size hps;have hlen:q.ar.length=s.ar.length:=by rw [<- har,List.length_map]
 have g0:([i64 n]:List O)[(0:Int).toNat]?=some (i64 n):=rfl;have hov0:=hov w (Fr.refl _ _);unfold jP;refine ⟨λv w'=>v=.bool false/\w'=w,(by first|exact ⟨rfl,rfl⟩|(try simp only [aF,Int.reduceEq,decide_false,aA];exact ⟨trivial,trivial⟩)|(try simp only [aF,Int.reduceEq,decide_false,decide_true,aA,aE];exact ⟨rfl,rfl⟩)),?_⟩;rintro _ w' ⟨rfl,hw⟩ _;have hw:=hw.symm;subst hw;refine aA.2 ?_
 try simp only [aF,Int.reduceEq,decide_false,decide_true,aA,aE]
 refine mH aK aJ hov0 (by omega) (by omega) g0 ?_;refine aV.2 ?_;by_cases hn0:n < 0
 ·simp only [hn0,jJ,aH,aE,reduceIte,decide_true];refine hk _ _ (iR h (aG.refl _) ?_ ?_)<;>unfold dW<;>rw [if_pos (.inl hn0)];exact hps
 simp only [hn0,dZ,aH,reduceIte,Bool.false_eq_true,decide_false];refine mH aK aJ hov0 (by omega) (by omega) g0 ?_;refine cX.2 ?_;by_cases hn1:n > 64
 ·simp only [hn1,aE,decide_true];refine hk _ _ (iR h (aG.refl _) ?_ ?_)<;>unfold dW<;>rw [if_pos (.inr hn1)];exact hps
 simp only [hn1,aA,decide_false];have hnn:¬ (n < 0\/n > 64):=by omega
 obtain ⟨n,rfl⟩:∃ m:Nat,n=m:=⟨n.toNat,by omega⟩;have D:aG w w.drew:=(aG.refl _).drew
 have hlf:(IntKind.i64.wrap (sb.tmod 4+4)).tmod 4=jX sb:=by
  have h7:sb=0\/sb=1\/sb=2\/sb=3\/sb=4\/sb=5\/sb=6:=by omega
  rcases h7 with rfl|rfl|rfl|rfl|rfl|rfl|rfl<;>decide
 have hlife:0<=jX sb/\jX sb<=3:=by
  have h7:sb=0\/sb=1\/sb=2\/sb=3\/sb=4\/sb=5\/sb=6:=by omega
  rcases h7 with rfl|rfl|rfl|rfl|rfl|rfl|rfl<;>decide
 refine aI.mk' (λw'=>Fr (λi=>i=q.yb) w w') (Fr.of_ext D) ⟨.inl ⟨_,rfl⟩,?_⟩;refine dU (λw' hw=>NV h hw) bJ dF rfl ?_;refine aB.ok (λw' _=>uE (by decide)) ?_;refine aB.ok (λw' _=>lG) ?_;refine aB.ok (λw' _=>uE (by decide)) ?_;rw [hlf];refine aB.ok (λw' _=>wK) ?_;refine dV aK aJ hov0 (λw' hw=>hov w' (xL hw)) (by omega) (by omega) g0 ?_;refine (LM (h.ext D) hlife (n:=n) (by omega)).mono λv w4 hq=>?_;rw [har] at hq;rcases hq with ⟨hfull,rfl,x4⟩|⟨hroom,rfl,g',cap',dv,h5,s5,f5⟩
 ·refine ⟨Fr.of_ext (D.trans x4),?_⟩;refine aB.ok (λw' _=>fQ) ?_;refine aB.ok (λw' _=>fP) ?_;refine eJ.2 (aE.2 ?_);refine hk _ _ (iR h (D.trans x4) ?_ ?_)<;>unfold dW<;>rw [if_neg hnn,if_pos (show jX sb > 2\/8+(n:Int) > s.size - gA s.ar from hsz▸hfull)];exact hps
 ·refine ⟨(Fr.of_ext (S:=λi=>i=q.yb) D).trans f5 λ_ _ h=>h,?_⟩;refine aB.ok (λw' _=>fQ) ?_;refine aB.ok (λw' _=>fP) ?_;refine eJ.2 (aA.2 ?_);refine V.ok (bG underlying3 underlying21) ?_;have hroom':¬ (jX sb > 2\/8+(n:Int) > s.size - gA s.ar):=hsz▸hroom;refine hk _ _ ⟨_,?_,?_,h5,(mK.of_ext D).trans s5⟩
  ·unfold dW;rw [if_neg hnn,if_neg hroom',hlen]
  ·unfold dW;rw [if_neg hnn,if_neg hroom'];show (⟨q.size,(q.ar++[_]).map pa,q.tp,q.ts,q.tr⟩:PS)=_;rw [List.map_append,har];have e:=hps;have e1:q.tp=s.tp:=congrArg PS.tp e;have e2:q.ts=s.ts:=congrArg PS.ts e;have e3:q.tr=s.tr++[⟨3,3,sb,n⟩]:=congrArg PS.tr e;rw [e1,e2,e3,hsz];simp only [Int.toNat_natCast];rfl
theorem UA (h:dE q w) {who sb n:Int} (hsb:0<=sb/\sb < 7) (hov:∀ w2,Fr (nO q) w w2->aC w2 ov 1 1 [i64 n]) (hps:q.ps=s.ev [⟨3,4,sb,n⟩]) (hk:∀ r w',SW q w (dW s who 4 sb n) r w'->R r w') :
  jP (rG q) (i64 who) (i64 27) (i64 4) (i64 sb) av ov w R:=by
 have har:q.ar.map pa=s.ar:=congrArg PS.ar hps;have hsz:q.size=s.size:=congrArg PS.size hps;have hlen:q.ar.length=s.ar.length:=by rw [<- har,List.length_map]
 have g0:([i64 n]:List O)[(0:Int).toNat]?=some (i64 n):=rfl;have hov0:=hov w (Fr.refl _ _);unfold jP;refine ⟨λv w'=>v=.bool false/\w'=w,(by first|exact ⟨rfl,rfl⟩|(try simp only [aF,Int.reduceEq,decide_false,aA];exact ⟨trivial,trivial⟩)|(try simp only [aF,Int.reduceEq,decide_false,decide_true,aA,aE];exact ⟨rfl,rfl⟩)),?_⟩;rintro _ w' ⟨rfl,hw⟩ _;have hw:=hw.symm;subst hw;refine aA.2 ?_
 try simp only [aF,Int.reduceEq,decide_false,decide_true,aA,aE]
 refine mH aK aJ hov0 (by omega) (by omega) g0 ?_;refine aV.2 ?_;by_cases hn0:n < 0
 ·simp only [hn0,jJ,aH,aE,reduceIte,decide_true];refine hk _ _ (iR h (aG.refl _) ?_ ?_)<;>unfold dW<;>rw [if_pos (.inl hn0)];exact hps
 simp only [hn0,dZ,aH,reduceIte,Bool.false_eq_true,decide_false];refine mH aK aJ hov0 (by omega) (by omega) g0 ?_;refine cX.2 ?_;by_cases hn1:n > 64
 ·simp only [hn1,aE,decide_true];refine hk _ _ (iR h (aG.refl _) ?_ ?_)<;>unfold dW<;>rw [if_pos (.inr hn1)];exact hps
 simp only [hn1,aA,decide_false];have hnn:¬ (n < 0\/n > 64):=by omega
 obtain ⟨n,rfl⟩:∃ m:Nat,n=m:=⟨n.toNat,by omega⟩;have D:aG w w.drew:=(aG.refl _).drew
 have hlf:(IntKind.i64.wrap (sb.tmod 4+4)).tmod 4=jX sb:=by
  have h7:sb=0\/sb=1\/sb=2\/sb=3\/sb=4\/sb=5\/sb=6:=by omega
  rcases h7 with rfl|rfl|rfl|rfl|rfl|rfl|rfl<;>decide
 have hlife:0<=jX sb/\jX sb<=3:=by
  have h7:sb=0\/sb=1\/sb=2\/sb=3\/sb=4\/sb=5\/sb=6:=by omega
  rcases h7 with rfl|rfl|rfl|rfl|rfl|rfl|rfl<;>decide
 refine aI.mk' (λw'=>Fr (λi=>i=q.yb) w w') (Fr.of_ext D) ⟨.inl ⟨_,rfl⟩,?_⟩;refine dU (λw' hw=>NV h hw) bJ dF rfl ?_;refine aB.ok (λw' _=>uE (by decide)) ?_;refine aB.ok (λw' _=>lG) ?_;refine aB.ok (λw' _=>uE (by decide)) ?_;rw [hlf];refine aB.ok (λw' _=>wK) ?_;refine dV aK aJ hov0 (λw' hw=>hov w' (xL hw)) (by omega) (by omega) g0 ?_;refine (LL (h.ext D) hlife (n:=n) (by omega)).mono λv w4 hq=>?_;rw [har] at hq;rcases hq with ⟨hfull,rfl,x4⟩|⟨hroom,rfl,g',cap',dv,h5,s5,f5⟩
 ·refine ⟨Fr.of_ext (D.trans x4),?_⟩;refine aB.ok (λw' _=>fQ) ?_;refine aB.ok (λw' _=>fP) ?_;refine eJ.2 (aE.2 ?_);refine hk _ _ (iR h (D.trans x4) ?_ ?_)<;>unfold dW<;>rw [if_neg hnn,if_pos (show jX sb > 2\/8+(n:Int) > s.size - gA s.ar from hsz▸hfull)];exact hps
 ·refine ⟨(Fr.of_ext (S:=λi=>i=q.yb) D).trans f5 λ_ _ h=>h,?_⟩;refine aB.ok (λw' _=>fQ) ?_;refine aB.ok (λw' _=>fP) ?_;refine eJ.2 (aA.2 ?_);refine V.ok (bG underlying3 underlying21) ?_;have hroom':¬ (jX sb > 2\/8+(n:Int) > s.size - gA s.ar):=hsz▸hroom;refine hk _ _ ⟨_,?_,?_,h5,(mK.of_ext D).trans s5⟩
  ·unfold dW;rw [if_neg hnn,if_neg hroom',hlen]
  ·unfold dW;rw [if_neg hnn,if_neg hroom'];show (⟨q.size,(q.ar++[_]).map pa,q.tp,q.ts,q.tr⟩:PS)=_;rw [List.map_append,har];have e:=hps;have e1:q.tp=s.tp:=congrArg PS.tp e;have e2:q.ts=s.ts:=congrArg PS.ts e;have e3:q.tr=s.tr++[⟨3,4,sb,n⟩]:=congrArg PS.tr e;rw [e1,e2,e3,hsz];simp only [Int.toNat_natCast];rfl
theorem aMu (h:dE q w) {who sa sb r:Int} (hov:∀ w2,Fr (nO q) w w2->aC w2 ov 1 1 [i64 r]) (hps:q.ps=s.ev [⟨2,r,0,0⟩]) (hk:∀ u w',SW q w (qB s who r) u w'->R u w') :
  jP (rG q) (i64 who) (i64 28) (i64 sa) (i64 sb) av ov w R:=by
 have har:q.ar.map pa=s.ar:=congrArg PS.ar hps;have hov0:=hov w (Fr.refl _ _);have g0:([i64 r]:List O)[(0:Int).toNat]?=some (i64 r):=rfl;have D:aG w w.drew:=(aG.refl _).drew;unfold jP;refine ⟨λv w'=>v=.bool false/\w'=w,(by first|exact ⟨rfl,rfl⟩|(try simp only [aF,Int.reduceEq,decide_false,aA];exact ⟨trivial,trivial⟩)|(try simp only [aF,Int.reduceEq,decide_false,decide_true,aA,aE];exact ⟨rfl,rfl⟩)),?_⟩;rintro _ w' ⟨rfl,hw⟩ _;have hw:=hw.symm;subst hw;refine aA.2 ?_
 try simp only [aF,Int.reduceEq,decide_false,decide_true,aA,aE]
 have hce:DG q.ar r who=vB s.ar r who:=by rw [LB,har]
 refine aI.mk' (λw'=>aG w w') D ⟨.inl ⟨_,rfl⟩,?_⟩;refine dU (λw' hw=>(h.xbox.ext hw).boxed) bJ dF rfl ?_;refine dV aK aJ hov0 (λw' hw=>hov w' (bL hw)) (by omega) (by omega) g0 ?_;refine (AK (h.ext D)).mono λv w1 ⟨hv,x1⟩=>?_;subst hv;have X1:=D.trans x1;refine ⟨X1,aT.2 (aL (λhne=>?_) λhfine=>?_)⟩
 ·refine hk _ _ (iR h X1 ?_ ?_)<;>unfold qB<;>rw [if_neg (by rw [<- hce];exact hne)]
  ·rw [<- hce]
  ·exact hps
 have hf:DG q.ar r who=36864:=Classical.not_not.1 hfine;obtain ⟨k,x,hk2,hr,hm⟩:=qQ hf;refine ⟨_,qS (h.ext X1) hk2 hr (hov w1 (bL X1)) (by omega) (by omega) g0,?_⟩;rintro _ w2 ⟨b,rfl,hbx,x2⟩ _;refine bB hbx bO gJ rfl (gD iH (aC.of_own ((X1.trans x2).own (h.data x (List.mem_of_getElem? hk2)))) ?_);refine V.ok (bG underlying3 underlying21) (hk _ _ (iR h (X1.trans x2) ?_ ?_))<;>unfold qB<;>rw [if_pos (by rw [<- hce];exact hf)]
 ·rw [<- har,show kY (q.ar.map pa) r=x.data from jD hk2 hr]
 ·exact hps
theorem aMt (h:dE q w) {who sa sb r a:Int} (hov:∀ w2,Fr (nO q) w w2->aC w2 ov 1 2 [i64 r,i64 a]) (hps:q.ps=s.ev [⟨2,r,a,1⟩]) (hk:∀ u w',SW q w (qC s who r a) u w'->R u w') :
  jP (rG q) (i64 who) (i64 29) (i64 sa) (i64 sb) av ov w R:=by
 have har:q.ar.map pa=s.ar:=congrArg PS.ar hps;have hov0:=hov w (Fr.refl _ _);have g0:([i64 r,i64 a]:List O)[(0:Int).toNat]?=some (i64 r):=rfl;have g1:([i64 r,i64 a]:List O)[(1:Int).toNat]?=some (i64 a):=rfl;have D:aG w w.drew:=(aG.refl _).drew;unfold jP;refine ⟨λv w'=>v=.bool false/\w'=w,(by first|exact ⟨rfl,rfl⟩|(try simp only [aF,Int.reduceEq,decide_false,aA];exact ⟨trivial,trivial⟩)|(try simp only [aF,Int.reduceEq,decide_false,decide_true,aA,aE];exact ⟨rfl,rfl⟩)),?_⟩;rintro _ w' ⟨rfl,hw⟩ _;have hw:=hw.symm;subst hw;refine aA.2 ?_
 try simp only [aF,Int.reduceEq,decide_false,decide_true,aA,aE]
 refine ⟨λv w'=>v=.bool true/\w'=w,(by first|exact ⟨rfl,rfl⟩|(try simp only [aF,Int.reduceEq,decide_false,decide_true,aA,aE];exact ⟨trivial,trivial⟩)|(try simp only [aF,Int.reduceEq,decide_false,decide_true,aA,aE];exact ⟨rfl,rfl⟩)),?_⟩;rintro _ w' ⟨rfl,hw⟩ _;have hw:=hw.symm;subst hw;refine aE.2 ?_;refine aI.mk' (λw'=>aG w w') D ⟨.inl ⟨_,rfl⟩,?_⟩;refine dU (λw' hw=>(h.xbox.ext hw).boxed) bJ dF rfl ?_;refine dV aK aJ hov0 (λw' hw=>hov w' (bL hw)) (by omega) (by omega) g0 ?_;refine dV aK aJ hov0 (λw' hw=>hov w' (bL hw)) (by omega) (by omega) g1 ?_;refine (kN (h.ext D)).mono λv w1 ⟨hv,x1⟩=>?_;subst hv;have X1:=D.trans x1;rw [har];refine ⟨X1,aT.2 (aL (λhne=>?_) λhfine=>?_)⟩
 ·refine hk _ _ (iR h X1 ?_ ?_)<;>unfold qC<;>rw [if_neg hne];exact hps
 have hf:gS s.ar r a 1 who=36864:=Classical.not_not.1 hfine;obtain ⟨k,x,hk2,hr,hm,ha0,_,han⟩:=fR ((jB q.ar r a 1 who).trans (by rw [har];exact hf));obtain ⟨a,rfl⟩:∃ n:Nat,a=n:=⟨a.toNat,by omega⟩
 try simp only [aF,Int.reduceEq,decide_false,decide_true,aA,aE]
 refine ⟨_,qS (h.ext X1) hk2 hr (hov w1 (bL X1)) (by omega) (by omega) g0,?_⟩;rintro _ w2 ⟨b,rfl,hbx,x2⟩ _;have X2:=X1.trans x2;have D2:aG w2 w2.drew:=(aG.refl _).drew;refine aI.mk' (λw'=>aG w2 w') D2 ?_;refine dU (λw' hw=>hbx.ext hw) bO gJ rfl ?_;refine gR aK aJ (hov w2 (bL X2)) (λw' hw=>hw) (by omega) (by omega) g1 ?_;refine gR iH uK (aC.of_own (X2.own (h.data x (List.mem_of_getElem? hk2)))) (λw' hw=>hw) (by omega) (by omega) (rC (by omega)) ?_;refine aB.ok (λw' _=>bG underlying5 underlying21) ?_;refine hk _ _ (iR h (X2.trans D2) ?_ ?_)<;>unfold qC<;>rw [if_pos hf]
 ·rw [<- har,show kY (q.ar.map pa) r=x.data from jD hk2 hr,Int.toNat_natCast]
 ·exact hps
theorem aMs (h:dE q w) {who sa sb r a z:Int} (hov:∀ w2,Fr (nO q) w w2->aC w2 ov 1 3 [i64 r,i64 a,i64 z]) (hps:q.ps=s.ev [⟨2,r,a,1⟩]) (hk:∀ u w',SW q w (qA s who r a z) u w'->R u w') :
  jP (rG q) (i64 who) (i64 30) (i64 sa) (i64 sb) av ov w R:=by
 have har:q.ar.map pa=s.ar:=congrArg PS.ar hps;have hov0:=hov w (Fr.refl _ _);have g0:([i64 r,i64 a,i64 z]:List O)[(0:Int).toNat]?=some (i64 r):=rfl;have g1:([i64 r,i64 a,i64 z]:List O)[(1:Int).toNat]?=some (i64 a):=rfl;have g2:([i64 r,i64 a,i64 z]:List O)[(2:Int).toNat]?=some (i64 z):=rfl;have D:aG w w.drew:=(aG.refl _).drew;unfold jP;refine ⟨λv w'=>v=.bool false/\w'=w,(by first|exact ⟨rfl,rfl⟩|(try simp only [aF,Int.reduceEq,decide_false,aA];exact ⟨trivial,trivial⟩)|(try simp only [aF,Int.reduceEq,decide_false,decide_true,aA,aE];exact ⟨rfl,rfl⟩)),?_⟩;rintro _ w' ⟨rfl,hw⟩ _;have hw:=hw.symm;subst hw;refine aA.2 ?_
 try simp only [aF,Int.reduceEq,decide_false,decide_true,aA,aE]
 refine ⟨λv w'=>v=.bool true/\w'=w,(by first|exact ⟨rfl,rfl⟩|(try simp only [aF,Int.reduceEq,decide_false,decide_true,aA,aE];exact ⟨trivial,trivial⟩)|(try simp only [aF,Int.reduceEq,decide_false,decide_true,aA,aE];exact ⟨rfl,rfl⟩)),?_⟩;rintro _ w' ⟨rfl,hw⟩ _;have hw:=hw.symm;subst hw;refine aE.2 ?_;refine aI.mk' (λw'=>aG w w') D ⟨.inl ⟨_,rfl⟩,?_⟩;refine dU (λw' hw=>(h.xbox.ext hw).boxed) bJ dF rfl ?_;refine dV aK aJ hov0 (λw' hw=>hov w' (bL hw)) (by omega) (by omega) g0 ?_;refine dV aK aJ hov0 (λw' hw=>hov w' (bL hw)) (by omega) (by omega) g1 ?_;refine (kN (h.ext D)).mono λv w1 ⟨hv,x1⟩=>?_;subst hv;have X1:=D.trans x1;rw [har];refine ⟨X1,aT.2 (aL (λhne=>?_) λhfine=>?_)⟩
 ·refine hk _ _ (iR h X1 ?_ ?_)<;>unfold qA<;>rw [if_neg hne];exact hps
 have hf:gS s.ar r a 1 who=36864:=Classical.not_not.1 hfine;obtain ⟨k,x,hk2,hr,hm,ha0,_,han⟩:=fR ((jB q.ar r a 1 who).trans (by rw [har];exact hf));obtain ⟨a,rfl⟩:∃ n:Nat,a=n:=⟨a.toNat,by omega⟩
 try simp only [aF,Int.reduceEq,decide_false,decide_true,aA,aE]
 have D1:aG w1 w1.drew:=(aG.refl _).drew;have X2:=X1.trans D1;refine aI.mk' (λw'=>Fr (λi=>i=q.yb) w w') (Fr.of_ext X2) ⟨.inl ⟨_,rfl⟩,?_⟩;refine dU (λw' hw=>NV h hw) bJ dF rfl ?_;refine dV aK aJ hov0 (λw' hw=>hov w' (xL hw)) (by omega) (by omega) g0 ?_;refine dV aK aJ hov0 (λw' hw=>hov w' (xL hw)) (by omega) (by omega) g1 ?_;refine dV aK aJ hov0 (λw' hw=>hov w' (xL hw)) (by omega) (by omega) g2 ?_;refine aB.ok (λw' _=>bG underlying3 underlying5) ?_;refine kC lD [u8 (IntKind.u8.wrap z)] rfl rfl (by simp) rfl λsv w3 ho3 x3=>?_;have X3:=X2.trans x3;refine ⟨Fr.of_ext X3,?_⟩;refine (NA (h.ext X3) hk2 hr (a:=a) (S:=[IntKind.u8.wrap z]) (aC.of_own ho3) (by simp;omega)).mono λ_ w4 ⟨g',cap',dv,h5,s5,f5⟩=>?_;refine ⟨(Fr.of_ext (S:=λi=>i=q.yb) X3).trans f5 λ_ _ h=>h,hk _ _ ⟨_,?_,?_,h5,(mK.of_ext X3).trans s5⟩⟩<;>unfold qA<;>rw [if_pos hf]
 ·rw [<- har,show kY (q.ar.map pa) r=x.data from jD hk2 hr,Int.toNat_natCast]
  have hset:x.data.take a++[IntKind.u8.wrap z]++x.data.drop (a+[IntKind.u8.wrap z].length)=x.data.set a (IntKind.u8.wrap z):=by
   rw [List.set_eq_take_append_cons_drop,if_pos (by omega)];simp
  rw [hset];show (⟨q.size,(q.ar.set k { x with dv:=dv,data:=x.data.set a (IntKind.u8.wrap z) }).map pa,q.tp,q.ts,q.tr⟩:PS)=_;rw [uA hk2 hr];have e1:q.tp=s.tp:=congrArg PS.tp hps;have e2:q.ts=s.ts:=congrArg PS.ts hps;have e3:q.tr=s.tr++[⟨2,r,(a:Int),1⟩]:=congrArg PS.tr hps;have e4:q.size=s.size:=congrArg PS.size hps;rw [e1,e2,e3,e4];rfl
theorem aMr (h:dE q w) {who sa sb r1 a1 r2 a2 n:Int} (_:∀ x∈s.ar,pQ x.data) (hov:∀ w2,Fr (nO q) w w2->aC w2 ov 1 5 [i64 r1,i64 a1,i64 r2,i64 a2,i64 n]) (hps:q.ps=s.ev2 r1 a1 r2 a2 n) (hk:∀ u w',SW q w (lF s who r1 a1 r2 a2 n) u w'->R u w') :
  jP (rG q) (i64 who) (i64 31) (i64 sa) (i64 sb) av ov w R:=by
 have har:q.ar.map pa=s.ar:=congrArg PS.ar hps;have hov0:=hov w (Fr.refl _ _);have g0:([i64 r1,i64 a1,i64 r2,i64 a2,i64 n]:List O)[(0:Int).toNat]?=some (i64 r1):=rfl;have g1:([i64 r1,i64 a1,i64 r2,i64 a2,i64 n]:List O)[(1:Int).toNat]?=some (i64 a1):=rfl;have g2:([i64 r1,i64 a1,i64 r2,i64 a2,i64 n]:List O)[(2:Int).toNat]?=some (i64 r2):=rfl;have g3:([i64 r1,i64 a1,i64 r2,i64 a2,i64 n]:List O)[(3:Int).toNat]?=some (i64 a2):=rfl;have g4:([i64 r1,i64 a1,i64 r2,i64 a2,i64 n]:List O)[(4:Int).toNat]?=some (i64 n):=rfl;have D:aG w w.drew:=(aG.refl _).drew;unfold jP;refine ⟨λv w'=>v=.bool false/\w'=w,(by first|exact ⟨rfl,rfl⟩|(try simp only [aF,Int.reduceEq,decide_false,aA];exact ⟨trivial,trivial⟩)|(try simp only [aF,Int.reduceEq,decide_false,decide_true,aA,aE];exact ⟨rfl,rfl⟩)),?_⟩;rintro _ w' ⟨rfl,hw⟩ _;have hw:=hw.symm;subst hw;refine aA.2 ?_
 try simp only [aF,Int.reduceEq,decide_false,decide_true,aA,aE]
 refine ⟨λv w'=>v=.bool false/\w'=w,(by first|exact ⟨rfl,rfl⟩|(try simp only [aF,Int.reduceEq,decide_false,decide_true,aA,aE];exact ⟨trivial,trivial⟩)|(try simp only [aF,Int.reduceEq,decide_false,decide_true,aA,aE];exact ⟨rfl,rfl⟩)),?_⟩;rintro _ w' ⟨rfl,hw⟩ _;have hw:=hw.symm;subst hw;refine aA.2 ?_;refine ⟨λv w'=>v=.bool true/\w'=w,(by first|exact ⟨rfl,rfl⟩|(try simp only [aF,Int.reduceEq,decide_false,decide_true,aA,aE];exact ⟨trivial,trivial⟩)|(try simp only [aF,Int.reduceEq,decide_false,decide_true,aA,aE];exact ⟨rfl,rfl⟩)),?_⟩;rintro _ w' ⟨rfl,hw⟩ _;have hw:=hw.symm;subst hw;refine aE.2 ?_;refine aI.mk' (λw'=>aG w w') D ⟨.inl ⟨_,rfl⟩,?_⟩;refine dU (λw' hw=>(h.xbox.ext hw).boxed) bJ dF rfl ?_;refine dV aK aJ hov0 (λw' hw=>hov w' (bL hw)) (by omega) (by omega) g0 ?_;refine dV aK aJ hov0 (λw' hw=>hov w' (bL hw)) (by omega) (by omega) g1 ?_;refine dV aK aJ hov0 (λw' hw=>hov w' (bL hw)) (by omega) (by omega) g4 ?_;refine (kN (h.ext D)).mono λv w1 ⟨hv,x1⟩=>?_;subst hv;have X1:=D.trans x1;rw [har];refine ⟨X1,aT.2 (aL (λhne=>?_) λhf1=>?_)⟩
 ·have hb:jN s who r1 a1 r2 a2 n=gS s.ar r1 a1 n who:=by unfold jN;rw [if_neg hne]
  refine hk _ _ (iR h X1 ?_ ?_)<;>unfold lF<;>rw [if_neg (by rw [hb];exact hne)]
  ·rw [hb]
  ·exact hps
 have hf1:gS s.ar r1 a1 n who=36864:=Classical.not_not.1 hf1;have D1:aG w1 w1.drew:=(aG.refl _).drew;have X1d:=X1.trans D1;refine aI.mk' (λw'=>aG w w') X1d ⟨.inl ⟨_,rfl⟩,?_⟩;refine dU (λw' hw=>(h.xbox.ext hw).boxed) bJ dF rfl ?_;refine dV aK aJ hov0 (λw' hw=>hov w' (bL hw)) (by omega) (by omega) g2 ?_;refine dV aK aJ hov0 (λw' hw=>hov w' (bL hw)) (by omega) (by omega) g3 ?_;refine dV aK aJ hov0 (λw' hw=>hov w' (bL hw)) (by omega) (by omega) g4 ?_;refine (kN (h.ext X1d)).mono λv w2 ⟨hv,x2⟩=>?_;subst hv;have X2:=X1d.trans x2;rw [har];have hb:jN s who r1 a1 r2 a2 n=gS s.ar r2 a2 n who:=by unfold jN;rw [if_pos hf1]
 refine ⟨X2,aT.2 (aL (λhne=>?_) λhf2=>?_)⟩
 ·refine hk _ _ (iR h X2 ?_ ?_)<;>unfold lF<;>rw [if_neg (by rw [hb];exact hne)]
  ·rw [hb]
  ·exact hps
 have hf2:gS s.ar r2 a2 n who=36864:=Classical.not_not.1 hf2;have hfine:jN s who r1 a1 r2 a2 n=36864:=hb.trans hf2;obtain ⟨k1,y1,hk1,hr1,hm1,ha1,hn0,hn1⟩:=fR ((jB q.ar r1 a1 n who).trans (by rw [har];exact hf1));obtain ⟨k2,y2,hk2,hr2,hm2,ha2,_,hn2⟩:=fR ((jB q.ar r2 a2 n who).trans (by rw [har];exact hf2));obtain ⟨n,rfl⟩:∃ m:Nat,n=m:=⟨n.toNat,by omega⟩;obtain ⟨a,rfl⟩:∃ m:Nat,a1=m:=⟨a1.toNat,by omega⟩;obtain ⟨c,rfl⟩:∃ m:Nat,a2=m:=⟨a2.toNat,by omega⟩;have hym1:=List.mem_of_getElem? hk1;have hym2:=List.mem_of_getElem? hk2;have hl1:=h.len y1 hym1;have hl2:=h.len y2 hym2;have d1:kY s.ar r1=y1.data:=by rw [<- har];exact jD hk1 hr1
 have d2:kY s.ar r2=y2.data:=by rw [<- har];exact jD hk2 hr2
 refine ⟨_,qS (h.ext X2) hk1 hr1 (hov w2 (bL X2)) (by omega) (by omega) g0,?_⟩;rintro _ w3 ⟨b1,rfl,hbx1,x3⟩ _;have X3:=X2.trans x3;refine ⟨_,qS (h.ext X3) hk2 hr2 (hov w3 (bL X3)) (by omega) (by omega) g2,?_⟩;rintro _ w4 ⟨b2,rfl,hbx2,x4⟩ _;have X4:=X3.trans x4;have D4:aG w4 w4.drew:=(aG.refl _).drew;have X5:=X4.trans D4;have hs2:∀ {w'},aG w w'->aC w' y2.dv 1 y2.data.length (y2.data.map u8):=λhx=>aC.of_own (hx.own (h.data y2 hym2));have hs1:∀ {w'},aG w w'->aC w' y1.dv 1 y1.data.length (y1.data.map u8):=λhx=>aC.of_own (hx.own (h.data y1 hym1));refine aI.mk' (λw'=>aG w4 w') D4 ?_;refine dU (λw' hw=>hbx2.ext hw) bO gJ rfl ?_;refine dV aK aJ hov0 (λw' hw=>hov w' (bL (X4.trans hw))) (by omega) (by omega) g3 ?_;refine dV aK aJ hov0 (λw' hw=>hov w' (bL (X4.trans hw))) (by omega) (by omega) g3 ?_;refine dV aK aJ hov0 (λw' hw=>hov w' (bL (X4.trans hw))) (by omega) (by omega) g4 ?_;refine aB.ok (λw' _=>lG) ?_;rw [show IntKind.i64.wrap ((c:Int)+(n:Int))=((c+n:Nat):Int) from by rw [aX (by omega)];omega];obtain ⟨fv,hfr,hfs⟩:=uD (P:=prog) underlying23 mM (hs2 X5) (lo:=some (i64 (c:Int))) (hi':=some (i64 ((c+n:Nat):Int))) (a:=c) (b:=c+n) (.inr rfl) (.inr rfl) (by omega) (by omega);refine aB.ok (λw' _=>hfr w') ?_;have e2:((y2.data.drop c).take n).length=n:=by simp;omega
 have hfB:∀ {w'},aG w w'->dL w' fv ((y2.data.drop c).take n):=λhx=>by
  have:=hfs _ (hs2 hx);unfold dL;rw [e2];simpa using this
 try simp only [aF,Int.reduceEq,decide_false,decide_true,aA,aE]
 have D5:aG w4.drew w4.drew.drew:=(aG.refl _).drew;have X6:=X5.trans D5;refine aI.mk' (λw'=>Fr (λi=>i=q.yb) w w') (Fr.of_ext X6) ⟨.inl ⟨_,rfl⟩,?_⟩;refine dU (λw' hw=>NV h hw) bJ dF rfl ?_;refine dV aK aJ hov0 (λw' hw=>hov w' (xL hw)) (by omega) (by omega) g0 ?_;refine dV aK aJ hov0 (λw' hw=>hov w' (xL hw)) (by omega) (by omega) g1 ?_;refine (NA (h.ext X6) hk1 hr1 (a:=a) (hfB X6) (by rw [e2];omega)).mono λ_ w7 ⟨g',cap',dv,h7,s7,f7⟩=>?_;refine ⟨(Fr.of_ext (S:=λi=>i=q.yb) X6).trans f7 λ_ _ h=>h,hk _ _ ⟨_,?_,?_,h7,(mK.of_ext X6).trans s7⟩⟩<;>unfold lF<;>rw [if_pos hfine]
 ·have ec:WN s.ar r1 (a:Int) r2 (c:Int) (n:Int)=y1.data.take a++(y2.data.drop c).take n++y1.data.drop (a+((y2.data.drop c).take n).length):=by
   unfold WN;rw [d1,d2,e2];simp only [Int.toNat_natCast]
  rw [ec,<- har];show (⟨q.size,(q.ar.set k1 { y1 with dv:=dv,data:=y1.data.take a++(y2.data.drop c).take n++y1.data.drop (a+((y2.data.drop c).take n).length) }).map pa,q.tp,q.ts,q.tr⟩:PS)=_;rw [uA hk1 hr1];have e1:q.tp=s.tp:=congrArg PS.tp hps;have e2:q.ts=s.ts:=congrArg PS.ts hps;have e3:q.tr=(s.tr++[⟨2,r1,(a:Int),(n:Int)⟩])++[⟨2,r2,(c:Int),(n:Int)⟩]:=congrArg PS.tr hps;have e4:q.size=s.size:=congrArg PS.size hps;rw [e1,e2,e3,e4];rfl
theorem aMq (h:dE q w) {who sa sb r1 a1 r2 a2 n:Int} (hby:∀ x∈s.ar,pQ x.data) (hov:∀ w2,Fr (nO q) w w2->aC w2 ov 1 5 [i64 r1,i64 a1,i64 r2,i64 a2,i64 n]) (hps:q.ps=s.ev2 r1 a1 r2 a2 n) (hk:∀ u w',SW q w (kQ s who r1 a1 r2 a2 n) u w'->R u w') :
  jP (rG q) (i64 who) (i64 32) (i64 sa) (i64 sb) av ov w R:=by
 have har:q.ar.map pa=s.ar:=congrArg PS.ar hps;have hov0:=hov w (Fr.refl _ _);have g0:([i64 r1,i64 a1,i64 r2,i64 a2,i64 n]:List O)[(0:Int).toNat]?=some (i64 r1):=rfl;have g1:([i64 r1,i64 a1,i64 r2,i64 a2,i64 n]:List O)[(1:Int).toNat]?=some (i64 a1):=rfl;have g2:([i64 r1,i64 a1,i64 r2,i64 a2,i64 n]:List O)[(2:Int).toNat]?=some (i64 r2):=rfl;have g3:([i64 r1,i64 a1,i64 r2,i64 a2,i64 n]:List O)[(3:Int).toNat]?=some (i64 a2):=rfl;have g4:([i64 r1,i64 a1,i64 r2,i64 a2,i64 n]:List O)[(4:Int).toNat]?=some (i64 n):=rfl;have D:aG w w.drew:=(aG.refl _).drew;unfold jP;refine ⟨λv w'=>v=.bool false/\w'=w,(by first|exact ⟨rfl,rfl⟩|(try simp only [aF,Int.reduceEq,decide_false,aA];exact ⟨trivial,trivial⟩)|(try simp only [aF,Int.reduceEq,decide_false,decide_true,aA,aE];exact ⟨rfl,rfl⟩)),?_⟩;rintro _ w' ⟨rfl,hw⟩ _;have hw:=hw.symm;subst hw;refine aA.2 ?_
 try simp only [aF,Int.reduceEq,decide_false,decide_true,aA]
 refine ⟨λv w'=>v=.bool false/\w'=w,(by first|exact ⟨rfl,rfl⟩|(try simp only [aF,Int.reduceEq,decide_false,decide_true,aA,aE];exact ⟨trivial,trivial⟩)|(try simp only [aF,Int.reduceEq,decide_false,decide_true,aA,aE];exact ⟨rfl,rfl⟩)),?_⟩;rintro _ w' ⟨rfl,hw⟩ _;have hw:=hw.symm;subst hw;refine aA.2 ?_;refine ⟨λv w'=>v=.bool true/\w'=w,(by first|exact ⟨rfl,rfl⟩|(try simp only [aF,Int.reduceEq,decide_false,decide_true,aA,aE];exact ⟨trivial,trivial⟩)|(try simp only [aF,Int.reduceEq,decide_false,decide_true,aA,aE];exact ⟨rfl,rfl⟩)),?_⟩;rintro _ w' ⟨rfl,hw⟩ _;have hw:=hw.symm;subst hw;refine aE.2 ?_;refine aI.mk' (λw'=>aG w w') D ⟨.inl ⟨_,rfl⟩,?_⟩;refine dU (λw' hw=>(h.xbox.ext hw).boxed) bJ dF rfl ?_;refine dV aK aJ hov0 (λw' hw=>hov w' (bL hw)) (by omega) (by omega) g0 ?_;refine dV aK aJ hov0 (λw' hw=>hov w' (bL hw)) (by omega) (by omega) g1 ?_;refine dV aK aJ hov0 (λw' hw=>hov w' (bL hw)) (by omega) (by omega) g4 ?_;refine (kN (h.ext D)).mono λv w1 ⟨hv,x1⟩=>?_;subst hv;have X1:=D.trans x1;rw [har];refine ⟨X1,aT.2 (aL (λhne=>?_) λhf1=>?_)⟩
 ·have hb:jN s who r1 a1 r2 a2 n=gS s.ar r1 a1 n who:=by unfold jN;rw [if_neg hne]
  refine hk _ _ (iR h X1 ?_ ?_)<;>unfold kQ<;>rw [if_neg (by rw [hb];exact hne)]
  ·rw [hb]
  ·exact hps
 have hf1:gS s.ar r1 a1 n who=36864:=Classical.not_not.1 hf1;have D1:aG w1 w1.drew:=(aG.refl _).drew;have X1d:=X1.trans D1;refine aI.mk' (λw'=>aG w w') X1d ⟨.inl ⟨_,rfl⟩,?_⟩;refine dU (λw' hw=>(h.xbox.ext hw).boxed) bJ dF rfl ?_;refine dV aK aJ hov0 (λw' hw=>hov w' (bL hw)) (by omega) (by omega) g2 ?_;refine dV aK aJ hov0 (λw' hw=>hov w' (bL hw)) (by omega) (by omega) g3 ?_;refine dV aK aJ hov0 (λw' hw=>hov w' (bL hw)) (by omega) (by omega) g4 ?_;refine (kN (h.ext X1d)).mono λv w2 ⟨hv,x2⟩=>?_;subst hv;have X2:=X1d.trans x2;rw [har];have hb:jN s who r1 a1 r2 a2 n=gS s.ar r2 a2 n who:=by unfold jN;rw [if_pos hf1]
 refine ⟨X2,aT.2 (aL (λhne=>?_) λhf2=>?_)⟩
 ·refine hk _ _ (iR h X2 ?_ ?_)<;>unfold kQ<;>rw [if_neg (by rw [hb];exact hne)]
  ·rw [hb]
  ·exact hps
 have hf2:gS s.ar r2 a2 n who=36864:=Classical.not_not.1 hf2;have hfine:jN s who r1 a1 r2 a2 n=36864:=hb.trans hf2;obtain ⟨k1,y1,hk1,hr1,hm1,ha1,hn0,hn1⟩:=fR ((jB q.ar r1 a1 n who).trans (by rw [har];exact hf1));obtain ⟨k2,y2,hk2,hr2,hm2,ha2,_,hn2⟩:=fR ((jB q.ar r2 a2 n who).trans (by rw [har];exact hf2));obtain ⟨n,rfl⟩:∃ m:Nat,n=m:=⟨n.toNat,by omega⟩;obtain ⟨a,rfl⟩:∃ m:Nat,a1=m:=⟨a1.toNat,by omega⟩;obtain ⟨c,rfl⟩:∃ m:Nat,a2=m:=⟨a2.toNat,by omega⟩;have hym1:=List.mem_of_getElem? hk1;have hym2:=List.mem_of_getElem? hk2;have hl1:=h.len y1 hym1;have hl2:=h.len y2 hym2;have d1:kY s.ar r1=y1.data:=by rw [<- har];exact jD hk1 hr1
 have d2:kY s.ar r2=y2.data:=by rw [<- har];exact jD hk2 hr2
 refine ⟨_,qS (h.ext X2) hk1 hr1 (hov w2 (bL X2)) (by omega) (by omega) g0,?_⟩;rintro _ w3 ⟨b1,rfl,hbx1,x3⟩ _;have X3:=X2.trans x3;refine ⟨_,qS (h.ext X3) hk2 hr2 (hov w3 (bL X3)) (by omega) (by omega) g2,?_⟩;rintro _ w4 ⟨b2,rfl,hbx2,x4⟩ _;have X4:=X3.trans x4;have D4:aG w4 w4.drew:=(aG.refl _).drew;have X5:=X4.trans D4;have hs2:∀ {w'},aG w w'->aC w' y2.dv 1 y2.data.length (y2.data.map u8):=λhx=>aC.of_own (hx.own (h.data y2 hym2));have hs1:∀ {w'},aG w w'->aC w' y1.dv 1 y1.data.length (y1.data.map u8):=λhx=>aC.of_own (hx.own (h.data y1 hym1));refine aI.mk' (λw'=>aG w4 w') D4 ?_;refine dU (λw' hw=>hbx2.ext hw) bO gJ rfl ?_;refine dV aK aJ hov0 (λw' hw=>hov w' (bL (X4.trans hw))) (by omega) (by omega) g3 ?_;refine dV aK aJ hov0 (λw' hw=>hov w' (bL (X4.trans hw))) (by omega) (by omega) g3 ?_;refine dV aK aJ hov0 (λw' hw=>hov w' (bL (X4.trans hw))) (by omega) (by omega) g4 ?_;refine aB.ok (λw' _=>lG) ?_;rw [show IntKind.i64.wrap ((c:Int)+(n:Int))=((c+n:Nat):Int) from by rw [aX (by omega)];omega];obtain ⟨fv,hfr,hfs⟩:=uD (P:=prog) underlying23 mM (hs2 X5) (lo:=some (i64 (c:Int))) (hi':=some (i64 ((c+n:Nat):Int))) (a:=c) (b:=c+n) (.inr rfl) (.inr rfl) (by omega) (by omega);refine aB.ok (λw' _=>hfr w') ?_;have e2:((y2.data.drop c).take n).length=n:=by simp;omega
 have hfB:∀ {w'},aG w w'->dL w' fv ((y2.data.drop c).take n):=λhx=>by
  have:=hfs _ (hs2 hx);unfold dL;rw [e2];simpa using this
 try simp only [aF,Int.reduceEq,decide_false,decide_true,aA,aE]
 have D5:aG w4.drew w4.drew.drew:=(aG.refl _).drew;have X6:=X5.trans D5;refine aI.mk' (λw'=>aG w4 w') (D4.trans D5) ?_;refine dU (λw' hw=>(hbx1.ext x4).ext hw) bO gJ rfl ?_;refine dV aK aJ hov0 (λw' hw=>hov w' (bL (X4.trans hw))) (by omega) (by omega) g1 ?_;refine dV aK aJ hov0 (λw' hw=>hov w' (bL (X4.trans hw))) (by omega) (by omega) g1 ?_;refine dV aK aJ hov0 (λw' hw=>hov w' (bL (X4.trans hw))) (by omega) (by omega) g4 ?_;refine aB.ok (λw' _=>lG) ?_;rw [show IntKind.i64.wrap ((a:Int)+(n:Int))=((a+n:Nat):Int) from by rw [aX (by omega)];omega];obtain ⟨tv,htr,hts⟩:=uD (P:=prog) underlying23 mM (hs1 X5) (lo:=some (i64 (a:Int))) (hi':=some (i64 ((a+n:Nat):Int))) (a:=a) (b:=a+n) (.inr rfl) (.inr rfl) (by omega) (by omega);refine aB.ok (λw' _=>htr w') ?_;have e1:((y1.data.drop a).take n).length=n:=by simp;omega
 have htB:∀ {w'},aG w w'->dL w' tv ((y1.data.drop a).take n):=λhx=>by
  have:=hts _ (hs1 hx);unfold dL;rw [e1];simpa using this
 refine aB.ok (λw' hw=>aKz underlying23 underlying5 underlying9 (htB (X4.trans hw))) ?_;refine aB.ok (λw' hw=>aKz underlying23 underlying5 underlying9 (hfB (X4.trans hw))) ?_;refine aB.ok (λw' _=>vG) ?_;have o1:pQ ((y1.data.drop a).take n):=qH (qI (by rw [<- d1];exact NI hby) a) n;have o2:pQ ((y2.data.drop c).take n):=qH (qI (by rw [<- d2];exact NI hby) c) n;have hpar1:uF s.ar r1 (a:Int) (n:Int)=(y1.data.drop a).take n:=by unfold uF;rw [d1];simp only [Int.toNat_natCast]
 have hpar2:uF s.ar r2 (c:Int) (n:Int)=(y2.data.drop c).take n:=by unfold uF;rw [d2];simp only [Int.toNat_natCast]
 by_cases he:(y1.data.drop a).take n=(y2.data.drop c).take n
 ·rw [show ((strOfNums ((y1.data.drop a).take n)).toList == (strOfNums ((y2.data.drop c).take n)).toList)=true by rw [he];simp];refine aE.2 (hk _ _ (iR h X6 ?_ ?_))<;>unfold kQ<;>rw [if_pos hfine]
  ·rw [hpar1,hpar2,if_pos he]
  ·exact hps
 ·rw [show ((strOfNums ((y1.data.drop a).take n)).toList == (strOfNums ((y2.data.drop c).take n)).toList)=false by
   rw [beq_eq_false_iff_ne];exact λe=>he (QM o1 o2 e)]
  refine aA.2 (hk _ _ (iR h X6 ?_ ?_))<;>unfold kQ<;>rw [if_pos hfine]
  ·rw [hpar1,hpar2,if_neg he]
  ·exact hps
theorem dE.tellS (h:dE q w) {v5:O} {news:List Int} {B:Nat} (ho:w.ownsRow B 5 1 v5 (q.ts++news).length ((q.ts++news).map u8)) (hB:∀ i,B<=i->¬ nO q i/\¬ CJ q i) (hle:(q.ts++news).length<=128) :
  dE { q with sec:=v5,ts:=q.ts++news } (w.setCell ⟨q.xb,0+4,none⟩ v5)/\Fr (λi=>i=q.xb) w (w.setCell ⟨q.xb,0+4,none⟩ v5):=by
 have r1:=h.xbox.set (j:=4) (by simp) v5;have f:Fr (λi=>i=q.xb) w (w.setCell ⟨q.xb,0+4,none⟩ v5):=Fr.of_set rfl;have hM:nO q q.xb:=.inl rfl;have hv:∀ i,v5.ownBlock=some i->¬ nO q i:=λi hi=>(hB i (ho.lt i hi).1).1;refine ⟨⟨r1,f.blk h.ybox λe=>h.xy e.symm,f.blk h.ubox λe=>h.xu e.symm,f.own h.list λi hi e=>h.dj i (e▸hM) (.inl (by simpa [Value.ownBlock] using hi.symm)),λa ha=>f.own (h.data a ha) λi hi e=>h.dj i (e▸hM) (.inr (.inl ⟨a,ha,hi⟩)),h.len,f.own h.qp λi hi e=>h.dj i (e▸hM) (.inr (.inr (.inl hi))),f.own (aP ho (Nat.zero_le _)) λi hi e=>hv i hi (e▸hM),h.lp,hle,f.own h.trow λi hi e=>(h.une i hi).1 e,h.xy,h.xu,h.yu,h.une,λi hi hr=>?_,h.two,h.cnt,h.sz⟩,f⟩;rcases hr with hr|hr|hr|hr
 ·exact h.dj i hi (.inl hr)
 ·exact h.dj i hi (.inr (.inl hr))
 ·exact h.dj i hi (.inr (.inr (.inl hr)))
 ·exact hv i hr hi
theorem dE.tellP (h:dE q w) {v5:O} {news:List Int} {B:Nat} (ho:w.ownsRow B 5 1 v5 (q.tp++news).length ((q.tp++news).map u8)) (hB:∀ i,B<=i->¬ nO q i/\¬ CJ q i) (hle:(q.tp++news).length<=128) :
  dE { q with pub:=v5,tp:=q.tp++news } (w.setCell ⟨q.xb,0+3,none⟩ v5)/\Fr (λi=>i=q.xb) w (w.setCell ⟨q.xb,0+3,none⟩ v5):=by
 have r1:=h.xbox.set (j:=3) (by simp) v5;have f:Fr (λi=>i=q.xb) w (w.setCell ⟨q.xb,0+3,none⟩ v5):=Fr.of_set rfl;have hM:nO q q.xb:=.inl rfl;have hv:∀ i,v5.ownBlock=some i->¬ nO q i:=λi hi=>(hB i (ho.lt i hi).1).1;refine ⟨⟨r1,f.blk h.ybox λe=>h.xy e.symm,f.blk h.ubox λe=>h.xu e.symm,f.own h.list λi hi e=>h.dj i (e▸hM) (.inl (by simpa [Value.ownBlock] using hi.symm)),λa ha=>f.own (h.data a ha) λi hi e=>h.dj i (e▸hM) (.inr (.inl ⟨a,ha,hi⟩)),h.len,f.own (aP ho (Nat.zero_le _)) λi hi e=>hv i hi (e▸hM),f.own h.qs λi hi e=>h.dj i (e▸hM) (.inr (.inr (.inr hi))),hle,h.ls,f.own h.trow λi hi e=>(h.une i hi).1 e,h.xy,h.xu,h.yu,h.une,λi hi hr=>?_,h.two,h.cnt,h.sz⟩,f⟩;rcases hr with hr|hr|hr|hr
 ·exact h.dj i hi (.inl hr)
 ·exact h.dj i hi (.inr (.inl hr))
 ·exact hv i hr hi
 ·exact h.dj i hi (.inr (.inr (.inr hr)))
theorem TY (h:dE q w) {who sa sb r a n:Int} (hsa:sa≠1) (hov:∀ w2,Fr (nO q) w w2->aC w2 ov 1 3 [i64 r,i64 a,i64 n]) (hps:q.ps=s.ev [⟨2,r,a,n⟩]) (hk:∀ u w',SW q w (fN s who sa r a n) u w'->R u w') :
  jP (rG q) (i64 who) (i64 36) (i64 sa) (i64 sb) av ov w R:=by
 have har:q.ar.map pa=s.ar:=congrArg PS.ar hps;have hov0:=hov w (Fr.refl _ _);have g0:([i64 r,i64 a,i64 n]:List O)[(0:Int).toNat]?=some (i64 r):=rfl;have g1:([i64 r,i64 a,i64 n]:List O)[(1:Int).toNat]?=some (i64 a):=rfl;have g2:([i64 r,i64 a,i64 n]:List O)[(2:Int).toNat]?=some (i64 n):=rfl;have D:aG w w.drew:=(aG.refl _).drew;unfold jP;refine ⟨λv w'=>v=.bool false/\w'=w,(by first|exact ⟨rfl,rfl⟩|(try simp only [aF,Int.reduceEq,decide_false,aA];exact ⟨trivial,trivial⟩)|(try simp only [aF,Int.reduceEq,decide_false,decide_true,aA,aE];exact ⟨rfl,rfl⟩)),?_⟩;rintro _ w' ⟨rfl,hw⟩ _;have hw:=hw.symm;subst hw;refine aA.2 ?_
 try simp only [aF,Int.reduceEq,decide_false,aA]
 refine ⟨λv w'=>v=.bool false/\w'=w,(by first|exact ⟨rfl,rfl⟩|(try simp only [aF,Int.reduceEq,decide_false,decide_true,aA,aE];exact ⟨trivial,trivial⟩)|(try simp only [aF,Int.reduceEq,decide_false,decide_true,aA,aE];exact ⟨rfl,rfl⟩)),?_⟩;rintro _ w' ⟨rfl,hw⟩ _;have hw:=hw.symm;subst hw;refine aA.2 ?_;refine ⟨λv w'=>v=.bool false/\w'=w,(by first|exact ⟨rfl,rfl⟩|(try simp only [aF,Int.reduceEq,decide_false,decide_true,aA,aE];exact ⟨trivial,trivial⟩)|(try simp only [aF,Int.reduceEq,decide_false,decide_true,aA,aE];exact ⟨rfl,rfl⟩)),?_⟩;rintro _ w' ⟨rfl,hw⟩ _;have hw:=hw.symm;subst hw;refine aA.2 ?_;refine aI.mk' (λw'=>aG w w') D ⟨.inl ⟨_,rfl⟩,?_⟩;refine dU (λw' hw=>(h.xbox.ext hw).boxed) bJ dF rfl ?_;refine dV aK aJ hov0 (λw' hw=>hov w' (bL hw)) (by omega) (by omega) g0 ?_;refine dV aK aJ hov0 (λw' hw=>hov w' (bL hw)) (by omega) (by omega) g1 ?_;refine dV aK aJ hov0 (λw' hw=>hov w' (bL hw)) (by omega) (by omega) g2 ?_;refine (kN (h.ext D)).mono λv w1 ⟨hv,x1⟩=>?_;subst hv;have X1:=D.trans x1;rw [har];refine ⟨X1,aT.2 (aL (λhne=>?_) λhfine=>?_)⟩
 ·refine hk _ _ (iR h X1 ?_ ?_)<;>unfold fN<;>rw [if_neg hne];exact hps
 have hf:gS s.ar r a n who=36864:=Classical.not_not.1 hfine;obtain ⟨k,x,hk2,hr,hm,ha0,hn0,han⟩:=fR ((jB q.ar r a n who).trans (by rw [har];exact hf));obtain ⟨a,rfl⟩:∃ m:Nat,a=m:=⟨a.toNat,by omega⟩;obtain ⟨n,rfl⟩:∃ m:Nat,n=m:=⟨n.toNat,by omega⟩;have hxm:=List.mem_of_getElem? hk2;have hxl:=h.len x hxm;have m1:=h.ls;have e1:q.tp=s.tp:=congrArg PS.tp hps;have e2:q.ts=s.ts:=congrArg PS.ts hps;have e3:q.tr=s.tr++[⟨2,r,(a:Int),(n:Int)⟩]:=congrArg PS.tr hps;have e4:q.size=s.size:=congrArg PS.size hps;refine ⟨_,qS (h.ext X1) hk2 hr (hov w1 (bL X1)) (by omega) (by omega) g0,?_⟩;rintro _ w2 ⟨b,rfl,hbx,x2⟩ _;have X2:=X1.trans x2;refine ⟨.inl ⟨_,rfl⟩,?_⟩;refine V.ok rX ?_;refine ⟨λv w'=>v=.pointer (some ⟨q.xb,0+4,none⟩)/\w'=w2,?_,?_⟩
 ·refine aT.2 ?_;simp only [show decide (sa≠1)=true by simpa using hsa,aE];refine ⟨.inl ⟨_,rfl⟩,?_⟩;exact V.ok wN ⟨by first|rfl|trivial,by first|rfl|trivial⟩
 rintro _ w' ⟨rfl,hw⟩ _;have hw:=hw.symm;subst hw;have D2:aG w2 w2.drew:=(aG.refl _).drew;have X3:=X2.trans D2;refine aI.mk' (λw'=>aG w w') X3 ?_;refine dV aK aJ hov0 (λw' hw=>hov w' (bL hw)) (by omega) (by omega) g2 ?_;refine ⟨.inl ⟨_,rfl⟩,?_⟩;refine aB.ok (λw' hw=>jG ((h.xbox.ext hw).cell (j:=4) rfl)) ?_;refine yY iH (aC.of_own h.qs) ?_;refine aB.ok (λw' _=>nC) ?_;rw [aX (by omega)];refine aB.ok (λw' _=>nI) ?_;refine aL (λhfull=>?_) λhroom=>?_
 ·refine hk _ _ (iR h X3 ?_ ?_)<;>unfold fN<;>rw [if_pos hf,if_neg hsa,if_pos (show s.ts.length+((n:Nat):Int).toNat > 128 by rw [<- e2,Int.toNat_natCast];omega)];exact hps
 have D3:aG w2.drew w2.drew.drew:=(aG.refl _).drew;have X4:=X3.trans D3;have hs1:∀ {w'},aG w w'->aC w' x.dv 1 x.data.length (x.data.map u8):=λhx=>aC.of_own (hx.own (h.data x hxm));have sz4:=X4.size;refine aI.mk' (λw'=>aG w2 w') (D2.trans D3) ⟨.inl ⟨_,rfl⟩,?_⟩;refine aB.ok (λw' hw=>jG ((h.xbox.ext (X2.trans hw)).cell (j:=4) rfl)) ?_;refine dU (λw' hw=>hbx.ext hw) bO gJ rfl ?_;refine dV aK aJ hov0 (λw' hw=>hov w' (bL (X2.trans hw))) (by omega) (by omega) g1 ?_;refine dV aK aJ hov0 (λw' hw=>hov w' (bL (X2.trans hw))) (by omega) (by omega) g1 ?_;refine dV aK aJ hov0 (λw' hw=>hov w' (bL (X2.trans hw))) (by omega) (by omega) g2 ?_;refine aB.ok (λw' _=>lG) ?_;rw [show IntKind.i64.wrap ((a:Int)+(n:Int))=((a+n:Nat):Int) from by rw [aX (by omega)];omega];obtain ⟨fv,hfr,hfs⟩:=uD (P:=prog) underlying23 mM (hs1 X4) (lo:=some (i64 (a:Int))) (hi':=some (i64 ((a+n:Nat):Int))) (a:=a) (b:=a+n) (.inr rfl) (.inr rfl) (by omega) (by omega);refine aB.ok (λw' _=>hfr w') ?_;have el:((x.data.drop a).take n).length=n:=by simp;omega
 refine kC lD [] rfl rfl (by simp) rfl λv5 w5 ho5 x5=>?_;have X5:=X4.trans x5;have sz5:=x5.size;refine ⟨(D2.trans D3).trans x5,?_⟩;refine apS lD ho5 (aC.of_own (X5.own h.qs)) (oJ _) (by omega) (by unfold maxLen;omega) sz5 λv6 w6 ho6 hg6 hl6=>?_;rw [Nat.zero_add,List.nil_append] at ho6;have x6:aG w2 w6:=((D2.trans D3).trans x5).grown hg6 λi hi=>by have:=(ho5.lt i hi).1;have:=(D2.trans D3).size;omega
 have X6:=X2.trans x6;refine ⟨x6,?_⟩
 have hfB:aC w6 fv 1 n (((x.data.drop a).take n).map u8):=by
  have:=hfs _ (hs1 X6);simpa [List.map_take,List.map_drop] using this
 refine apS lD ho6 hfB (oJ _) (by omega) (by unfold maxLen;omega) (by have:=x6.size;have:=X6.size;have:=hg6.size;omega) λv7 w7 ho7 hg7 hl7=>?_;have x7:aG w2 w7:=x6.grown hg7 λi hi=>by have:=(ho6.lt i hi).1;have:=(D2.trans D3).size;omega
 have X7:=X2.trans x7;refine ⟨x7,.inl ⟨_,rfl⟩,?_⟩
 have ho7':w7.ownsRow w2.drew.drew.heap.size 5 1 v7 (q.ts++(x.data.drop a).take n).length ((q.ts++(x.data.drop a).take n).map u8):=by
  rw [List.length_append,List.map_append,el];exact ho7
 refine DR lJ (h.xbox.ext X7) rfl (by simp) (bR ho7) ?_;obtain ⟨h8,f8⟩:=(h.ext X7).tellS ho7' (λi hi=>h.above i (by omega)) (by rw [List.length_append,el];omega);refine hk _ _ ⟨_,?_,?_,h8,⟨rfl,rfl,rfl,rfl,rfl,rfl,λi hi=>?_,λi hi=>.inl hi,(Fr.of_ext (S:=nO q) X7).trans (f8.mono λi hi=>.inl hi) λ_ _ h=>h⟩⟩
 ·unfold fN;rw [if_pos hf,if_neg hsa,if_neg (show ¬ s.ts.length+((n:Nat):Int).toNat > 128 by rw [<- e2,Int.toNat_natCast];omega)]
 ·unfold fN;rw [if_pos hf,if_neg hsa,if_neg (show ¬ s.ts.length+((n:Nat):Int).toNat > 128 by rw [<- e2,Int.toNat_natCast];omega)];unfold uF;rw [<- har,show kY (q.ar.map pa) r=x.data from jD hk2 hr];show (⟨q.size,q.ar.map pa,q.tp,q.ts++(x.data.drop a).take n,q.tr⟩:PS)=_;rw [e1,e2,e3,e4,har];rfl
 ·rcases hi with hi|hi|hi|hi|hi
  ·exact .inl hi
  ·exact .inr (.inl (.inl hi))
  ·exact .inr (.inl (.inr (.inl hi)))
  ·exact .inr (.inl (.inr (.inr (.inl hi))))
  ·exact .inr (.inr (by have:=(ho7'.lt i hi).1;omega))
theorem TZ (h:dE q w) {who sa sb r a n:Int} (hsa:sa=1) (hov:∀ w2,Fr (nO q) w w2->aC w2 ov 1 3 [i64 r,i64 a,i64 n]) (hps:q.ps=s.ev [⟨2,r,a,n⟩]) (hk:∀ u w',SW q w (fN s who sa r a n) u w'->R u w') :
  jP (rG q) (i64 who) (i64 36) (i64 sa) (i64 sb) av ov w R:=by
 have har:q.ar.map pa=s.ar:=congrArg PS.ar hps;have hov0:=hov w (Fr.refl _ _);have g0:([i64 r,i64 a,i64 n]:List O)[(0:Int).toNat]?=some (i64 r):=rfl;have g1:([i64 r,i64 a,i64 n]:List O)[(1:Int).toNat]?=some (i64 a):=rfl;have g2:([i64 r,i64 a,i64 n]:List O)[(2:Int).toNat]?=some (i64 n):=rfl;have D:aG w w.drew:=(aG.refl _).drew;unfold jP;refine ⟨λv w'=>v=.bool false/\w'=w,(by first|exact ⟨rfl,rfl⟩|(try simp only [aF,Int.reduceEq,decide_false,aA];exact ⟨trivial,trivial⟩)|(try simp only [aF,Int.reduceEq,decide_false,decide_true,aA,aE];exact ⟨rfl,rfl⟩)),?_⟩;rintro _ w' ⟨rfl,hw⟩ _;have hw:=hw.symm;subst hw;refine aA.2 ?_
 try simp only [aF,Int.reduceEq,decide_false,aA]
 refine ⟨λv w'=>v=.bool false/\w'=w,(by first|exact ⟨rfl,rfl⟩|(try simp only [aF,Int.reduceEq,decide_false,decide_true,aA,aE];exact ⟨trivial,trivial⟩)|(try simp only [aF,Int.reduceEq,decide_false,decide_true,aA,aE];exact ⟨rfl,rfl⟩)),?_⟩;rintro _ w' ⟨rfl,hw⟩ _;have hw:=hw.symm;subst hw;refine aA.2 ?_;refine ⟨λv w'=>v=.bool false/\w'=w,(by first|exact ⟨rfl,rfl⟩|(try simp only [aF,Int.reduceEq,decide_false,decide_true,aA,aE];exact ⟨trivial,trivial⟩)|(try simp only [aF,Int.reduceEq,decide_false,decide_true,aA,aE];exact ⟨rfl,rfl⟩)),?_⟩;rintro _ w' ⟨rfl,hw⟩ _;have hw:=hw.symm;subst hw;refine aA.2 ?_;refine aI.mk' (λw'=>aG w w') D ⟨.inl ⟨_,rfl⟩,?_⟩;refine dU (λw' hw=>(h.xbox.ext hw).boxed) bJ dF rfl ?_;refine dV aK aJ hov0 (λw' hw=>hov w' (bL hw)) (by omega) (by omega) g0 ?_;refine dV aK aJ hov0 (λw' hw=>hov w' (bL hw)) (by omega) (by omega) g1 ?_;refine dV aK aJ hov0 (λw' hw=>hov w' (bL hw)) (by omega) (by omega) g2 ?_;refine (kN (h.ext D)).mono λv w1 ⟨hv,x1⟩=>?_;subst hv;have X1:=D.trans x1;rw [har];refine ⟨X1,aT.2 (aL (λhne=>?_) λhfine=>?_)⟩
 ·refine hk _ _ (iR h X1 ?_ ?_)<;>unfold fN<;>rw [if_neg hne];exact hps
 have hf:gS s.ar r a n who=36864:=Classical.not_not.1 hfine;obtain ⟨k,x,hk2,hr,hm,ha0,hn0,han⟩:=fR ((jB q.ar r a n who).trans (by rw [har];exact hf));obtain ⟨a,rfl⟩:∃ m:Nat,a=m:=⟨a.toNat,by omega⟩;obtain ⟨n,rfl⟩:∃ m:Nat,n=m:=⟨n.toNat,by omega⟩;have hxm:=List.mem_of_getElem? hk2;have hxl:=h.len x hxm;have m1:=h.lp;have e1:q.tp=s.tp:=congrArg PS.tp hps;have e2:q.ts=s.ts:=congrArg PS.ts hps;have e3:q.tr=s.tr++[⟨2,r,(a:Int),(n:Int)⟩]:=congrArg PS.tr hps;have e4:q.size=s.size:=congrArg PS.size hps;refine ⟨_,qS (h.ext X1) hk2 hr (hov w1 (bL X1)) (by omega) (by omega) g0,?_⟩;rintro _ w2 ⟨b,rfl,hbx,x2⟩ _;have X2:=X1.trans x2;refine ⟨.inl ⟨_,rfl⟩,?_⟩;refine V.ok rX ?_;refine ⟨λv w'=>v=.pointer (some ⟨q.xb,0+3,none⟩)/\w'=w2,?_,?_⟩
 ·refine aT.2 ?_;simp only [show decide (sa≠1)=false by simpa using hsa,aA];exact ⟨by first|rfl|trivial,by first|rfl|trivial⟩
 rintro _ w' ⟨rfl,hw⟩ _;have hw:=hw.symm;subst hw;have D2:aG w2 w2.drew:=(aG.refl _).drew;have X3:=X2.trans D2;refine aI.mk' (λw'=>aG w w') X3 ?_;refine dV aK aJ hov0 (λw' hw=>hov w' (bL hw)) (by omega) (by omega) g2 ?_;refine ⟨.inl ⟨_,rfl⟩,?_⟩;refine aB.ok (λw' hw=>jG ((h.xbox.ext hw).cell (j:=3) rfl)) ?_;refine yY iH (aC.of_own h.qp) ?_;refine aB.ok (λw' _=>nC) ?_;rw [aX (by omega)];refine aB.ok (λw' _=>nI) ?_;refine aL (λhfull=>?_) λhroom=>?_
 ·refine hk _ _ (iR h X3 ?_ ?_)<;>unfold fN<;>rw [if_pos hf,if_pos hsa,if_pos (show s.tp.length+((n:Nat):Int).toNat > 128 by rw [<- e1,Int.toNat_natCast];omega)];exact hps
 have D3:aG w2.drew w2.drew.drew:=(aG.refl _).drew;have X4:=X3.trans D3;have hs1:∀ {w'},aG w w'->aC w' x.dv 1 x.data.length (x.data.map u8):=λhx=>aC.of_own (hx.own (h.data x hxm));have sz4:=X4.size;refine aI.mk' (λw'=>aG w2 w') (D2.trans D3) ⟨.inl ⟨_,rfl⟩,?_⟩;refine aB.ok (λw' hw=>jG ((h.xbox.ext (X2.trans hw)).cell (j:=3) rfl)) ?_;refine dU (λw' hw=>hbx.ext hw) bO gJ rfl ?_;refine dV aK aJ hov0 (λw' hw=>hov w' (bL (X2.trans hw))) (by omega) (by omega) g1 ?_;refine dV aK aJ hov0 (λw' hw=>hov w' (bL (X2.trans hw))) (by omega) (by omega) g1 ?_;refine dV aK aJ hov0 (λw' hw=>hov w' (bL (X2.trans hw))) (by omega) (by omega) g2 ?_;refine aB.ok (λw' _=>lG) ?_;rw [show IntKind.i64.wrap ((a:Int)+(n:Int))=((a+n:Nat):Int) from by rw [aX (by omega)];omega];obtain ⟨fv,hfr,hfs⟩:=uD (P:=prog) underlying23 mM (hs1 X4) (lo:=some (i64 (a:Int))) (hi':=some (i64 ((a+n:Nat):Int))) (a:=a) (b:=a+n) (.inr rfl) (.inr rfl) (by omega) (by omega);refine aB.ok (λw' _=>hfr w') ?_;have el:((x.data.drop a).take n).length=n:=by simp;omega
 refine kC lD [] rfl rfl (by simp) rfl λv5 w5 ho5 x5=>?_;have X5:=X4.trans x5;have sz5:=x5.size;refine ⟨(D2.trans D3).trans x5,?_⟩;refine apS lD ho5 (aC.of_own (X5.own h.qp)) (oJ _) (by omega) (by unfold maxLen;omega) sz5 λv6 w6 ho6 hg6 hl6=>?_;rw [Nat.zero_add,List.nil_append] at ho6;have x6:aG w2 w6:=((D2.trans D3).trans x5).grown hg6 λi hi=>by have:=(ho5.lt i hi).1;have:=(D2.trans D3).size;omega
 have X6:=X2.trans x6;refine ⟨x6,?_⟩
 have hfB:aC w6 fv 1 n (((x.data.drop a).take n).map u8):=by
  have:=hfs _ (hs1 X6);simpa [List.map_take,List.map_drop] using this
 refine apS lD ho6 hfB (oJ _) (by omega) (by unfold maxLen;omega) (by have:=x6.size;have:=X6.size;have:=hg6.size;omega) λv7 w7 ho7 hg7 hl7=>?_;have x7:aG w2 w7:=x6.grown hg7 λi hi=>by have:=(ho6.lt i hi).1;have:=(D2.trans D3).size;omega
 have X7:=X2.trans x7;refine ⟨x7,.inl ⟨_,rfl⟩,?_⟩
 have ho7':w7.ownsRow w2.drew.drew.heap.size 5 1 v7 (q.tp++(x.data.drop a).take n).length ((q.tp++(x.data.drop a).take n).map u8):=by
  rw [List.length_append,List.map_append,el];exact ho7
 refine DR lJ (h.xbox.ext X7) rfl (by simp) (bR ho7) ?_;obtain ⟨h8,f8⟩:=(h.ext X7).tellP ho7' (λi hi=>h.above i (by omega)) (by rw [List.length_append,el];omega);refine hk _ _ ⟨_,?_,?_,h8,⟨rfl,rfl,rfl,rfl,rfl,rfl,λi hi=>?_,λi hi=>.inl hi,(Fr.of_ext (S:=nO q) X7).trans (f8.mono λi hi=>.inl hi) λ_ _ h=>h⟩⟩
 ·unfold fN;rw [if_pos hf,if_pos hsa,if_neg (show ¬ s.tp.length+((n:Nat):Int).toNat > 128 by rw [<- e1,Int.toNat_natCast];omega)]
 ·unfold fN;rw [if_pos hf,if_pos hsa,if_neg (show ¬ s.tp.length+((n:Nat):Int).toNat > 128 by rw [<- e1,Int.toNat_natCast];omega)];unfold uF;rw [<- har,show kY (q.ar.map pa) r=x.data from jD hk2 hr];show (⟨q.size,q.ar.map pa,q.tp++(x.data.drop a).take n,q.ts,q.tr⟩:PS)=_;rw [e1,e2,e3,e4,har];rfl
 ·rcases hi with hi|hi|hi|hi|hi
  ·exact .inl hi
  ·exact .inr (.inl (.inl hi))
  ·exact .inr (.inl (.inr (.inl hi)))
  ·exact .inr (.inr (by have:=(ho7'.lt i hi).1;omega))
  ·exact .inr (.inl (.inr (.inr (.inr hi))))
end
structure rR (op who sa sb:Int) (n:Nat) (ns:List Int) (X:PS->AZ):Prop where
 prg:∀ {p:RP} {w:Ω} {av:O},cA p w->p.tr.length<=99000->aC w av 1 n (ns.map i32)->aD prog 136 #[lC p,rH p,i64 who,i64 op,i64 sa,i64 sb,av] w λr w'=>yW p w (X p.ps) r w'
 ref:∀ {q:QP} {w:Ω} {av:O},dE q w->q.tr.length<=99000->(∀ x∈q.ps.ar,pQ x.data)->(∀ w',Fr (nO q) w w'->aC w' av 1 n (ns.map i32))->aD prog 69 #[rG q,ubT q,i64 who,i64 op,i64 sa,i64 sb,av] w λr w'=>SW q w (X q.ps) r w'
 len:∀ s,(X s).2.2.tr.length<=s.tr.length+2
theorem aEy {who sa sb x0 x1:Int} (hsm:gE [x0,x1]):rR 17 who sa sb 2 [x0,x1] λs=>pU s x0 x1:=by
 refine ⟨λ{p w av} h hl hx=>?_,λ{q w av} h hl hby hva=>?_,λs=>?_⟩
 ·exact JW h hx hsm
 ·refine pM (BL (nn:=2) (xs:=[x0,x1]) (evs:=[]) h hl (by omega) (by simp) aCp (λho=>JT ho) rfl (hva _ (Fr.refl _ _)) hsm λw1 ov uv1 h1 s1 hov=>?_);exact aMw h1 hov (hva _ s1.fr) (hsm _ (by simp)) (hsm _ (by simp)) (s:=q.ps) (by show (⟨q.size,q.ar.map pa,q.tp,q.ts,q.tr++[]⟩:PS)=_;rw [List.append_nil];rfl) (λu w2 ⟨q2,e1,e2,e3,e4⟩=>⟨q2,e1,e2,e3,s1.trans e4⟩)
 ·show (pU s x0 x1).2.2.tr.length<=_;unfold pU
  repeat' split
  all_goals simp []
theorem aEx {who sa sb x0 x1:Int} (hsm:gE [x0,x1]):rR 18 who sa sb 2 [x0,x1] λs=>pT s x0 x1:=by
 refine ⟨λ{p w av} h hl hx=>?_,λ{q w av} h hl hby hva=>?_,λs=>?_⟩
 ·exact JV h hx hsm
 ·refine pM (BL (nn:=2) (xs:=[x0,x1]) (evs:=[]) h hl (by omega) (by simp) aCo (λho=>JS ho) rfl (hva _ (Fr.refl _ _)) hsm λw1 ov uv1 h1 s1 hov=>?_);exact aMv h1 hov (hva _ s1.fr) (hsm _ (by simp)) (hsm _ (by simp)) (s:=q.ps) (by show (⟨q.size,q.ar.map pa,q.tp,q.ts,q.tr++[]⟩:PS)=_;rw [List.append_nil];rfl) (λu w2 ⟨q2,e1,e2,e3,e4⟩=>⟨q2,e1,e2,e3,s1.trans e4⟩)
 ·show (pT s x0 x1).2.2.tr.length<=_;unfold pT
  repeat' split
  all_goals simp []
theorem aEw {who sa sb x0:Int} (hsm:gE [x0]) (hsa:sa=3\/sa=4) (hsb:0<=sb/\sb < 7):rR 27 who sa sb 1 [x0] λs=>dW s who sa sb x0:=by
 refine ⟨λ{p w av} h hl hx=>?_,λ{q w av} h hl hby hva=>?_,λs=>?_⟩
 ·refine lP (nn:=1) (f:=187) (by omega) MO (by decide) (xs:=[x0]) hx rfl hsm (Rr:=λr w'=>yW p w (dW p.ps who sa sb x0) r w') λw1 av1 ex1 ho1=>?_;have hva:∀ w',Fr (λi=>iX p i\/lB p i) w1 w'->aC w' av1 1 1 ([x0].map i64):=λw' hf=>aC.of_own (hf.own ho1 λi hi hm=>by have:=(ho1.lt i hi).1;have:=h.hi i hm;omega);rcases hsa with rfl|rfl
  ·refine (VL (h.ext ex1) (by omega) hsb (hva _ (Fr.refl _ _))).mono λr w' hr=>?_;obtain ⟨p2,e1,e2,e3,e4⟩:=hr;subst e1;exact ⟨_,_,rfl,⟨p2,rfl,e2,e3,(nR.of_ext ex1).trans e4⟩⟩
  ·refine (VK (h.ext ex1) (by omega) hsb (hva _ (Fr.refl _ _))).mono λr w' hr=>?_;obtain ⟨p2,e1,e2,e3,e4⟩:=hr;subst e1;exact ⟨_,_,rfl,⟨p2,rfl,e2,e3,(nR.of_ext ex1).trans e4⟩⟩
 ·refine pM (BL (nn:=1) (xs:=[x0]) (evs:=[⟨3,sa,sb,x0⟩]) h hl (by omega) (by simp) aCn (λho=>JR ho) rfl (hva _ (Fr.refl _ _)) hsm λw1 ov uv1 h1 s1 hov=>?_);rcases hsa with rfl|rfl
  ·exact UB h1 hsb hov (s:=q.ps) rfl (λu w2 ⟨q2,e1,e2,e3,e4⟩=>⟨q2,e1,e2,e3,s1.trans e4⟩)
  ·exact UA h1 hsb hov (s:=q.ps) rfl (λu w2 ⟨q2,e1,e2,e3,e4⟩=>⟨q2,e1,e2,e3,s1.trans e4⟩)
 ·show (dW s who sa sb x0).2.2.tr.length<=_;unfold dW
  repeat' split
  all_goals simp [PS.ev]
theorem aEv {who sa sb x0:Int} (hsm:gE [x0]):rR 28 who sa sb 1 [x0] λs=>qB s who x0:=by
 refine ⟨λ{p w av} h hl hx=>?_,λ{q w av} h hl hby hva=>?_,λs=>?_⟩
 ·refine lP (nn:=1) (f:=188) (by omega) MN (by decide) (xs:=[x0]) hx rfl hsm (Rr:=λr w'=>yW p w (qB p.ps who x0) r w') λw1 av1 ex1 ho1=>?_;have hva:∀ w',Fr (λi=>iX p i\/lB p i) w1 w'->aC w' av1 1 1 ([x0].map i64):=λw' hf=>aC.of_own (hf.own ho1 λi hi hm=>by have:=(ho1.lt i hi).1;have:=h.hi i hm;omega);refine (KH (h.ext ex1) (by omega) (hva _ (Fr.refl _ _))).mono λr w' hr=>?_;obtain ⟨p2,e1,e2,e3,e4⟩:=hr;subst e1;exact ⟨_,_,rfl,⟨p2,rfl,e2,e3,(nR.of_ext ex1).trans e4⟩⟩
 ·refine pM (BL (nn:=1) (xs:=[x0]) (evs:=[⟨2,x0,0,0⟩]) h hl (by omega) (by simp) aCm (λho=>JQ ho) rfl (hva _ (Fr.refl _ _)) hsm λw1 ov uv1 h1 s1 hov=>?_);exact aMu h1 hov (s:=q.ps) rfl (λu w2 ⟨q2,e1,e2,e3,e4⟩=>⟨q2,e1,e2,e3,s1.trans e4⟩)
 ·show (qB s who x0).2.2.tr.length<=_;unfold qB
  repeat' split
  all_goals simp [PS.ev]
theorem aEu {who sa sb x0 x1:Int} (hsm:gE [x0,x1]):rR 29 who sa sb 2 [x0,x1] λs=>qC s who x0 x1:=by
 refine ⟨λ{p w av} h hl hx=>?_,λ{q w av} h hl hby hva=>?_,λs=>?_⟩
 ·refine lP (nn:=2) (f:=189) (by omega) MM (by decide) (xs:=[x0,x1]) hx rfl hsm (Rr:=λr w'=>yW p w (qC p.ps who x0 x1) r w') λw1 av1 ex1 ho1=>?_;have hva:∀ w',Fr (λi=>iX p i\/lB p i) w1 w'->aC w' av1 1 2 ([x0,x1].map i64):=λw' hf=>aC.of_own (hf.own ho1 λi hi hm=>by have:=(ho1.lt i hi).1;have:=h.hi i hm;omega);refine (aDz (h.ext ex1) (by omega) (hva _ (Fr.refl _ _))).mono λr w' hr=>?_;obtain ⟨p2,e1,e2,e3,e4⟩:=hr;subst e1;exact ⟨_,_,rfl,⟨p2,rfl,e2,e3,(nR.of_ext ex1).trans e4⟩⟩
 ·refine pM (BL (nn:=2) (xs:=[x0,x1]) (evs:=[⟨2,x0,x1,1⟩]) h hl (by omega) (by simp) aCl (λho=>JP ho) rfl (hva _ (Fr.refl _ _)) hsm λw1 ov uv1 h1 s1 hov=>?_);exact aMt h1 hov (s:=q.ps) rfl (λu w2 ⟨q2,e1,e2,e3,e4⟩=>⟨q2,e1,e2,e3,s1.trans e4⟩)
 ·show (qC s who x0 x1).2.2.tr.length<=_;unfold qC
  repeat' split
  all_goals simp [PS.ev]
theorem aEt {who sa sb x0 x1 x2:Int} (hsm:gE [x0,x1,x2]):rR 30 who sa sb 3 [x0,x1,x2] λs=>qA s who x0 x1 x2:=by
 refine ⟨λ{p w av} h hl hx=>?_,λ{q w av} h hl hby hva=>?_,λs=>?_⟩
 ·refine lP (nn:=3) (f:=190) (by omega) ML (by decide) (xs:=[x0,x1,x2]) hx rfl hsm (Rr:=λr w'=>yW p w (qA p.ps who x0 x1 x2) r w') λw1 av1 ex1 ho1=>?_;have hva:∀ w',Fr (λi=>iX p i\/lB p i) w1 w'->aC w' av1 1 3 ([x0,x1,x2].map i64):=λw' hf=>aC.of_own (hf.own ho1 λi hi hm=>by have:=(ho1.lt i hi).1;have:=h.hi i hm;omega);refine (aCy (h.ext ex1) (by omega) hva).mono λr w' hr=>?_;obtain ⟨p2,e1,e2,e3,e4⟩:=hr;subst e1;exact ⟨_,_,rfl,⟨p2,rfl,e2,e3,(nR.of_ext ex1).trans e4⟩⟩
 ·refine pM (BL (nn:=3) (xs:=[x0,x1,x2]) (evs:=[⟨2,x0,x1,1⟩]) h hl (by omega) (by simp) aCk (λho=>JO ho) rfl (hva _ (Fr.refl _ _)) hsm λw1 ov uv1 h1 s1 hov=>?_);exact aMs h1 hov (s:=q.ps) rfl (λu w2 ⟨q2,e1,e2,e3,e4⟩=>⟨q2,e1,e2,e3,s1.trans e4⟩)
 ·show (qA s who x0 x1 x2).2.2.tr.length<=_;unfold qA
  repeat' split
  all_goals simp [PS.ev]
theorem aEs {who sa sb x0 x1 x2 x3 x4:Int} (hsm:gE [x0,x1,x2,x3,x4]):rR 31 who sa sb 5 [x0,x1,x2,x3,x4] λs=>lF s who x0 x1 x2 x3 x4:=by
 refine ⟨λ{p w av} h hl hx=>?_,λ{q w av} h hl hby hva=>?_,λs=>?_⟩
 ·refine lP (nn:=5) (f:=191) (by omega) MK (by decide) (xs:=[x0,x1,x2,x3,x4]) hx rfl hsm (Rr:=λr w'=>yW p w (lF p.ps who x0 x1 x2 x3 x4) r w') λw1 av1 ex1 ho1=>?_;have hva:∀ w',Fr (λi=>iX p i\/lB p i) w1 w'->aC w' av1 1 5 ([x0,x1,x2,x3,x4].map i64):=λw' hf=>aC.of_own (hf.own ho1 λi hi hm=>by have:=(ho1.lt i hi).1;have:=h.hi i hm;omega);refine (WO (h.ext ex1) hl hva).mono λr w' hr=>?_;obtain ⟨p2,e1,e2,e3,e4⟩:=hr;subst e1;exact ⟨_,_,rfl,⟨p2,rfl,e2,e3,(nR.of_ext ex1).trans e4⟩⟩
 ·refine pM (BL (nn:=5) (xs:=[x0,x1,x2,x3,x4]) (evs:=[⟨2,x0,x1,x4⟩,⟨2,x2,x3,x4⟩]) h hl (by omega) (by simp) aCj (λho=>JN ho) rfl (hva _ (Fr.refl _ _)) hsm λw1 ov uv1 h1 s1 hov=>?_);exact aMr h1 hby hov (s:=q.ps) (by show (⟨q.size,q.ar.map pa,q.tp,q.ts,q.tr++[_,_]⟩:PS)=⟨q.size,q.ar.map pa,q.tp,q.ts,(q.tr++[_])++[_]⟩;rw [List.append_assoc];rfl) (λu w2 ⟨q2,e1,e2,e3,e4⟩=>⟨q2,e1,e2,e3,s1.trans e4⟩)
 ·show (lF s who x0 x1 x2 x3 x4).2.2.tr.length<=_;unfold lF
  repeat' split
  all_goals simp [PS.ev,PS.ev2]
theorem aEr {who sa sb x0 x1 x2 x3 x4:Int} (hsm:gE [x0,x1,x2,x3,x4]):rR 32 who sa sb 5 [x0,x1,x2,x3,x4] λs=>kQ s who x0 x1 x2 x3 x4:=by
 refine ⟨λ{p w av} h hl hx=>?_,λ{q w av} h hl hby hva=>?_,λs=>?_⟩
 ·refine lP (nn:=5) (f:=192) (by omega) MJ (by decide) (xs:=[x0,x1,x2,x3,x4]) hx rfl hsm (Rr:=λr w'=>yW p w (kQ p.ps who x0 x1 x2 x3 x4) r w') λw1 av1 ex1 ho1=>?_;have hva:∀ w',Fr (λi=>iX p i\/lB p i) w1 w'->aC w' av1 1 5 ([x0,x1,x2,x3,x4].map i64):=λw' hf=>aC.of_own (hf.own ho1 λi hi hm=>by have:=(ho1.lt i hi).1;have:=h.hi i hm;omega);refine (TS (h.ext ex1) hl hva).mono λr w' hr=>?_;obtain ⟨p2,e1,e2,e3,e4⟩:=hr;subst e1;exact ⟨_,_,rfl,⟨p2,rfl,e2,e3,(nR.of_ext ex1).trans e4⟩⟩
 ·refine pM (BL (nn:=5) (xs:=[x0,x1,x2,x3,x4]) (evs:=[⟨2,x0,x1,x4⟩,⟨2,x2,x3,x4⟩]) h hl (by omega) (by simp) aCi (λho=>JM ho) rfl (hva _ (Fr.refl _ _)) hsm λw1 ov uv1 h1 s1 hov=>?_);exact aMq h1 hby hov (s:=q.ps) (by show (⟨q.size,q.ar.map pa,q.tp,q.ts,q.tr++[_,_]⟩:PS)=⟨q.size,q.ar.map pa,q.tp,q.ts,(q.tr++[_])++[_]⟩;rw [List.append_assoc];rfl) (λu w2 ⟨q2,e1,e2,e3,e4⟩=>⟨q2,e1,e2,e3,s1.trans e4⟩)
 ·show (kQ s who x0 x1 x2 x3 x4).2.2.tr.length<=_;unfold kQ
  repeat' split
  all_goals simp [PS.ev,PS.ev2]
theorem aEq {who sa sb x0 x1 x2:Int} (hsm:gE [x0,x1,x2]):rR 36 who sa sb 3 [x0,x1,x2] λs=>fN s who sa x0 x1 x2:=by
 refine ⟨λ{p w av} h hl hx=>?_,λ{q w av} h hl hby hva=>?_,λs=>?_⟩
 ·refine lP (nn:=3) (f:=193) (by omega) MH (by decide) (xs:=[x0,x1,x2]) hx rfl hsm (Rr:=λr w'=>yW p w (fN p.ps who sa x0 x1 x2) r w') λw1 av1 ex1 ho1=>?_;have hva:∀ w',Fr (λi=>iX p i\/lB p i) w1 w'->aC w' av1 1 3 ([x0,x1,x2].map i64):=λw' hf=>aC.of_own (hf.own ho1 λi hi hm=>by have:=(ho1.lt i hi).1;have:=h.hi i hm;omega);refine (TR (h.ext ex1) (by omega) (hva _ (Fr.refl _ _))).mono λr w' hr=>?_;obtain ⟨p2,e1,e2,e3,e4⟩:=hr;subst e1;exact ⟨_,_,rfl,⟨p2,rfl,e2,e3,(nR.of_ext ex1).trans e4⟩⟩
 ·refine pM (BL (nn:=3) (xs:=[x0,x1,x2]) (evs:=[⟨2,x0,x1,x2⟩]) h hl (by omega) (by simp) aCh (λho=>JL ho) rfl (hva _ (Fr.refl _ _)) hsm λw1 ov uv1 h1 s1 hov=>?_);by_cases hsa:sa=1
  ·exact TZ h1 hsa hov (s:=q.ps) rfl (λu w2 ⟨q2,e1,e2,e3,e4⟩=>⟨q2,e1,e2,e3,s1.trans e4⟩)
  ·exact TY h1 hsa hov (s:=q.ps) rfl (λu w2 ⟨q2,e1,e2,e3,e4⟩=>⟨q2,e1,e2,e3,s1.trans e4⟩)
 ·show (fN s who sa x0 x1 x2).2.2.tr.length<=_;unfold fN
  repeat' split
  all_goals simp [PS.ev]
end Go.Proofs.YtgkkecladbmjkaaGreatDoor
namespace Go.Proofs.YtgkkecladbmjkaaGreatDoor
open Tryz
open Go.Vc Go.Tc
def mD (a:Int):Prop:=-2147483648<=a/\a<=2147483647
def c31 (b:Int):Int:=IntKind.i32.wrap (BitVec.ofInt IntKind.i32.bits b &&& BitVec.ofInt IntKind.i32.bits 31).toNat
def oU (op a b:Int):Int:=
 if op=6 then IntKind.i32.wrap (a+b) else if op=7 then IntKind.i32.wrap (a - b) else if op=8 then IntKind.i32.wrap (a*b)
 else if op=9 then IntKind.i32.wrap (BitVec.ofInt IntKind.i32.bits a &&& BitVec.ofInt IntKind.i32.bits b).toNat
 else if op=10 then IntKind.i32.wrap (BitVec.ofInt IntKind.i32.bits a ||| BitVec.ofInt IntKind.i32.bits b).toNat
 else if op=11 then IntKind.i32.wrap (BitVec.ofInt IntKind.i32.bits a ^^^ BitVec.ofInt IntKind.i32.bits b).toNat
 else if op=12 then IntKind.i32.wrap (a*2 ^ (min (c31 b).toNat IntKind.i32.bits))
 else if op=13 then IntKind.i32.wrap ((IntKind.u32.wrap a).fdiv (2 ^ (min (c31 b).toNat IntKind.u32.bits)))
 else if op=14 then a.fdiv (2 ^ (min (c31 b).toNat IntKind.i32.bits))
 else if op=19 then (if a=b then 1 else 0)
 else if op=20 then (if a < b then 1 else 0)
 else if IntKind.u32.wrap a < IntKind.u32.wrap b then 1 else 0
def unF (op a:Int):Int:=
 if op=15 then IntKind.i32.wrap (0 - a)
 else if op=16 then IntKind.i32.wrap (BitVec.ofInt IntKind.i32.bits (-1) ^^^ BitVec.ofInt IntKind.i32.bits a).toNat
 else if a=0 then 1 else 0
def wQ (c a b:Int):Int:=if c=0 then b else a
theorem vQ (n:Int):mD (IntKind.i32.wrap n):=by
 unfold mD;simp only [IntKind.wrap_i32];omega
theorem aOn {a:Int} {k:Nat} (ha:mD a):mD (a.fdiv (2 ^ k)):=by
 have hp:(0:Int) < 2 ^ k:=by
  have:(0:Int) < ((2 ^ k:Nat):Int):=by exact_mod_cast Nat.two_pow_pos k
  simpa using this
 rw [Int.fdiv_eq_ediv_of_nonneg _ (Int.le_of_lt hp)];generalize (2:Int) ^ k=d at hp;unfold mD at *;refine ⟨?_,?_⟩
 ·rw [Int.le_ediv_iff_mul_le hp];have:=Int.mul_le_mul_of_nonpos_left (show (-2147483648:Int)<=0 by decide) (show (1:Int)<=d by omega);omega
 ·have:a / d < 2147483648:=by
   rw [Int.ediv_lt_iff_lt_mul hp];have:=Int.mul_le_mul_of_nonneg_left (show (1:Int)<=d by omega) (show (0:Int)<=2147483648 by decide);omega
  omega
theorem NM {c:Prop} [Decidable c] {a b:Int} (ha:mD a) (hb:mD b):mD (if c then a else b):=by split<;>assumption
theorem r01 {c:Prop} [Decidable c]:mD (if c then 1 else 0):=NM (by unfold mD;omega) (by unfold mD;omega)
theorem aPe {op a b:Int} (ha:mD a):mD (oU op a b):=by
 unfold oU
 repeat' (with_reducible apply NM)
 all_goals first|exact vQ _|exact aOn ha|(unfold mD;omega)
theorem aSl {op a:Int}:mD (unF op a):=by
 unfold unF
 repeat' (with_reducible apply NM)
 all_goals first|exact vQ _|(unfold mD;omega)
structure iK where
 who:Nat
 mth:Nat
 pc:Nat
 loc:List Int
 st:List Int
structure Rm where
 ps:PS
 fd:List (List Int)
def Rm.ev (r:Rm) (e:vC):Rm:={ r with ps:=r.ps.ev [e] }
def Rm.ends (r:Rm) (s:Int):Rm:=r.ev ⟨5,s,0,0⟩
structure PM where
 fs:List iK
 f:iK
 fuel:Nat
 r:Rm
inductive Out
 | run (m:PM)
 | fin (s:Int) (depth fuel:Nat) (r:Rm)
def aR (l:List bF) (k:Nat):bF:=l.getD k ⟨ByteArray.empty,[],[],[],[]⟩
def iK.img (l:List bF) (f:iK):bF:=aR l f.who
def iK.me (l:List bF) (f:iK):fV:=(f.img l).meth f.mth
def iK.ins (l:List bF) (f:iK):fO:=(f.me l).ins f.pc
def qP (l:List bF) (name:ByteArray):Option Nat:=l.findIdx? λi=>i.name.toList == name.toList
def kR (l:List bF) (who:Nat) (k:Int):Option (Nat × Nat):=
 (qP l ((aR l who).imp k).name).bind λt=>
  if ((aR l who).imp k).exp < (aR l t).exports.length/\((aR l t).meth ((aR l t).exports.getD ((aR l who).imp k).exp.toNat 0)).params=((aR l who).imp k).params/\((aR l t).meth ((aR l t).exports.getD ((aR l who).imp k).exp.toNat 0)).result=((aR l who).imp k).result
  then some (t,((aR l t).exports.getD ((aR l who).imp k).exp.toNat 0).toNat) else none
def eV (op:Int):Prop:=op=17\/op=18\/(27<=op/\op<=32)\/op=36
instance (op:Int):Decidable (eV op):=by unfold eV;exact inferInstance
def fG (s:PS) (who:Int) (x:fO) (t:List Int):AZ:=
 if x.op=17 then pU s (bM t 0) (bM t 1) else if x.op=18 then pT s (bM t 0) (bM t 1)
 else if x.op=27 then dW s who x.a x.b (bM t 0) else if x.op=28 then qB s who (bM t 0)
 else if x.op=29 then qC s who (bM t 0) (bM t 1) else if x.op=30 then qA s who (bM t 0) (bM t 1) (bM t 2)
 else if x.op=31 then lF s who (bM t 0) (bM t 1) (bM t 2) (bM t 3) (bM t 4)
 else if x.op=32 then kQ s who (bM t 0) (bM t 1) (bM t 2) (bM t 3) (bM t 4)
 else fN s who x.a (bM t 0) (bM t 1) (bM t 2)
def oF (l:List bF) (to mth:Nat) (t:List Int):iK:=⟨to,mth,0,t++List.replicate ((aR l to).meth mth).locals.length 0,[]⟩
def qE (x:fO) (f:iK) (fd:List (List Int)) (t:List Int):List Int:=
 if x.op=1\/x.op=35 then [x.a] else if x.op=2 then [f.loc.getD x.a.toNat 0] else if x.op=5 then [bM t 0,bM t 0] else if x.op=25 then [0]
 else if x.op=33 then [(fd.getD f.who []).getD x.a.toNat 0]
 else if x.op=3\/x.op=4\/x.op=23\/x.op=24\/x.op=34 then []
 else if x.op=15\/x.op=16\/x.op=26 then [unF x.op (bM t 0)] else if x.op=22 then [wQ (bM t 0) (bM t 1) (bM t 2)]
 else [oU x.op (bM t 0) (bM t 1)]
def JH (x:fO) (pc:Nat) (t:List Int):Nat:=if x.op=23 then x.a.toNat else if x.op=24 then (if bM t 0=0 then pc+1 else x.a.toNat) else pc+1
def zA (x:fO) (loc t:List Int):List Int:=if x.op=3 then loc.set x.a.toNat (bM t 0) else loc
def fdP (x:fO) (who:Nat) (fd:List (List Int)) (t:List Int):List (List Int):=if x.op=34 then fd.set who ((fd.getD who []).set x.a.toNat (bM t 0)) else fd
def gL (n:Nat) (s:List Int):List Int:=s.drop (s.length - n)
def jA (n:Nat) (s:List Int):List Int:=s.take (s.length - n)
def jF (op:Int):Prop:=op=30\/op=31\/op=36
instance (op:Int):Decidable (jF op):=by unfold jF;exact inferInstance
def qM (l:List bF) (f:iK) (x:fO):Option (Nat × Nat):=if x.op=37 then some (f.who,x.a.toNat) else kR l f.who x.a
def uW (l:List bF) (fs:List iK) (f:iK) (fuel:Nat) (r:Rm) (x:fO) (t u:List Int):Out:=
 if x.op=39 then
  match fs with
  | []=>.fin 36864 0 fuel (r.ends 36864)
  | g::gs=>.run ⟨gs,{ g with st:=g.st++t },fuel,r⟩
 else if x.op=37\/x.op=38 then
  match qM l f x with
  | none=>.fin 28424 (fs.length+1) fuel (r.ends 28424)
  | some q=>if 8<=fs.length+1 then .fin 28422 (fs.length+1) fuel (r.ends 28422) else .run ⟨{ f with st:=u,pc:=f.pc+1 }::fs,oF l q.1 q.2 t,fuel,r⟩
 else if eV x.op then
  if (fG r.ps f.who x t).2.1=36864 then .run ⟨fs,{ f with st:=u++(if jF x.op then [] else [(fG r.ps f.who x t).1]),pc:=f.pc+1 },fuel,{ r with ps:=(fG r.ps f.who x t).2.2 }⟩
  else .fin (fG r.ps f.who x t).2.1 (fs.length+1) fuel (Rm.ends { r with ps:=(fG r.ps f.who x t).2.2 } (fG r.ps f.who x t).2.1)
 else .run ⟨fs,{ f with st:=u++qE x f r.fd t,pc:=JH x f.pc t,loc:=zA x f.loc t },fuel,{ r with fd:=fdP x f.who r.fd t }⟩
def bH (l:List bF) (f:iK):Nat:=(bA (f.img l) (f.me l) (f.ins l)).length
def nA (l:List bF) (f:iK):vC:=⟨1,f.who,1000*f.mth+f.pc,(f.ins l).op⟩
def kP (l:List bF) (m:PM):Out:=
 if m.fuel=0 then .fin 28423 (m.fs.length+1) 0 (m.r.ends 28423)
 else uW l m.fs m.f (m.fuel - 1) (m.r.ev (nA l m.f)) (m.f.ins l) (gL (bH l m.f) m.f.st) (jA (bH l m.f) m.f.st)
def qU (i:bF) (m:fV) (pc:Nat) (K:List Int):Prop:=∃ s,pW i m (some s)/\pc < m.code.length/\s.h pc=true/\s.s pc=K
theorem qU.first {i:bF} {m:fV} (hi:i.right) (hm:m.right) (h:∃ s,pW i m (some s)):qU i m 0 []:=by
 obtain ⟨s,hs⟩:=h;obtain ⟨_,_,h0,h1,_⟩:=hs.led hi hm;exact ⟨s,hs,hm.2.2.2.1.1,h0,h1⟩
theorem qU.go {i:bF} {m:fV} {pc:Nat} {K:List Int} (hi:i.right) (hm:m.right) (h:qU i m pc K):pc < m.code.length/\DH i m (m.ins pc)/\lW K/\K.length<=8/\∃ out,FQ i m (m.ins pc) K=some out/\lW out/\∀ to∈gT (m.ins pc) pc,0<=to/\∃ K',qU i m to.toNat K'/\lX K' out:=by
 obtain ⟨s,hs,hp,hh,rfl⟩:=h;obtain ⟨hx,hw,_⟩:=hs.led hi hm;obtain ⟨out,h1,h2,h3⟩:=hs.flow hi hm pc hh;refine ⟨hp,hx _ (BW hp),(hw.kd pc hh).1,(hw.kd pc hh).2,out,h1,h2,λto ht=>?_⟩;obtain ⟨t1,t2,t3,t4⟩:=h3 to ht;exact ⟨t1,_,⟨s,hs,by omega,t3,rfl⟩,t4⟩
theorem NY {i:bF} {m:fV} {x:fO} {s out:List Int} (h:FQ i m x s=some out):(bA i m x).length<=s.length/\out.length=s.length - (bA i m x).length+hgt i m x/\out=s.take (s.length - (bA i m x).length)++iP i m x (s.drop (s.length - (bA i m x).length))/\nJ x (bA i m x) (s.drop (s.length - (bA i m x).length))=true/\pH x (bA i m x) (s.drop (s.length - (bA i m x).length))=false:=by
 simp only [FQ] at h;split at h
 ·cases h
 rename_i hn
 split at h
 ·rename_i hk
  cases h;refine ⟨by omega,?_,rfl,hk.1,hk.2⟩;rw [List.length_append,List.length_take,KR];omega
 ·cases h
structure iK.ok (l:List bF) (f:iK) (n:Nat):Prop where
 who:f.who < l.length
 mth:f.mth < (f.img l).methods.length
 rch:∃ K,qU (f.img l) (f.me l) f.pc K/\K.length=f.st.length+n
 loc:f.loc.length=(f.me l).locs.length
 l32:gE f.loc
 s32:gE f.st
def aSq (l:List bF) (f:iK):Nat:=(iT (f.me l).result).length
def aBt (l:List bF):iK->List iK->Prop
 | _,[]=>True
 | f,g::gs=>g.ok l (aSq l f)/\aBt l g gs
structure LR (l:List bF) (fd:List (List Int)):Prop where
 len:fd.length=l.length
 row:∀ k,k < l.length->(fd.getD k []).length=(aR l k).fields.length/\gE (fd.getD k [])
structure PM.ok (l:List bF) (m:PM):Prop where
 top:m.f.ok l 0
 ch:aBt l m.f m.fs
 dep:m.fs.length < 8
 fd:LR l m.r.fd
def pO (l:List bF):Prop:=∀ i∈l,rP i
theorem gQ {l:List bF} {k:Nat} (h:k < l.length):aR l k∈l:=by
 unfold aR;rw [List.getD_eq_getElem?_getD,List.getElem?_eq_getElem h];exact List.getElem_mem h
theorem AE {l:List bF} {k:Nat} {i:bF} (h:l[k]?=some i):aR l k=i:=by
 unfold aR;rw [List.getD_eq_getElem?_getD,h];rfl
theorem meth_mem {i:bF} {k:Nat} (h:k < i.methods.length):i.meth k∈i.methods:=bF.meth_mem (by omega) (by omega)
theorem iK.ok.rt {l:List bF} {f:iK} {n:Nat} (h:f.ok l n) (hT:pO l):(f.img l).right/\(f.me l).right/\∃ s,pW (f.img l) (f.me l) (some s):=by
 have h1:=hT _ (gQ h.who);have h2:=meth_mem h.mth;exact ⟨h1.1,h1.1.2.2.1.2.1 _ h2,h1.2 _ h2⟩
theorem tC {t:List Int} (h:gE t) (n:Nat):mD (bM t n):=by
 unfold bM;rw [List.getD_eq_getElem?_getD];cases e:t[n]? with
 | none=>unfold mD;simp
 | some z=>exact h z (List.mem_of_getElem? e)
theorem qK {a b:List Int} (ha:gE a) (hb:gE b):gE (a++b):=λz hz=>(List.mem_append.1 hz).elim (ha z) (hb z)
theorem kE {a:Int} (h:mD a):gE [a]:=λz hz=>by rw [List.mem_singleton] at hz;subst hz;exact h
theorem tK:gE []:=λ_ h=>(List.not_mem_nil h).elim
theorem CA {s:List Int} (h:gE s) (n:Nat):gE (gL n s)/\gE (jA n s):=⟨λz hz=>h z (List.mem_of_mem_drop hz),λz hz=>h z (List.mem_of_mem_take hz)⟩
theorem FB {s:List Int} (h:gE s) {k:Nat} {v:Int} (hv:mD v):gE (s.set k v):=λz hz=>by
 rcases List.mem_or_eq_of_mem_set hz with h1|rfl
 ·exact h z h1
 ·exact hv
theorem VZ (n:Nat):gE (List.replicate n 0):=λz hz=>by rw [List.eq_of_mem_replicate hz];omega
theorem UY {x:fO} (h:x.right):x.op=1\/x.op=2\/x.op=3\/x.op=4\/x.op=5\/iV x.op\/x.op=15\/x.op=16\/x.op=17\/x.op=18\/x.op=22\/x.op=23\/x.op=24\/x.op=25\/x.op=26\/x.op=27\/x.op=28\/x.op=29\/x.op=30\/x.op=31\/x.op=32\/x.op=33\/x.op=34\/x.op=35\/x.op=36\/x.op=37\/x.op=38\/x.op=39:=by
 have h1:=h.1;unfold iV;omega
def XH (op:Int):Prop:=op≠37/\op≠38/\op≠39/\¬ eV op
theorem RF {i:bF} {me:fV} {x:fO} (hr:x.right) (hp:XH x.op) (f:iK) (fd:List (List Int)) (t:List Int):(qE x f fd t).length=hgt i me x:=by
 obtain ⟨op,a,b⟩:=x;obtain ⟨p1,p2,p3,p4⟩:=hp;have hop:=UY hr;dsimp only at *;unfold eV at p4;unfold hgt;rcases hop with rfl|rfl|rfl|rfl|rfl|hb|rfl|rfl|rfl|rfl|rfl|rfl|rfl|rfl|rfl|rfl|rfl|rfl|rfl|rfl|rfl|rfl|rfl|rfl|rfl|rfl|rfl|rfl
 case _=>rfl
 case _=>rfl
 case _=>rfl
 case _=>rfl
 case _=>rfl
 case _=>
  unfold iV at hb;simp only [qE,iP]
  repeat rw [if_neg (by omega)]
  rw [if_pos (by unfold iV;omega)];rfl
 all_goals first|rfl|omega
theorem JU {i:bF} {me:fV} {x:fO} (hs:eV x.op):(if jF x.op then 0 else 1)=hgt i me x:=by
 obtain ⟨op,a,b⟩:=x;dsimp only at *;unfold eV at hs;have:op=17\/op=18\/op=27\/op=28\/op=29\/op=30\/op=31\/op=32\/op=36:=by omega
 unfold hgt;rcases this with rfl|rfl|rfl|rfl|rfl|rfl|rfl|rfl|rfl
 case _=>rfl
 case _=>rfl
 case _=>rfl
 case _=>rfl
 case _=>rfl
 case _=>rfl
 case _=>rfl
 case _=>
  simp [iP,iV,jF];split<;>rfl
 case _=>rfl
theorem VD {x:fO} {pc:Nat} (h:x.op≠23) (h2:x.op≠39):((pc:Int)+1)∈gT x pc:=by
 unfold gT;rw [if_neg h];by_cases h3:x.op=24
 ·rw [if_pos h3];exact List.mem_cons_self
 ·rw [if_neg h3,if_neg h2];exact List.mem_singleton.2 rfl
theorem UW {x:fO} (hr:x.right) (h39:x.op≠39) (pc:Nat) (t:List Int):∃ to∈gT x pc,to=(JH x pc t:Int):=by
 obtain ⟨op,a,b⟩:=x;have ha:=hr.2.1;unfold JH;dsimp only at *;by_cases h1:op=23
 ·subst h1;have ha:0<=a:=ha;exact ⟨a,by simp [gT],by simp;omega⟩
 rw [if_neg h1];by_cases h2:op=24
 ·subst h2;have ha:0<=a:=ha;rw [if_pos rfl];split
  ·exact ⟨(pc:Int)+1,by simp [gT],by omega⟩
  ·exact ⟨a,by simp [gT],by omega⟩
 ·rw [if_neg h2];exact ⟨(pc:Int)+1,VD h1 h39,by omega⟩
theorem aDa {x:fO} (hr:x.right) {f:iK} {fd:List (List Int)} {t:List Int} (hl:gE f.loc) (hf:gE (fd.getD f.who [])) (ht:gE t):gE (qE x f fd t):=by
 obtain ⟨op,a,b⟩:=x;have ha:=hr.2;have gd:∀ {l:List Int} (k:Nat),gE l->mD (l.getD k 0):=λk h=>tC h k;unfold qE;dsimp only at *;split
 ·rename_i h
  refine kE ?_;rcases h with rfl|rfl
  ·exact ⟨ha.1,ha.2.1⟩
  ·have h1:1<=a:=ha.1;have h2:a<=2:=ha.2.1;unfold mD;omega
 split
 ·exact kE (gd _ hl)
 split
 ·exact qK (a:=[bM t 0]) (kE (tC ht 0)) (kE (tC ht 0))
 split
 ·exact kE (by unfold mD;omega)
 split
 ·exact kE (gd _ hf)
 split
 ·exact tK
 split
 ·exact kE aSl
 split
 ·exact kE (NM (tC ht 2) (tC ht 1))
 ·exact kE (aPe (tC ht 0))
theorem aCs {c:Prop} [Decidable c] {a b:AZ} (ha:mD a.1) (hb:mD b.1):mD (if c then a else b).1:=by split<;>assumption
theorem TV {s:PS} {who:Int} {x:fO} {t:List Int}:mD (fG s who x t).1:=by
 have z:mD 0:=by unfold mD;omega
 unfold fG pU pT dW qB qC qA lF kQ fN
 repeat' (with_reducible apply aCs)
 all_goals first|exact vQ _|exact z|exact r01
theorem wH {l:List bF} (hT:pO l) {who:Nat} (hw:who < l.length) {k:Int} (h0:0<=k) (hk:k < (aR l who).imports.length) {q:Nat × Nat} (h:kR l who k=some q) :
  q.1 < l.length/\q.2 < (aR l q.1).methods.length/\((aR l q.1).meth q.2).params=((aR l who).imp k).params/\((aR l q.1).meth q.2).result=((aR l who).imp k).result:=by
 unfold kR at h;obtain ⟨t,ht,h⟩:=Option.bind_eq_some_iff.1 h;split at h
 ·rename_i hc
  cases h;obtain ⟨c1,c2,c3⟩:=hc
  have htl:t < l.length:=by
   unfold qP at ht;exact (List.findIdx?_eq_some_iff_findIdx_eq.1 ht).1
  have hx:=(hT _ (gQ hw)).1.2.1.2 _ (bF.imp_mem h0 hk);have hx0:=hx.1.1
  have he:=(hT _ (gQ htl)).1.2.2.2.2 ((aR l t).exports.getD ((aR l who).imp k).exp.toNat 0) (by
   rw [List.getD_eq_getElem?_getD,List.getElem?_eq_getElem (by omega)];exact List.getElem_mem _)
  have e:((((aR l t).exports.getD ((aR l who).imp k).exp.toNat 0).toNat:Nat):Int)=(aR l t).exports.getD ((aR l who).imp k).exp.toNat 0:=by omega
  refine ⟨htl,by dsimp only;omega,?_,?_⟩
  ·dsimp only;rw [e];exact c2
  ·dsimp only;rw [e];exact c3
 ·cases h
theorem zY {l:List bF} (hT:pO l) {to mth:Nat} (h1:to < l.length) (h2:mth < (aR l to).methods.length) {t:List Int} (ht:gE t) (hl:t.length=((aR l to).meth mth).params.length):(oF l to mth t).ok l 0:=by
 have hi:=hT _ (gQ h1);have hm:=meth_mem h2;refine ⟨h1,h2,⟨[],qU.first hi.1 (hi.1.2.2.1.2.1 _ hm) (hi.2 _ hm),rfl⟩,?_,qK ht (VZ _),tK⟩;show (t++List.replicate _ 0).length=(((aR l to).meth mth).params++((aR l to).meth mth).locals).length;rw [List.length_append,List.length_replicate,List.length_append,hl]
theorem aOo {l:List bF} {fd:List (List Int)} (h:LR l fd) {x:fO} {who:Nat} {t:List Int} (ht:gE t):LR l (fdP x who fd t):=by
 unfold fdP;split
 ·refine ⟨by simpa using h.len,λk hk=>?_⟩;have hr:=h.row k hk;by_cases hkw:who=k
  ·subst hkw
   have e:(fd.set who ((fd.getD who []).set x.a.toNat (bM t 0))).getD who []=(fd.getD who []).set x.a.toNat (bM t 0):=by
    rw [List.getD_eq_getElem?_getD,List.getElem?_set_self (by have:=h.len;omega)];rfl
   rw [e];exact ⟨by simpa using hr.1,FB hr.2 (tC ht 0)⟩
  ·have e:(fd.set who ((fd.getD who []).set x.a.toNat (bM t 0))).getD k []=fd.getD k []:=by
    rw [List.getD_eq_getElem?_getD,List.getElem?_set_ne hkw,List.getD_eq_getElem?_getD]
   rw [e];exact hr
 ·exact h
theorem aDn {x:fO} {loc t:List Int} (hl:gE loc) (ht:gE t):(zA x loc t).length=loc.length/\gE (zA x loc t):=by
 unfold zA;split
 ·exact ⟨by simp,FB hl (tC ht 0)⟩
 ·exact ⟨rfl,hl⟩
structure AtI (l:List bF) (f:iK):Prop where
 pc:f.pc < (f.me l).code.length
 okx:DH (f.img l) (f.me l) (f.ins l)
 nt:bH l f<=f.st.length
 hi:f.st.length<=8
theorem iK.ok.at_ {l:List bF} {f:iK} (h:f.ok l 0) (hT:pO l):AtI l f:=by
 obtain ⟨h1,h2,_⟩:=h.rt hT;obtain ⟨K,hK,hl⟩:=h.rch;obtain ⟨g1,g2,g3,g4,out,g5,_⟩:=hK.go h1 h2;have:=NY g5;exact ⟨g1,g2,by unfold bH;have:=this.1;unfold iK.ins;omega,by omega⟩
theorem iK.ok.next {l:List bF} {f:iK} (h:f.ok l 0) (hT:pO l) {to:Int} (ht:to∈gT (f.ins l) f.pc) {st loc:List Int} {n:Nat} (hs:st.length+n=f.st.length - bH l f+hgt (f.img l) (f.me l) (f.ins l)) (s32:gE st) (hl:loc.length=f.loc.length) (l32:gE loc) {f':iK} (e:f'=⟨f.who,f.mth,to.toNat,loc,st⟩):f'.ok l n:=by
 subst e;obtain ⟨h1,h2,_⟩:=h.rt hT;obtain ⟨K,hK,hlen⟩:=h.rch;obtain ⟨g1,g2,g3,g4,out,g5,g6,g7⟩:=hK.go h1 h2;obtain ⟨_,K',hK',hin⟩:=g7 to ht;have hd:=(NY g5).2.1;refine ⟨h.who,h.mth,⟨K',hK',?_⟩,hl.trans h.loc,l32,s32⟩;have:=hin.len;have e:(bA (f.img l) (f.me l) ((f.me l).ins f.pc)).length=bH l f:=rfl;have e2:hgt (f.img l) (f.me l) ((f.me l).ins f.pc)=hgt (f.img l) (f.me l) (f.ins l):=rfl;show K'.length=st.length+n;omega
theorem lZ {n:Nat} {s:List Int}:(jA n s).length=s.length - n:=by unfold jA;simp
theorem nS {n:Nat} {s:List Int} (h:n<=s.length):(gL n s).length=n:=by unfold gL;simp;omega
theorem vV {l:List bF} (hT:pO l) {m m':PM} (h:m.ok l) (he:kP l m=.run m'):m'.ok l:=by
 obtain ⟨fs,f,fuel,r⟩:=m;obtain ⟨h1,h2,h3,h4⟩:=h;dsimp only at h1 h2 h3 h4;have hA:=h1.at_ hT;have hrt:=h1.rt hT;have ht:=CA h1.s32 (bH l f);unfold kP at he;dsimp only at he;split at he
 ·cases he
 unfold uW at he;split at he
 ·rename_i h39
  cases fs with
  | nil=>cases he
  | cons g gs=>
   cases he;obtain ⟨c1,c2⟩:=h2
   have hn:bH l f=aSq l f:=by
    unfold bH bA;simp only [h39,iV,Int.reduceEq,or_self,Int.reduceLE,and_false,if_false,if_true];rfl
   obtain ⟨K,hK,hl⟩:=c1.rch;refine ⟨⟨c1.who,c1.mth,⟨K,hK,?_⟩,c1.loc,c1.l32,qK c1.s32 ht.1⟩,?_,by simp at h3;dsimp only;omega,h4⟩
   ·show K.length=(g.st++gL (bH l f) f.st).length+0;rw [List.length_append,nS hA.nt,hn];omega
   ·cases gs with
    | nil=>trivial
    | cons g2 gs=>exact c2
 rename_i h39
 split at he
 ·rename_i hc
  split at he
  ·cases he
  rename_i q hq
  split at he
  ·cases he
  rename_i hd
  cases he
  have key:q.1 < l.length/\q.2 < (aR l q.1).methods.length/\bH l f=((aR l q.1).meth q.2).params.length/\hgt (f.img l) (f.me l) (f.ins l)=(iT ((aR l q.1).meth q.2).result).length:=by
   have hnm:=hA.okx.nm;have hxr:=hA.okx.xr;unfold qM at hq;unfold bH hgt;generalize hx:f.ins l=x at *;obtain ⟨op,a,b⟩:=x;dsimp only at hc hq h39;rcases hc with rfl|rfl
   ·rw [if_pos rfl] at hq;cases hq;have ha:0<=a:=hxr.2.1;have hn:a < ((f.img l).methods.length:Int):=hnm;have e:((a.toNat:Nat):Int)=a:=by omega
    refine ⟨h1.who,by show a.toNat < (aR l f.who).methods.length;have:f.img l=aR l f.who:=rfl;rw [this] at hn;omega,?_,?_⟩
    iterate 2
     ·simp only [e];rfl
   ·rw [if_neg (by decide)] at hq;have ha:0<=a:=hxr.2.1;have hn:a < ((f.img l).imports.length:Int):=hnm;obtain ⟨r1,r2,r3,r4⟩:=wH hT h1.who ha hn hq;refine ⟨r1,r2,?_,?_⟩
    ·rw [r3];rfl
    ·rw [r4];rfl
  obtain ⟨k1,k2,k3,k4⟩:=key;have hne:(f.ins l).op≠23:=by omega
  refine ⟨zY hT k1 k2 ht.1 (by rw [nS hA.nt,k3]),⟨h1.next hT (VD hne h39) (loc:=f.loc) (st:=jA (bH l f) f.st) ?_ ht.2 rfl h1.l32 ?_,?_⟩,by simp only [List.length_cons];omega,h4⟩
  ·show _+(iT ((oF l q.1 q.2 (gL (bH l f) f.st)).me l).result).length=_;have e:(oF l q.1 q.2 (gL (bH l f) f.st)).me l=(aR l q.1).meth q.2:=rfl;rw [e,<- k4,lZ]
  ·have:((f.pc:Int)+1).toNat=f.pc+1:=by omega
   rw [this]
  ·cases fs with
   | nil=>trivial
   | cons g gs=>exact h2
 rename_i hc
 split at he
 ·rename_i hs
  split at he
  ·cases he;have hne:(f.ins l).op≠23:=by unfold eV at hs;omega
   refine ⟨h1.next hT (VD hne h39) (loc:=f.loc) (n:=0) (st:=jA (bH l f) f.st++if jF (f.ins l).op then [] else [(fG (r.ev (nA l f)).ps f.who (f.ins l) (gL (bH l f) f.st)).1]) ?_ ?_ rfl h1.l32 ?_,?_,h3,h4⟩
   ·have:=JU (i:=f.img l) (me:=f.me l) hs;rw [List.length_append,lZ];split at this<;>simp_all<;>omega
   ·refine qK ht.2 ?_;split
    ·exact tK
    ·exact kE TV
   ·have:((f.pc:Int)+1).toNat=f.pc+1:=by omega
    rw [this]
   ·cases fs with
    | nil=>trivial
    | cons g gs=>exact h2
  ·cases he
 ·rename_i hs
  cases he;obtain ⟨to,hto,hpc⟩:=UW hA.okx.xr h39 f.pc (gL (bH l f) f.st);have hlo:=aDn (x:=f.ins l) h1.l32 ht.1;refine ⟨h1.next hT hto (n:=0) (st:=jA (bH l f) f.st++qE (f.ins l) f r.fd (gL (bH l f) f.st)) (loc:=zA (f.ins l) f.loc (gL (bH l f) f.st)) ?_ ?_ hlo.1 hlo.2 ?_,?_,h3,aOo h4 ht.1⟩
  ·rw [List.length_append,lZ,RF (i:=f.img l) (me:=f.me l) hA.okx.xr ⟨by omega,by omega,h39,hs⟩];omega
  ·exact qK ht.2 (aDa hA.okx.xr h1.l32 (h4.row _ h1.who).2 ht.1)
  ·rw [hpc];simp;rfl
  ·cases fs with
   | nil=>trivial
   | cons g gs=>exact h2
structure LW where
 s:Int
 depth:Nat
 fuel:Nat
 r:Rm
inductive DF (l:List bF):PM->LW->Prop
 | fin {m:PM} {s:Int} {d f:Nat} {r:Rm}:kP l m=.fin s d f r->DF l m ⟨s,d,f,r⟩
 | go {m m':PM} {e:LW}:kP l m=.run m'->DF l m' e->DF l m e
theorem mB {c:Prop} [Decidable c] {a b n:Int} (ha:a≠n) (hb:b≠n):(if c then a else b)≠n:=by split<;>assumption
theorem TL {c:Prop} [Decidable c] {a b:AZ} {n:Int} (ha:a.2.1≠n) (hb:b.2.1≠n):(if c then a else b).2.1≠n:=by split<;>assumption
theorem WP {l:List PA} {r who:Int}:vB l r who≠28423:=by
 unfold vB;refine mB ?_ (by decide);split
 ·exact mB (by decide) (by decide)
 ·decide
theorem JZ {l:List PA} {r a n who:Int}:gS l r a n who≠28423:=by
 unfold gS;refine mB ?_ WP;split
 ·exact mB (by decide) (by decide)
 ·decide
theorem aEh {s:PS} {who r1 a1 r2 a2 n:Int}:jN s who r1 a1 r2 a2 n≠28423:=mB JZ JZ
theorem QW {s:PS} {who:Int} {x:fO} {t:List Int}:(fG s who x t).2.1≠28423:=by
 unfold fG pU pT dW qB qC qA lF kQ fN
 repeat' (with_reducible apply TL)
 all_goals first|exact WP|exact JZ|exact aEh|(dsimp only;decide)
theorem FR {l:List bF} {fs:List iK} {f:iK} {n:Nat} {r:Rm} {x:fO} {t u:List Int} :
  (∀ m',uW l fs f n r x t u=.run m'->m'.fuel=n/\∀ d,uW l fs f (n+d) r x t u=.run { m' with fuel:=n+d }) /\
  (∀ s k q r',uW l fs f n r x t u=.fin s k q r'->q=n/\s≠28423/\∀ d,uW l fs f (n+d) r x t u=.fin s k (n+d) r'):=by
 unfold uW;split
 ·cases fs with
  | nil=>exact ⟨λm' h=>(by cases h),λs k q r' h=>(by cases h;exact ⟨rfl,by decide,λd=>rfl⟩)⟩
  | cons g gs=>exact ⟨λm' h=>(by cases h;exact ⟨rfl,λd=>rfl⟩),λs k q r' h=>(by cases h)⟩
 split
 ·split
  ·exact ⟨λm' h=>(by cases h),λs k q r' h=>(by cases h;exact ⟨rfl,by decide,λd=>rfl⟩)⟩
  ·split
   ·exact ⟨λm' h=>(by cases h),λs k q r' h=>(by cases h;exact ⟨rfl,by decide,λd=>rfl⟩)⟩
   ·exact ⟨λm' h=>(by cases h;exact ⟨rfl,λd=>rfl⟩),λs k q r' h=>(by cases h)⟩
 split
 ·split
  ·exact ⟨λm' h=>(by cases h;exact ⟨rfl,λd=>rfl⟩),λs k q r' h=>(by cases h)⟩
  ·refine ⟨λm' h=>(by cases h),λs k q r' h=>?_⟩;cases h;refine ⟨rfl,?_,λd=>rfl⟩;exact QW
 ·exact ⟨λm' h=>(by cases h;exact ⟨rfl,λd=>rfl⟩),λs k q r' h=>(by cases h)⟩
theorem rS {l:List bF} {m m':PM} (h:kP l m=.run m'):m.fuel=m'.fuel+1/\∀ d,kP l { m with fuel:=m.fuel+d }=.run { m' with fuel:=m'.fuel+d }:=by
 unfold kP at *;split at h
 ·cases h
 rename_i h0
 obtain ⟨h1,h2⟩:=FR.1 m' h;refine ⟨by omega,λd=>?_⟩;dsimp only;rw [if_neg (by omega),show m.fuel+d - 1=m.fuel - 1+d by omega];rw [h1];exact h2 d
def Pre (a b:List vC):Prop:=∃ c,b=a++c
def Out.r:Out->Rm
 | .run m=>m.r
 | .fin _ _ _ r=>r
theorem aLq (b:Int):0<=c31 b/\c31 b<=31:=by
 have h:(BitVec.ofInt IntKind.i32.bits b &&& BitVec.ofInt IntKind.i32.bits 31).toNat<=31:=by
  rw [BitVec.toNat_and];exact Nat.le_trans Nat.and_le_right (by decide)
 unfold c31;generalize (BitVec.ofInt IntKind.i32.bits b &&& BitVec.ofInt IntKind.i32.bits 31).toNat=n at h;simp only [IntKind.wrap_i32];omega
theorem aVd (n:Int):IntKind.u64.wrap n=n % 18446744073709551616:=by simp [IntKind.wrap,IntKind.bits,IntKind.signed]
theorem aMb (n:Int):IntKind.u32.wrap n=n % 4294967296:=by simp [IntKind.wrap,IntKind.bits,IntKind.signed]
theorem aKy {d:Int} (h:-4294967296 < d/\d < 4294967296):IntKind.i32.wrap ((IntKind.u64.wrap d).fdiv (2 ^ (min (63:Int).toNat IntKind.u64.bits)))=if d < 0 then 1 else 0:=by
 have e2:((2:Int) ^ (min (63:Int).toNat IntKind.u64.bits))=9223372036854775808:=by decide
 rw [aVd,e2,Int.fdiv_eq_ediv_of_nonneg _ (by decide)];simp only [IntKind.wrap_i32];split<;>omega
theorem BS {a:Int} (_:mD a):(BitVec.ofInt IntKind.i32.bits a).toNat=(a % 4294967296).toNat:=by
 rw [BitVec.toNat_ofInt];rfl
theorem qY {a:Int} (h:mD a):IntKind.i32.wrap (BitVec.ofInt IntKind.i32.bits a).toNat=a:=by
 rw [BS h];unfold mD at h;simp only [IntKind.wrap_i32];omega
theorem DT {c:Int} (h:mD c):uR c=if c=0 then 0 else 1:=by
 have h':=h;unfold mD at h';unfold uR aMk;have e31:IntKind.i32.wrap (BitVec.ofInt IntKind.i32.bits 31 &&& BitVec.ofInt IntKind.i32.bits 31).toNat=31:=by decide
 rw [e31];have e2:((2:Int) ^ (min (31:Int).toNat IntKind.u32.bits))=2147483648:=by decide
 rw [e2,aMb];have hn:=BS (vQ (0 - c));have ha:=BS h;have l1:(BitVec.ofInt IntKind.i32.bits c).toNat<=(BitVec.ofInt IntKind.i32.bits c ||| BitVec.ofInt IntKind.i32.bits (IntKind.i32.wrap (0 - c))).toNat:=by rw [BitVec.toNat_or];exact Nat.left_le_or
 have l2:(BitVec.ofInt IntKind.i32.bits (IntKind.i32.wrap (0 - c))).toNat<=(BitVec.ofInt IntKind.i32.bits c ||| BitVec.ofInt IntKind.i32.bits (IntKind.i32.wrap (0 - c))).toNat:=by rw [BitVec.toNat_or];exact Nat.right_le_or
 have l3:(BitVec.ofInt IntKind.i32.bits c ||| BitVec.ofInt IntKind.i32.bits (IntKind.i32.wrap (0 - c))).toNat < 4294967296:=(BitVec.ofInt IntKind.i32.bits c ||| BitVec.ofInt IntKind.i32.bits (IntKind.i32.wrap (0 - c))).isLt;by_cases h0:c=0
 ·subst h0;decide
 rw [if_neg h0];rw [ha] at l1;rw [hn] at l2;generalize hX:(BitVec.ofInt IntKind.i32.bits c ||| BitVec.ofInt IntKind.i32.bits (IntKind.i32.wrap (0 - c))).toNat=X at *;have e0:IntKind.i32.wrap (0 - c)=(0 - c+2147483648) % 4294967296 - 2147483648:=by simp only [IntKind.wrap_i32]
 rw [e0] at l2
 have hX2:2147483648<=X:=by
  by_cases hc:0 < c
  ·have:((0 - c+2147483648) % 4294967296 - 2147483648) % 4294967296=4294967296 - c:=by omega
   rw [this] at l2;omega
  ·have:c % 4294967296=4294967296+c:=by omega
   rw [this] at l1;omega
 clear l1 l2 hX hn ha e0
 have e1:IntKind.i32.wrap (X:Int) % 4294967296=X:=by
  simp only [IntKind.wrap_i32];omega
 rw [e1,Int.fdiv_eq_ediv_of_nonneg _ (by decide)];simp only [IntKind.wrap_i32];omega
theorem aSg {a b:Int} (ha:mD a) (hb:mD b):IntKind.i32.wrap (BitVec.ofInt IntKind.i32.bits a ^^^ BitVec.ofInt IntKind.i32.bits b).toNat=0↔a=b:=by
 constructor
 ·intro h;have hlt:(BitVec.ofInt IntKind.i32.bits a ^^^ BitVec.ofInt IntKind.i32.bits b).toNat < 4294967296:=(BitVec.ofInt IntKind.i32.bits a ^^^ BitVec.ofInt IntKind.i32.bits b).isLt
  have h0:(BitVec.ofInt IntKind.i32.bits a ^^^ BitVec.ofInt IntKind.i32.bits b).toNat=0:=by
   generalize (BitVec.ofInt IntKind.i32.bits a ^^^ BitVec.ofInt IntKind.i32.bits b).toNat=n at *;simp only [IntKind.wrap_i32] at h;omega
  have h1:BitVec.ofInt IntKind.i32.bits a ^^^ BitVec.ofInt IntKind.i32.bits b=0:=BitVec.eq_of_toNat_eq (by rw [h0];rfl)
  have h2:BitVec.ofInt IntKind.i32.bits a=BitVec.ofInt IntKind.i32.bits b:=by
   have:=congrArg (· ^^^ BitVec.ofInt IntKind.i32.bits b) h1
   simpa [BitVec.xor_assoc] using this
  rw [<- qY ha,<- qY hb,h2]
 ·rintro rfl;rw [BitVec.xor_self];decide
theorem aOq {a b:Int} (ha:mD a) (hb:mD b):IntKind.i32.wrap (1 - uR (IntKind.i32.wrap (BitVec.ofInt IntKind.i32.bits a ^^^ BitVec.ofInt IntKind.i32.bits b).toNat))=if a=b then 1 else 0:=by
 rw [DT (vQ _)];by_cases h:a=b
 ·rw [if_pos h,if_pos ((aSg ha hb).2 h)];decide
 ·rw [if_neg h,if_neg (λe=>h ((aSg ha hb).1 e))];decide
theorem UT {c a b:Int} (hc:mD c) (ha:mD a) (hb:mD b) :
  IntKind.i32.wrap (BitVec.ofInt IntKind.i32.bits (IntKind.i32.wrap (BitVec.ofInt IntKind.i32.bits a &&& BitVec.ofInt IntKind.i32.bits (IntKind.i32.wrap (0 - uR c))).toNat) ||| BitVec.ofInt IntKind.i32.bits (IntKind.i32.wrap (BitVec.ofInt IntKind.i32.bits b &&& ~~~ BitVec.ofInt IntKind.i32.bits (IntKind.i32.wrap (0 - uR c))).toNat)).toNat=wQ c a b:=by
 rw [DT hc];unfold wQ;have z0:BitVec.ofInt IntKind.i32.bits 0=0#IntKind.i32.bits:=rfl;by_cases h:c=0
 ·rw [if_pos h,if_pos h];have e0:IntKind.i32.wrap (0 - 0)=0:=by decide
  rw [e0];have e1:BitVec.ofInt IntKind.i32.bits a &&& BitVec.ofInt IntKind.i32.bits 0=BitVec.ofInt IntKind.i32.bits 0:=by rw [z0];exact BitVec.and_zero
  have e2:BitVec.ofInt IntKind.i32.bits b &&& ~~~ BitVec.ofInt IntKind.i32.bits 0=BitVec.ofInt IntKind.i32.bits b:=by
   have h9:(~~~ BitVec.ofInt IntKind.i32.bits 0)=BitVec.allOnes IntKind.i32.bits:=by rfl
   rw [h9];exact BitVec.and_allOnes
  rw [e1,e2,qY hb];have e3:IntKind.i32.wrap (BitVec.ofInt IntKind.i32.bits 0).toNat=0:=by decide
  rw [e3,z0];have e4:(0#IntKind.i32.bits ||| BitVec.ofInt IntKind.i32.bits b)=BitVec.ofInt IntKind.i32.bits b:=BitVec.zero_or;rw [e4,qY hb]
 ·rw [if_neg h,if_neg h];have e0:IntKind.i32.wrap (0 - 1)=-1:=by decide
  rw [e0];have m1:BitVec.ofInt IntKind.i32.bits (-1)=BitVec.allOnes IntKind.i32.bits:=by rfl
  have e1:BitVec.ofInt IntKind.i32.bits a &&& BitVec.ofInt IntKind.i32.bits (-1)=BitVec.ofInt IntKind.i32.bits a:=by rw [m1];exact BitVec.and_allOnes
  have e2:BitVec.ofInt IntKind.i32.bits b &&& ~~~ BitVec.ofInt IntKind.i32.bits (-1)=0#IntKind.i32.bits:=by
   have h9:(~~~ BitVec.ofInt IntKind.i32.bits (-1))=0#IntKind.i32.bits:=by rfl
   rw [h9];exact BitVec.and_zero
  rw [e1,e2,qY ha];have e3:IntKind.i32.wrap (0#IntKind.i32.bits).toNat=0:=by rfl
  rw [e3,z0];have e4:(BitVec.ofInt IntKind.i32.bits a ||| 0#IntKind.i32.bits)=BitVec.ofInt IntKind.i32.bits a:=BitVec.or_zero;rw [e4,qY ha]
section
variable {a b c:Int} {w:Ω}
theorem aVb:aD prog 163 #[i32 a,i32 b] w λr w'=>r=i32 (oU 6 a b)/\w'=w:=aIz (by unfold HS;exact V.ok lG ⟨rfl,rfl⟩)
theorem aUt:aD prog 164 #[i32 a,i32 b] w λr w'=>r=i32 (oU 7 a b)/\w'=w:=aIy (by unfold HR;exact V.ok nC ⟨rfl,rfl⟩)
theorem aUz:aD prog 165 #[i32 a,i32 b] w λr w'=>r=i32 (oU 8 a b)/\w'=w:=aIx (by unfold HQ;exact V.ok UK ⟨rfl,rfl⟩)
theorem aVa:aD prog 166 #[i32 a,i32 b] w λr w'=>r=i32 (oU 9 a b)/\w'=w:=aIw (by unfold HP;exact V.ok wP ⟨rfl,rfl⟩)
theorem wOr:aD prog 167 #[i32 a,i32 b] w λr w'=>r=i32 (oU 10 a b)/\w'=w:=aIv (by unfold HO;exact V.ok aCv ⟨rfl,rfl⟩)
theorem aUs:aD prog 168 #[i32 a,i32 b] w λr w'=>r=i32 (oU 11 a b)/\w'=w:=aIu (by unfold HN;exact V.ok UE ⟨rfl,rfl⟩)
theorem aUv:aD prog 169 #[i32 a,i32 b] w λr w'=>r=i32 (oU 12 a b)/\w'=w:=aIt (by unfold HM;exact V.ok wP (V.ok (aSs (aLq b).1) ⟨rfl,rfl⟩))
theorem aUu:aD prog 170 #[i32 a,i32 b] w λr w'=>r=i32 (oU 13 a b)/\w'=w:=(TO a b w).mono λ_ _ h=>h
theorem aUw:aD prog 171 #[i32 a,i32 b] w λr w'=>r=i32 (oU 14 a b)/\w'=w:=aIq (by unfold HK;exact V.ok wP (V.ok (MU (aLq b).1) ⟨rfl,rfl⟩))
theorem wEq (ha:mD a) (hb:mD b):aD prog 172 #[i32 a,i32 b] w λr w'=>r=i32 (oU 19 a b)/\w'=w:=aIp (by
 unfold HJ;refine V.ok UE ?_;refine (BC _ _).mono λr w' ⟨hr,hw⟩=>?_;subst hr;have hw:=hw.symm;subst hw;refine V.ok nC ⟨?_,rfl⟩;rw [aOq ha hb];rfl)
theorem wLt (ha:mD a) (hb:mD b):aD prog 173 #[i32 a,i32 b] w λr w'=>r=i32 (oU 20 a b)/\w'=w:=aIo (by
 unfold HI;refine V.ok (bG underlying21 underlying2) (V.ok (bG underlying21 underlying2) (V.ok nC (V.ok (bG underlying2 underlying298) (V.ok (MU (by decide)) (V.ok (bG underlying298 underlying21) ⟨?_,rfl⟩)))));unfold mD at ha hb;rw [iL (n:=a) (by omega) (by omega),iL (n:=b) (by omega) (by omega),aX (by omega),aKy (by omega)];show i32 _=i32 (if a < b then 1 else 0)
 congr 1
 split<;>split<;>omega)
theorem aLz (_:mD a) (_:mD b):aD prog 174 #[i32 a,i32 b] w λr w'=>r=i32 (oU 21 a b)/\w'=w:=aIn (by
 unfold HH;refine V.ok (bG underlying21 underlying201) (V.ok (bG underlying201 underlying2) (V.ok (bG underlying21 underlying201) (V.ok (bG underlying201 underlying2) (V.ok nC (V.ok (bG underlying2 underlying298) (V.ok (MU (by decide)) (V.ok (bG underlying298 underlying21) ⟨?_,rfl⟩)))))));have ea:=aMb a;have eb:=aMb b;show _=i32 (if IntKind.u32.wrap a < IntKind.u32.wrap b then 1 else 0);generalize IntKind.u32.wrap a=x at *;generalize IntKind.u32.wrap b=y at *;rw [iL (n:=x) (by omega) (by omega),iL (n:=y) (by omega) (by omega),aX (by omega),aKy (by omega)]
 congr 1
 split<;>split<;>omega)
theorem aUy:aD prog 175 #[i32 a] w λr w'=>r=i32 (unF 15 a)/\w'=w:=aIm (by unfold HG;exact V.ok UJ ⟨rfl,rfl⟩)
theorem aUx:aD prog 176 #[i32 a] w λr w'=>r=i32 (unF 16 a)/\w'=w:=aIl (by unfold HF;exact V.ok aSw ⟨rfl,rfl⟩)
theorem aSj (hc:mD c) (ha:mD a) (hb:mD b):aD prog 129 #[i32 c,i32 a,i32 b] w λr w'=>r=i32 (wQ c a b)/\w'=w:=aJz (by
 unfold IP;refine (BC _ _).mono λr w' ⟨hr,hw⟩=>?_;subst hr;have hw:=hw.symm;subst hw;refine V.ok UJ (V.ok wP (V.ok UQ (V.ok aCv ⟨?_,rfl⟩)));rw [UT hc ha hb])
theorem RX {op:Int} (h:iV op):op=6\/op=7\/op=8\/op=9\/op=10\/op=11\/op=12\/op=13\/op=14\/op=19\/op=20\/op=21:=by unfold iV at h;omega
theorem SL {op:Int} (h:iV op) (ha:mD a) (hb:mD b):aD prog 194 #[i64 op,i32 a,i32 b] w λr w'=>r=i32 (oU op a b)/\w'=w:=by
 apply aHv;suffices key:∀ R:O->Ω->Prop,R (i32 (oU op a b)) w->yH (i64 op) (i32 a) (i32 b) w R from key _ ⟨rfl,rfl⟩;intro R hR;unfold yH;rcases RX h with rfl|rfl|rfl|rfl|rfl|rfl|rfl|rfl|rfl|rfl|rfl|rfl
 all_goals simp only [aF,Int.reduceEq,decide_true,decide_false,aE,aA]
 ·exact aVb.mono λr w' ⟨hr,hw⟩=>hr▸hw▸hR
 ·exact aUt.mono λr w' ⟨hr,hw⟩=>hr▸hw▸hR
 ·exact aUz.mono λr w' ⟨hr,hw⟩=>hr▸hw▸hR
 ·exact aVa.mono λr w' ⟨hr,hw⟩=>hr▸hw▸hR
 ·exact wOr.mono λr w' ⟨hr,hw⟩=>hr▸hw▸hR
 ·exact aUs.mono λr w' ⟨hr,hw⟩=>hr▸hw▸hR
 ·exact aUv.mono λr w' ⟨hr,hw⟩=>hr▸hw▸hR
 ·exact aUu.mono λr w' ⟨hr,hw⟩=>hr▸hw▸hR
 ·exact aUw.mono λr w' ⟨hr,hw⟩=>hr▸hw▸hR
 ·exact (wEq ha hb).mono λr w' ⟨hr,hw⟩=>hr▸hw▸hR
 ·exact (wLt ha hb).mono λr w' ⟨hr,hw⟩=>hr▸hw▸hR
 ·exact (aLz ha hb).mono λr w' ⟨hr,hw⟩=>hr▸hw▸hR
end
end Go.Proofs.YtgkkecladbmjkaaGreatDoor
namespace Go.Vc
section
variable {P:Program} {w:Ω} {K:O->Ω->Prop} {S:Ω->Prop} {L:O->Prop}
theorem aY.seg {w:Ω} {b:Nat} {cs:List O} {e:TypeId} (h:aY w b cs e):lM w b 0 cs:=
 ⟨cs.toArray,e,(0,0),h,by simp,.inl rfl,λj v hj=>by simpa using hj⟩
end
section
variable {P:Program} {w:Ω} {K:O->Ω->Prop} {k:IntKind} {t:TypeId} {a b:Int}
end
section
variable {P:Program} {w:Ω} {K:O->Ω->Prop} {S:Ω->Prop} {L:O->Prop}
theorem DI {s f j ft:Nat} (hf:FA P s f j) (hl:L1 P ft) {b o:Nat} {cs:List O} (hs:∀ w',S w'->lM w' b o cs) {u:O} (hu:cs[j]?=some u) (hk:L u) :
  aB P S (Instr.fieldAt s (.pointer (some ⟨b,o,none⟩)) f) λq=>aB P S (Instr.loadAt ft q) L:=by
 obtain ⟨d,hd,ha⟩:=hl;exact aB.ok (λw' _=>hf.ex w' b o) (aB.ok (λw' hw=>iM hd ha ((hs w' hw).cell hu)) hk)
theorem yFF {s f j s2 f2 j2 ft:Nat} (hf:FA P s f j) (hf2:FA P s2 f2 j2) (hl:L1 P ft) {b o:Nat} {cs:List O} (hs:∀ w',S w'->lM w' b o cs) {u:O} (hu:cs[j+j2]?=some u) (hk:L u) :
  aB P S (Instr.fieldAt s (.pointer (some ⟨b,o,none⟩)) f) λq=>aB P S (Instr.fieldAt s2 q f2) λq=>aB P S (Instr.loadAt ft q) L:=by
 obtain ⟨d,hd,ha⟩:=hl;refine aB.ok (λw' _=>hf.ex w' b o) (aB.ok (λw' _=>hf2.ex w' b (o+j)) (aB.ok (λw' hw=>iM hd ha ?_) hk));have:=(hs w' hw).cell hu
 rwa [<- Nat.add_assoc] at this
theorem oP {x:Nat} {z:O} {by_:Nat} (hx:cP P x z 1 by_) {b o j:Nat} {cs:List O} (hs:lM w b o cs) (hj:j < cs.length) {u:O} (hu:cB u=true) {K':Ω->Prop} (hk:K' (w.setCell ⟨b,o+j,none⟩ u)) :
  U P (Instr.storeAt x (.pointer (some ⟨b,o+j,none⟩)) u) w λ_ w2=>K' w2:=
 U.ok (kG hx hu (hs.cell (List.getElem?_eq_getElem hj)) (hs.frozen hj)) hk
theorem fdA {s f j:Nat} (hf:FA P s f j) {b o:Nat} (hk:K (.pointer (some ⟨b,o+j,none⟩)) w):V P (Instr.fieldAt s (.pointer (some ⟨b,o,none⟩)) f) w K:=V.ok (hf.ex w b o) hk
theorem yFA {s f j:Nat} (hf:FA P s f j) {b o:Nat} (hk:L (.pointer (some ⟨b,o+j,none⟩))):aB P S (Instr.fieldAt s (.pointer (some ⟨b,o,none⟩)) f) L:=aB.ok (λw' _=>hf.ex w' b o) hk
theorem EI {B e sz n a:Nat} {g cap:Nat} {xs:List O} (h:w.ownsRow B e sz (.slice (some ⟨g,0,none⟩) n cap) n xs) (ha:a<=n):w.ownsRow B e sz (.slice (some ⟨g,0,none⟩) a cap) a (xs.take (a*sz)):=by
 obtain ⟨hl,h⟩:=h;rcases h with ⟨he,_⟩|⟨g',cap',cur,he,h1,h2,h3,h4,h5,h6⟩
 ·cases he
 ·cases he;have hle:a*sz<=n*sz:=Nat.mul_le_mul_right _ ha;refine ⟨by simp;omega,.inr ⟨g,cap,cur,rfl,h1,h2,by omega,h4,h5,?_⟩⟩;rw [<- h6,List.take_take,Nat.min_eq_left hle]
end
section
variable {P:Program} {w:Ω} {S:Ω->Prop} {L:O->Prop}
theorem yFE {s f j ft:Nat} (hf:FA P s f j) (hl:L1 P ft) {b o:Nat} {u:O} (hs:∀ w',S w'->∃ cs,lM w' b o cs/\cs[j]?=some u) (hk:L u) :
  aB P S (Instr.fieldAt s (.pointer (some ⟨b,o,none⟩)) f) λq=>aB P S (Instr.loadAt ft q) L:=by
 obtain ⟨d,hd,ha⟩:=hl;exact aB.ok (λw' _=>hf.ex w' b o) (aB.ok (λw' hw=>by obtain ⟨cs,h1,h2⟩:=hs w' hw;exact iM hd ha (h1.cell h2)) hk)
end
end Go.Vc
