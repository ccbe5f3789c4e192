/- An applet, made. -/
import Derived.Test.YtjcmcfidblhnnaaGreatDoorMf
import Derived.Deep.AppendLies
set_option maxHeartbeats 4000000
namespace Go.Proofs.YtjcmcfidblhnnaaGreatDoor
open Tryz
open Go.Vc Go.Tc
variable {w:World} {K:Value->World->Prop}
variable {lv3 mv p1 p2:Value} {w':World} {g4 gi j:Nat}
def tN (code:Nat->List lC):List jH:=[⟨[],0,[1,2,3,4],code 0⟩,⟨[1,2],2,[1,2,3,4],code 1⟩,⟨[4,3],3,[1,2],code 2⟩]
def JH (n1 n2:ByteArray):List HH:=[⟨n1,0,[1,2],2⟩,⟨n2,1,[4,3],3⟩]
def apC (lv p1 p2 lv3:Value) (c:Nat->Value):List Value:=[aZ,i64 0,lv,c 0,p1,i64 2,lv,c 1,p2,i64 3,lv3,c 2]
theorem aHz {lv:Value} {c:Nat->Value} {code:Nat->List lC} (h:aA w mv 4 3 (apC lv p1 p2 lv3 c)) (hl:aN w lv [1,2,3,4]) (h1:aN w p1 [1,2]) (h2:aN w p2 [4,3]) (h3:aN w lv3 [1,2]) (hc:∀ k,k < 3->pE w (c k) (code k)):rH w mv (tN code):=by
 refine ⟨_,h,λk x hk=>?_⟩
 match k,hk with
 | 0,hk=>cases hk;exact ⟨_,rfl,aZ,lv,c 0,rfl,aA.nil _ _,hl,hc 0 (by decide)⟩
 | 1,hk=>cases hk;exact ⟨_,rfl,p1,lv,c 1,rfl,h1,hl,hc 1 (by decide)⟩
 | 2,hk=>cases hk;exact ⟨_,rfl,p2,lv3,c 2,rfl,h2,h3,hc 2 (by decide)⟩
 | k+3,hk=>simp [tN] at hk
theorem bDa {iv q1 q2:Value} {n1 n2:ByteArray} (h:aA w iv 4 2 [.string n1,i64 0,q1,i64 2,.string n2,i64 1,q2,i64 3]) (h1:aN w q1 [1,2]) (h2:aN w q2 [4,3]):rI w iv (JH n1 n2):=by
 refine ⟨_,h,λk x hk=>?_⟩
 match k,hk with
 | 0,hk=>cases hk;exact ⟨_,rfl,q1,rfl,h1⟩
 | 1,hk=>cases hk;exact ⟨_,rfl,q2,rfl,h2⟩
 | k+2,hk=>simp [JH] at hk
theorem rR {g:Nat} (h:UA w g w'):Fr (λk=>k=g) w w':=Fr.of_grown h.grown λk hk=>by cases hk;rfl
structure MQ (g4 gi:Nat) (w:World) (v:Value) (l:List Int):Prop where
 own:w.ownsRow (g4+1) 3 1 v l.length (l.map i64)
 ne:∀ k,v.ownBlock=some k->k≠gi
theorem MQ.ext {v:Value} {l:List Int} (h:MQ g4 gi w v l) (hx:aF w w'):MQ g4 gi w' v l:=⟨hx.own h.own,h.ne⟩
theorem MQ.fr {N:Nat} {v:Value} {l:List Int} (h:MQ g4 gi w v l) (f:Fr (λk=>k=gi\/k<=g4\/N<=k) w w') (hN:w.heap.size<=N):MQ g4 gi w' v l:=
 ⟨f.own h.own λk hk hS=>by have:=h.own.lt k hk;have:=h.ne k hk;omega,h.ne⟩
theorem MQ.ints {v:Value} {l:List Int} (h:MQ g4 gi w v l):aN w v l:=aA.of_own h.own
theorem zW (n:Int):cO (i64 n)=true:=rfl
theorem KV (s:ByteArray):cO (.string s)=true:=rfl
theorem aYn (a:Option Addr) (n c:Nat):cO (.slice a n c)=true:=rfl
theorem aCv {code:Nat->List lC} {m:jH} (h:(tN code)[j]?=some m):m.params.length<=4/\m.locals.length<=4:=by
 match j,h with
 | 0,hm=>cases hm;exact ⟨by simp,by simp⟩
 | 1,hm=>cases hm;exact ⟨by simp,by simp⟩
 | 2,hm=>cases hm;exact ⟨by simp,by simp⟩
 | k+3,hm=>simp [tN] at hm
theorem aQi {lv v:Value} {c:Nat->Value} (h:j < 3):(apC lv p1 p2 lv3 c).set (j*4+3) v=apC lv p1 p2 lv3 (λk=>if k=j then v else c k):=by
 match j,h with
 | 0,_=>rfl
 | 1,_=>rfl
 | 2,_=>rfl
theorem aQh {lv:Value} {c:Nat->Value} {code:Nat->List lC} (h:aA w mv 4 3 (apC lv p1 p2 lv3 c)) (hl:aN w lv [1,2,3,4]) (h1:aN w p1 [1,2]) (h2:aN w p2 [4,3]) (h3:aN w lv3 [1,2]) (hc:∀ k,k < 3->pE w (c k) (code k)) :
  aA w mv 4 3 (apC lv p1 p2 lv3 c)/\∀ (k:Nat) (x:jH),(tN code)[k]?=some x->lK w (((apC lv p1 p2 lv3 c).drop (k*4)).take 4) x:=by
 refine ⟨h,λk x hk=>?_⟩
 match k,hk with
 | 0,hk=>cases hk;exact ⟨aZ,lv,c 0,rfl,aA.nil _ _,hl,hc 0 (by decide)⟩
 | 1,hk=>cases hk;exact ⟨p1,lv,c 1,rfl,h1,hl,hc 1 (by decide)⟩
 | 2,hk=>cases hk;exact ⟨p2,lv3,c 2,rfl,h2,h3,hc 2 (by decide)⟩
 | k+3,hk=>simp [tN] at hk
theorem aQg {n:Int} {rv:Value} {rl:List Rw} (hr:jC w rv rl) (hb:pY w) (hT:rS w) (rn:rl.length<=5000000000000)
  (hk:∀ p i w',kK w' p i->kM w' i->i.rg->i.methods.length=3->(∀ m∈i.methods,m.code.length<=700000)->(∀ w'',Fr (λk=>k < w.heap.size) w' w''->rS w''->kK w'' p i/\kM w'' i)->(∃ cs:List Value,∀ w'',Fr (λk=>k < w.heap.size) w' w''->aA w'' p.mv 4 i.methods.length cs/\∀ (k:Nat) (x:jH),i.methods[k]?=some x->lK w'' ((cs.drop (k*4)).take 4) x)->aF w w'->K (p.val i) w'):aB prog 20 #[i64 n,rv] w K:=by
 apply bGa;unfold ZY;refine AP qU λw1 hB4 x1=>?_;have hlt4:=hB4.lt;have hg4:w.heap.size<=w.heap.size:=Nat.le_refl _;generalize hgg4:w.heap.size=g4 at hB4 hg4 hlt4;refine jS bB [i64 1,i64 2,i64 3,i64 4] rfl rfl (by simp) rfl λlv w2 hol x2=>?_;refine RX λnm hnm=>?_;refine jS bB [i64 1,i64 2,i64 3,i64 4] rfl rfl (by simp) rfl λfv w3 hof x3=>?_;refine jS bB [i64 1,i64 2] rfl rfl (by simp) rfl λxv w4 hox x4=>?_;have o1:=jE hof;have o2:=jE hox;refine pP aZd [(0,.string nm),(1,fv),(4,xv)] rfl (by simp [o1,o2,KV]) ?_;refine sI aYf rfl (show ([.string nm,fv,aZ,aZ,xv]:List Value).all cO=true by simp [o1,o2,KV,aYn]) λw5 hBi x5=>?_;have hBi:bO w5 w4.heap.size [.string nm,fv,aZ,aZ,xv] 27:=hBi;have s1:=x1.size;have s2:=x2.size;have s3:=x3.size;have s4:=x4.size;have s5:=x5.size;have R0:∀ {v:Value} {l:List Int} {wa wb:World},wb.ownsRow wa.heap.size 3 1 v l.length (l.map i64)->w1.heap.size<=wa.heap.size->wb.heap.size<=w4.heap.size->MQ g4 w4.heap.size wb v l:=λho h1 h2=>⟨aX ho (by omega),λk hk=>by have:=(ho.lt k hk).2;omega⟩;have rl5:MQ g4 w4.heap.size w5 lv [1,2,3,4]:=(R0 (l:=[1,2,3,4]) hol (by omega) (by omega)).ext ((x3.trans x4).trans x5);have rf5:MQ g4 w4.heap.size w5 fv [1,2,3,4]:=(R0 (l:=[1,2,3,4]) hof (by omega) (by omega)).ext (x4.trans x5);have rx5:MQ g4 w4.heap.size w5 xv [1,2]:=(R0 (l:=[1,2]) hox (by omega) (by omega)).ext x5
 clear R0 hol hof hox;have x15:=(((x2.trans x3).trans x4).trans x5);have hB4:=hB4.ext x15;have hgi4:g4≠w4.heap.size:=by omega
 have hiw:w4.heap.size < w5.heap.size:=hBi.lt;have hiw0:w.heap.size<=w4.heap.size:=by omega
 have x05:=x1.trans x15;have hr0:=hr;have hr:=hr.ext x05;generalize w4.heap.size=gi at *;have R1:∀ {v:Value} {l:List Int} {wa wb:World},wb.ownsRow wa.heap.size 3 1 v l.length (l.map i64)->w5.heap.size<=wa.heap.size->MQ g4 gi wb v l:=λho h1=>⟨aX ho (by omega),λk hk=>by have:=(ho.lt k hk).1;omega⟩;refine aU.2 (RX λn1 hn1=>?_);refine jS bB [i64 1,i64 2] rfl rfl (by simp) rfl λq1 w6 hq1 x6=>?_;have s6:=x6.size;have rq1:MQ g4 gi w6 q1 [1,2]:=R1 (l:=[1,2]) hq1 (by omega);have oq1:=jE hq1;refine pP aHx [(0,.string n1),(1,i64 0),(2,q1),(3,i64 2)] rfl (by simp [oq1,zW,KV]) ?_;refine aU.2 (lnR wL (hr.ext x6) ?_);refine gP (by decide) (by decide) λ_ _ _=>aU.2 (RX λn2 hn2=>?_);refine jS bB [i64 4,i64 3] rfl rfl (by simp) rfl λq2 w7 hq2 x7=>?_;have s7:=x7.size;have rq2:MQ g4 gi w7 q2 [4,3]:=R1 (l:=[4,3]) hq2 (by omega);have oq2:=jE hq2;refine pP aHx [(0,.string n2),(1,i64 1),(2,q2),(3,i64 3)] rfl (by simp [oq2,zW,KV]) ?_;refine zI underlying24 DH rfl (by decide) [.agg #[.string n1,i64 0,q1,i64 2],.agg #[.string n2,i64 1,q2,i64 3]] rfl rfl (by intro v hv;simp only [List.mem_cons,List.not_mem_nil,or_false] at hv;rcases hv with rfl|rfl<;>rfl) (by decide) (by decide) λiv w8 hoi x8=>?_;have s8:=x8.size;have hoi:w8.ownsRow w7.heap.size 146 4 iv 2 [.string n1,i64 0,q1,i64 2,.string n2,i64 1,q2,i64 3]:=hoi
 have x58:=(x6.trans x7).trans x8;refine FK fG aYt (hBi.ext x58) (n:=5) rfl (by decide) (jE hoi) ?_;have hB9:bO (w8.setCell ⟨gi,2,none⟩ iv) gi [.string nm,fv,iv,aZ,xv] 27:=(hBi.ext x58).set 2 iv;have f9:Fr (λk=>k=gi\/k<=g4\/w8.heap.size<=k) w8 (w8.setCell ⟨gi,2,none⟩ iv):=Fr.of_set (.inl rfl);have rl9:=(rl5.ext x58).fr f9 (Nat.le_refl _);have rf9:=(rf5.ext x58).fr f9 (Nat.le_refl _);have rx9:=(rx5.ext x58).fr f9 (Nat.le_refl _);have rq19:=(rq1.ext (x7.trans x8)).fr f9 (Nat.le_refl _);have rq29:=(rq2.ext x8).fr f9 (Nat.le_refl _);have hoi9:=f9.own hoi λk hk hS=>by have:=hoi.lt k hk;omega
 have hB49:bO (w8.setCell ⟨gi,2,none⟩ iv) g4 _ _:=(hB4.ext x58).other hgi4;have f59:aF w (w8.setCell ⟨gi,2,none⟩ iv):=(x05.trans x58).setCell hiw0 iv;have xr9:∀ {w'},Fr (λk=>k=gi\/k=g4\/w8.heap.size<=k) (w8.setCell ⟨gi,2,none⟩ iv) w'->aF w w':=λf=>f.ext f59 λk hk=>by omega
 have sz9:(w8.setCell ⟨gi,2,none⟩ iv).heap.size=w8.heap.size:=by simp
 generalize w8.setCell ⟨gi,2,none⟩ iv=w9 at *;have hoi0:=hoi;clear rl5 rf5 rx5 rq1 rq2 hoi hB4 hBi hq1 hq2 f9;have ol:=jE rl9.own;refine pP WY [(2,lv)] rfl (by simp [ol]) ?_;refine jS bB [i64 1,i64 2] rfl rfl (by simp) rfl λp1 w10 hp1 x10=>?_;have s10:=x10.size;have rp1:MQ g4 gi w10 p1 [1,2]:=R1 (l:=[1,2]) hp1 (by omega);have op1:=jE hp1;refine pP WY [(0,p1),(1,i64 2),(2,lv)] rfl (by simp [ol,op1,zW]) ?_;refine jS bB [i64 4,i64 3] rfl rfl (by simp) rfl λp2 w11 hp2 x11=>?_;have s11:=x11.size;have rp2:MQ g4 gi w11 p2 [4,3]:=R1 (l:=[4,3]) hp2 (by omega);have op2:=jE hp2;obtain ⟨lv3,urun,usl⟩:=aAz underlying23 bY rl9.ints (lo:=none) (hi':=some (.int .i64 ((2:Nat):Int))) (a:=0) (b:=2) (.inl ⟨rfl,rfl⟩) (.inr rfl) (by decide) (by decide);refine V.ok (urun _) ?_;have ol3:cO lv3=true:=by obtain ⟨a,c,rfl⟩:=(usl _ rl9.ints).shape;rfl
 refine pP WY [(0,p2),(1,i64 3),(2,lv3)] rfl (by simp [ol3,op2,zW]) ?_;refine zI underlying25 xN rfl (by decide) [.agg #[aZ,i64 0,lv,aZ],.agg #[p1,i64 2,lv,aZ],.agg #[p2,i64 3,lv3,aZ]] rfl rfl (by intro v hv;simp only [List.mem_cons,List.not_mem_nil,or_false] at hv;rcases hv with rfl|rfl|rfl<;>rfl) (by decide) (by decide) λmv w12 hom x12=>?_;have s12:=x12.size;have hom:w12.ownsRow w11.heap.size 38 4 mv 3 (apC lv p1 p2 lv3 λ_=>aZ):=hom
 obtain ⟨gm,cap,rfl⟩:∃ gm cap,mv=.slice (some ⟨gm,0,none⟩) 3 cap:=by
  rcases hom.2 with ⟨_,e⟩|⟨gm,cap,cur,rfl,_⟩
  ·cases e
  ·exact ⟨gm,cap,rfl⟩
 have hgm:=hom.lt gm rfl;have x9b:=x10.trans x11;have x9c:=x9b.trans x12;refine FK bP aYs (hB9.ext x9c) (n:=5) rfl (by decide) rfl ?_;have hBC:bO (w12.setCell ⟨gi,3,none⟩ (.slice (some ⟨gm,0,none⟩) 3 cap)) gi [.string nm,fv,iv,.slice (some ⟨gm,0,none⟩) 3 cap,xv] 27:=(hB9.ext x9c).set 3 _;have fC:Fr (λk=>k=gi\/k=g4\/w11.heap.size<=k) w11 (w12.setCell ⟨gi,3,none⟩ (.slice (some ⟨gm,0,none⟩) 3 cap)):=(Fr.of_ext x12).set (.inl rfl);have homC:(w12.setCell ⟨gi,3,none⟩ (.slice (some ⟨gm,0,none⟩) 3 cap)).ownsRow w11.heap.size 38 4 (.slice (some ⟨gm,0,none⟩) 3 cap) 3 (apC lv p1 p2 lv3 λ_=>aZ):=(Fr.of_set (S:=λk=>k=gi) rfl).own hom λk hk hS=>by have:=hom.lt k hk;omega
 have hB4C:bO (w12.setCell ⟨gi,3,none⟩ (.slice (some ⟨gm,0,none⟩) 3 cap)) g4 _ _:=(hB49.ext x9c).other hgi4;have szC:(w12.setCell ⟨gi,3,none⟩ (.slice (some ⟨gm,0,none⟩) 3 cap)).heap.size=w12.heap.size:=by simp
 generalize w12.setCell ⟨gi,3,none⟩ (.slice (some ⟨gm,0,none⟩) 3 cap)=wC at *;have hb11:aF w w11:=(aF.refl w).trans (f59.trans x9b);have hr0:∀ {w'},aF w w'->jC w' rv rl:=λhx=>(hr0:jC w rv rl).ext hx
 have hall:∀ {w'},Fr (λk=>k=gi\/k<=g4\/w11.heap.size<=k) w11 w'->aN w' fv [1,2,3,4]/\aN w' xv [1,2]/\aN w' lv [1,2,3,4]/\aN w' p1 [1,2]/\aN w' p2 [4,3]/\aN w' lv3 [1,2]/\rI w' iv (JH n1 n2):=by
  intro w' f;have hN:=Nat.le_refl w11.heap.size;have hl:=((rl9.ext x9b).fr f hN).ints;refine ⟨((rf9.ext x9b).fr f hN).ints,((rx9.ext x9b).fr f hN).ints,hl,((rp1.ext x11).fr f hN).ints,(rp2.fr f hN).ints,usl w' hl,bDa (aA.of_own (f.own (x9b.own hoi9) λk hk hS=>?_)) ((rq19.ext x9b).fr f hN).ints ((rq29.ext x9b).fr f hN).ints⟩;have:=(x9b.own hoi9).lt k hk;omega
 have hallX:∀ {w'},Fr (λk=>k=gi\/k=g4\/w11.heap.size<=k) w11 w'->aF w w':=λf=>f.ext hb11 λk hS=>by omega
 have hS:∀ {w'},Fr (λk=>k=gi\/k=g4\/w11.heap.size<=k) w11 w'->Fr (λk=>k=gi\/k<=g4\/w11.heap.size<=k) w11 w':=λf=>f.mono λk hk=>by omega
 clear rl9 rf9 rx9 rq19 rq29 hoi9 rp1 rp2 hB9 hB49 hom usl urun hp1 hp2;refine lnR wL (hr0 (hallX fC)) ?_;have hgmC:gm < wC.heap.size:=by omega
 refine ⟨λv w'=>∃ (j:Nat) (c:Nat->Value) (code:Nat->List lC),v=i64 j/\j<=3/\Fr (λk=>k=gi\/k=g4\/w11.heap.size<=k) w11 w'/\wC.heap.size<=w'.heap.size/\bO w' gi [.string nm,fv,iv,.slice (some ⟨gm,0,none⟩) 3 cap,xv] 27/\bO w' g4 [.string ByteArray.empty,aZ,aZ,aZ,aZ] 27/\w'.ownsRow w11.heap.size 38 4 (.slice (some ⟨gm,0,none⟩) 3 cap) 3 (apC lv p1 p2 lv3 c)/\∀ k,w'.ownsRow (gm+1) 88 3 (c k) (code k).length (nT (code k))/\(∀ x∈code k,x.rg)/\(code k).length<=700000,
  λv _=>3 - (RowKit.intOf v).toNat,⟨0,λ_=>aZ,λ_=>[],rfl,Nat.zero_le _,fC,Nat.le_refl _,hBC,hB4C,homC,λk=>⟨World.ownsRow_nil _ _ _ _,λ_ h=>by simp at h,Nat.zero_le _⟩⟩,?_⟩
 clear hBC hB4C homC fC;rintro _ wD ⟨j,c,code,rfl,hj,f,hsz,hBi,hB4,hom,hcs⟩ _;obtain ⟨rf,rx,rl',rp1,rp2,rl3,rim⟩:=hall (hS f);have xw:=hallX f;have hms:rH wD (.slice (some ⟨gm,0,none⟩) 3 cap) (tN code):=aHz (aA.of_own hom) rl' rp1 rp2 rl3 λk _=>aA.of_own (hcs k).1;refine aY.2 (aD (λhlt=>?_) λhge=>?_)
 ·have hrD:=hr0 xw;have e1:∀ m:Nat,m<=3->V prog (binOp .mul 3 (i64 m) (i64 rl.length)) wD=V prog (binOp .mul 3 (i64 m) (i64 rl.length)) wD:=λ_ _=>rfl
  have e2:∀ m:Nat,m<=3->IntKind.i64.wrap ((m:Int)*(rl.length:Int))=((m*rl.length:Nat):Int):=λm hm=>by
   have:m*rl.length<=3*rl.length:=Nat.mul_le_mul_right _ hm;rw [<- Int.natCast_mul];exact aC (by omega) (by omega)
  have e3:∀ (m d:Nat),m<=15000000000000->IntKind.i64.wrap (((m:Nat):Int).tdiv ((d:Nat):Int))=((m / d:Nat):Int):=λm d hm=>by
   have h1:((m:Nat):Int).tdiv ((d:Nat):Int)=((m / d:Nat):Int):=by
    rw [Int.tdiv_eq_ediv_of_nonneg (by omega)];rfl
   have h2:m / d<=m:=Nat.div_le_self _ _;rw [h1];clear h1;generalize m / d=q at *;exact aC (by omega) (by omega)
  have e4:∀ a b:Nat,min ((a:Nat):Int) ((b:Nat):Int)=((min a b:Nat):Int):=λa b=>by omega
  have hj3:j*rl.length<=3*rl.length:=Nat.mul_le_mul_right _ hj;have hj4:(j+1)*rl.length<=3*rl.length:=Nat.mul_le_mul_right _ (by omega);refine oO.2 ?_;rw [e2 j hj];refine (XH (by decide)).2 ?_;rw [show (3:Int)=((3:Nat):Int) from rfl,e3 _ 3 (by omega)];refine V.ok UU (aU.2 ?_);rw [e4,aC (n:=(j:Int)+1) (by omega) (by omega),aR];refine oO.2 ?_;rw [e2 (j+1) (by omega)];refine (XH (by decide)).2 ?_;rw [e3 _ 3 (by omega)];refine V.ok UU ?_;rw [e4];have hd1:j*rl.length / 3<=(j+1)*rl.length / 3:=Nat.div_le_div_right (Nat.mul_le_mul_right _ (by omega));obtain ⟨v1,r1,hs1⟩:=jC.part underlying22 DG hrD (lo:=some (.int .i64 ((min rl.length (j*rl.length / 3):Nat):Int))) (hi':=some (.int .i64 ((min rl.length ((j+1)*rl.length / 3):Nat):Int))) (.inr rfl) (.inr rfl) (by omega) (by omega);refine V.ok (r1 _) ?_;refine ⟨λv w'=>∃ l,jC wD v l/\l.length<=5000000000000/\w'=wD,aK.2 (aD (λhz=>?_) λhz=>⟨_,hs1,by simp;omega,rfl⟩),?_⟩
  ·refine (XH (by decide)).2 ?_;rw [show (2:Int)=((2:Nat):Int) from rfl,e3 _ 2 (by omega)];refine V.ok UU ?_;rw [e4];obtain ⟨v2,r2,hs2⟩:=jC.part underlying22 DG hrD (lo:=none) (hi':=some (.int .i64 ((min rl.length (rl.length / 2):Nat):Int))) (a:=0) (.inl ⟨rfl,rfl⟩) (.inr rfl) (by omega) (by omega);exact V.ok (r2 _) ⟨_,hs2,by simp;omega,rfl⟩
  rintro v3 wD' ⟨l,hl,hll,hwD⟩ _;have hwD:=hwD.symm;subst hwD;have D1:aF wD wD.drew:=(aF.refl _).drew;have hBid:=hBi.ext D1;obtain ⟨m,hm⟩:=bC (l:=tN code) (j:=j) (by simp [tN];omega);refine aM.mk' (λw'=>aF wD.drew w') (aF.refl _) ?_;refine jM (λw' hx=>bO.boxed (hBid.ext hx)) bP dM rfl ?_;refine jM (λw' hx=>bO.boxed (hBid.ext hx)) bP dM rfl ?_;refine ySS iQ oB (hms.ext D1) (λ_ h=>h) hm rC λrow hrow=>?_;refine jM (λw' hx=>bO.boxed (hBid.ext hx)) bP dM rfl ?_;refine jM (λw' hx=>bO.boxed (hBid.ext hx)) fG iC rfl ?_;have xwd:=xw.trans D1;have hmp:=aCv hm;refine bCh (hl.ext D1) hrow (hms.ext D1) (rim.ext D1) (λq hq=>?_) hll (by omega) (by omega) ⟨by simp [tN],by simp [tN]⟩ (by simp [tN]) (by simp [JH]) (by simp [JH]) λv4 code4 wE ho4 hrg4 hlen4 xE=>⟨xE,?_⟩
  ·obtain ⟨z,hz⟩:=hb q hq;exact ⟨z,xwd.cell hz⟩
  have x3E:=D1.trans xE;refine aE.ok (λw' _=>jO underlying25 xN (by omega) (by omega)) ?_;refine aE.ok (λw' _=>FA.ex dG w' _ _) ?_;rw [Int.toNat_natCast];refine bJm underlying25 xN dG LP (x3E.own hom) (by omega) (by decide) (jE ho4) λwF hwF hoF fF=>aU.2 ?_;rw [aC (by omega) (by omega),aR];have sE:=x3E.size;have sD:=D1.size;have sF:=fF.size;rw [aQi (by omega)] at hoF;refine ⟨⟨j+1,λk=>if k=j then v4 else c k,λk=>if k=j then code4 else code k,rfl,by omega,(f.trans (Fr.of_ext x3E) λ_ _ h=>h).trans fF λk _ hk=>by omega,by omega,fF.blk (hBi.ext x3E) (by omega),fF.blk (hB4.ext x3E) (by omega),hoF,λk=>?_⟩,by simp only [aL];omega⟩;by_cases hkj:k=j
  ·simp only [hkj,if_true];exact ⟨aX (fF.own ho4 λq hq hS=>by have:=(ho4.lt q hq).1;omega) (by omega),hrg4,hlen4⟩
  ·simp only [hkj,if_false];obtain ⟨c1,c2,c3⟩:=hcs k;exact ⟨fF.own (x3E.own c1) λq hq hS=>by have:=(c1.lt q hq).1;omega,c2,c3⟩
 ·refine iO (bO.boxed hBi) lF rfl ?_;refine zS qU hB4 (l:=[.string nm,fv,iv,.slice (some ⟨gm,0,none⟩) 3 cap,xv]) rfl rfl rfl (by simp [o1,o2,jE hoi0,KV,aYn]) λwE hBE hc=>?_;refine ⟨_,pZ underlying27 rfl qU hBE rfl,⟨_,rfl⟩,?_⟩;have fE:Fr (λk=>k=gi\/k=g4\/w11.heap.size<=k) w11 wE:=f.trans ((rR hc).mono λk hk=>.inr (.inl hk)) λ_ _ h=>h;have xw:=hallX fE;have hg4m:g4 < gm:=by omega
  have homE:=(rR hc).own hom λk hk hS=>by have:=(hom.lt k hk).1;omega
  have hcsE:∀ k,wE.ownsRow (gm+1) 88 3 (c k) (code k).length (nT (code k)):=λk=>(rR hc).own (hcs k).1 λq hq hS=>by have:=((hcs k).1.lt q hq).1;omega
  have stay:∀ w'',Fr (λk=>k < g4) wE w''->rS w''->kK w'' ⟨fv,iv,.slice (some ⟨gm,0,none⟩) 3 cap,xv⟩ ⟨nm,[1,2,3,4],JH n1 n2,tN code,[1,2]⟩/\kM w'' ⟨nm,[1,2,3,4],JH n1 n2,tN code,[1,2]⟩:=by
   intro w'' f'' hT'';have f3:Fr (λk=>k=gi\/k<=g4\/w11.heap.size<=k) w11 w'':=(hS fE).trans f'' λk _ hk=>by omega
   obtain ⟨rf,rx,rl',rp1,rp2,rl3,rim⟩:=hall f3;refine ⟨⟨rf,rim,aHz (aA.of_own (f''.own homE λk hk hS=>by have:=(homE.lt k hk).1;omega)) rl' rp1 rp2 rl3 λk _=>aA.of_own (f''.own (hcsE k) λq hq hS=>by have:=((hcsE k).lt q hq).1;omega),rx⟩,RW hnm hT'',λx hx=>?_⟩;simp only [JH,List.mem_cons,List.not_mem_nil,or_false] at hx;rcases hx with rfl|rfl
   ·exact RW hn1 hT''
   ·exact RW hn2 hT''
  have stayM:∃ cs:List Value,∀ w'',Fr (λk=>k < g4) wE w''->aA w'' (.slice (some ⟨gm,0,none⟩) 3 cap) 4 3 cs/\∀ (k:Nat) (x:jH),(tN code)[k]?=some x->lK w'' ((cs.drop (k*4)).take 4) x:=by
   refine ⟨apC lv p1 p2 lv3 c,λw'' f''=>?_⟩;have f3:Fr (λk=>k=gi\/k<=g4\/w11.heap.size<=k) w11 w'':=(hS fE).trans f'' λk _ hk=>by omega
   obtain ⟨rf,rx,rl',rp1,rp2,rl3,rim⟩:=hall f3;exact aQh (w:=w'') (aA.of_own (f''.own homE λk hk hS=>by have:=(homE.lt k hk).1;omega)) rl' rp1 rp2 rl3 λk _=>aA.of_own (f''.own (hcsE k) λq hq hS=>by have:=((hcsE k).lt q hq).1;omega)
  have hTE:=hT.ext xw;obtain ⟨hat,hnmE⟩:=stay wE (Fr.refl _ _) hTE;refine hk ⟨fv,iv,.slice (some ⟨gm,0,none⟩) 3 cap,xv⟩ ⟨nm,[1,2,3,4],JH n1 n2,tN code,[1,2]⟩ wE hat hnmE (λm hm x hx=>?_) rfl (λm hm=>?_) (by rw [hgg4];exact stay) (by rw [hgg4];exact stayM) xw
  ·simp only [tN,List.mem_cons,List.not_mem_nil,or_false] at hm;rcases hm with rfl|rfl|rfl
   ·exact (hcs 0).2.1 x hx
   ·exact (hcs 1).2.1 x hx
   ·exact (hcs 2).2.1 x hx
  ·simp only [tN,List.mem_cons,List.not_mem_nil,or_false] at hm;rcases hm with rfl|rfl|rfl
   ·exact (hcs 0).2.2
   ·exact (hcs 1).2.2
   ·exact (hcs 2).2.2
end Go.Proofs.YtjcmcfidblhnnaaGreatDoor
namespace Go.Vc
section
variable {P:Program} {w:World} {K:Value->World->Prop}
theorem slO {t e sz:Nat} {z:Value} {by_:Nat} (ht:P.underlying t=some (.slice e)) (hi:dA P e z sz by_) (_:0 < sz) {B n g cap:Nat} {xs:List Value} (ho:w.ownsRow B e sz (.slice (some ⟨g,0,none⟩) n cap) n xs) {k:Nat} (hk:k<=n) (h0:0 < n)
  (hK:w.ownsRow B e sz (.slice (some ⟨g,0,none⟩) k cap) k (xs.take (k*sz))->K (.slice (some ⟨g,0,none⟩) k cap) w):V P (Instr.sliceAt t (.slice (some ⟨g,0,none⟩) n cap) none (some (i64 k)) none) w K:=by
 have hcap:n<=cap:=by
  rcases ho.2 with ⟨he,_⟩|⟨g',cap',cur,he,_,_,h3,_⟩
  ·cases he
  ·cases he;exact h3
 have hc0:¬ cap=0:=by omega
 have hkc:k<=cap:=by omega
 refine V.ok ?_ (hK (FV ho hk));simp [Instr.sliceAt,Instr.slice,run_underlying ht,gG hi,Instr.sliceBounds,Instr.sliceBound,asIntOf,hkc,hc0,lJ]
end
end Go.Vc
namespace Go.Proofs.YtjcmcfidblhnnaaGreatDoor
open Tryz
open Go.Vc Go.Tc
variable {w:World} {K:Value->World->Prop}
end Go.Proofs.YtjcmcfidblhnnaaGreatDoor
namespace Go.Tc
def gN.withCode (i:gN) (q:Nat) (code:List lC):gN:={ i with methods:=i.methods.set q { i.meth q with code:=code } }
end Go.Tc
namespace Go.Proofs.YtjcmcfidblhnnaaGreatDoor
open Tryz
open Go.Vc Go.Tc
variable {w:World} {K:Value->World->Prop}
variable {B B':Nat} {w':World} {i:gN} {n:aJ} {k:Int} {x:lC}
structure Apl (w:World) (p:iP) (i:gN):Prop where
 at_:kK w p i
 nm:kM w i
 rg:i.rg
 ml:i.methods.length=3
 cl:∀ m∈i.methods,m.code.length<=2000000
theorem Apl.ext {w':World} {p:iP} {i:gN} (h:Apl w p i) (hx:aF w w'):Apl w' p i:=⟨h.at_.ext hx,h.nm.ext hx,h.rg,h.ml,h.cl⟩
def BJ (N0:Nat) (w0:World) (v:Value) (w':World):Prop:=∃ code':List lC,w'.ownsRow N0 88 3 v code'.length (nT code')/\(∀ x∈code',x.rg)/\code'.length<=2000000/\Fr (λk=>N0<=k) w0 w'
structure yH (B:Nat) (w:World) (p:iP) (i:gN):Prop where
 ap:∀ w'',Fr (λk=>k < B) w w''->rS w''->Apl w'' p i
 mt:∃ cs:List Value,∀ w'',Fr (λk=>k < B) w w''->aA w'' p.mv 4 i.methods.length cs/\∀ (k:Nat) (x:jH),i.methods[k]?=some x->lK w'' ((cs.drop (k*4)).take 4) x
theorem yH.by_ {p:iP} (h:yH B w p i) (hf:∀ w'',Fr (λk=>k < B') w' w''->Fr (λk=>k < B) w w''):yH B' w' p i:=by
 obtain ⟨h1,cs,h2⟩:=h;exact ⟨λw'' f hT=>h1 w'' (hf w'' f) hT,cs,λw'' f=>h2 w'' (hf w'' f)⟩
theorem yH.ext {p:iP} (h:yH B w p i) (hx:aF w w'):yH B w' p i:=h.by_ λ_ f=>(Fr.of_ext hx).trans f λ_ _ h=>h
theorem yH.now {p:iP} (h:yH B w p i) (hT:rS w):Apl w p i:=h.ap w (Fr.refl _ _) hT
theorem yH.chg {g:Nat} {p:iP} (h:yH B w p i) (f:Fr (λk=>k=g) w w') (hg:g < B) (hB:B'<=B):yH B' w' p i:=h.by_ λw'' f'=>((f.mono (T:=λk=>k < B) λk hk=>by omega)).trans f' λk _ hk=>by omega
def iP.cells (p:iP) (i:gN):List Value:=[.string i.name,p.fv,p.iv,p.mv,p.xv]
theorem Apl.one {p:iP} (h:Apl w p i):(p.cells i).all cO=true:=by
 obtain ⟨a1,c1,e1⟩:=aA.shape h.at_.fl;obtain ⟨_,hx1,_⟩:=h.at_.im;obtain ⟨a2,c2,e2⟩:=aA.shape hx1;obtain ⟨_,hx3,_⟩:=h.at_.mt;obtain ⟨a3,c3,e3⟩:=aA.shape hx3;obtain ⟨a4,c4,e4⟩:=aA.shape h.at_.ex;unfold iP.cells;rw [e1,e2,e3,e4];rfl
theorem bCz {n:Int} {rv:Value} {rl:List Rw} (hr:jC w rv rl) (hb:pY w) (hT:rS w) (rn:rl.length<=5000000000000)
  (hk:∀ p i w',yH w.heap.size w' p i->(∀ m∈i.methods,m.code.length<=700000)->aF w w'->K (p.val i) w'):aB prog 20 #[i64 n,rv] w K:=
 aQg hr hb hT rn λp i w' _ _ h3 h4 h5 h7 h8 h6=>hk p i w' ⟨λw'' f hT''=>⟨(h7 w'' f hT'').1,(h7 w'' f hT'').2,h3,h4,λm hm=>Nat.le_trans (h5 m hm) (by decide)⟩,h8⟩ h5 h6
def LU (l:List (iP × gN)):List Value:=l.flatMap λx=>x.1.cells x.2
def aNj (w:World) (row:List Value) (x:iP × gN):Prop:=row=x.1.cells x.2/\Apl w x.1 x.2/\kY x.2
def BN (w:World) (v:Value) (l:List (iP × gN)):Prop:=bU aNj 5 w v l
theorem BN.ext {w':World} {v:Value} {l:List (iP × gN)} (h:BN w v l) (hx:aF w w'):BN w' v l:=bU.ext (λh k=>⟨h.1,h.2.1.ext k,h.2.2⟩) h hx
theorem LT:∀ {l:List (iP × gN)} {k:Nat} {x:iP × gN},l[k]?=some x->((LU l).drop (k*5)).take 5=x.1.cells x.2
 | [],_,_,h=>by simp at h
 | y::l,0,x,h=>by simp at h;subst h;simp [LU,iP.cells]
 | y::l,k+1,x,h=>by
  have:=LT (l:=l) (k:=k) (by simpa using h);simp only [LU,List.flatMap_cons] at this ⊢;rw [show (k+1)*5=5+k*5 by omega,<- List.drop_drop,List.drop_left' (by rfl)];exact this
theorem TR (w:World) (row:List Value) (x:iP × gN) (h:aNj w row x):row.length=5:=by rw [h.1];rfl
def BL (w:World) (v:Value) (ll:List (List Rw)):Prop:=∃ vs:List Value,aA w v 1 ll.length vs/\∀ (k:Nat) (l:List Rw),ll[k]?=some l->∃ u,vs[k]?=some u/\jC w u l/\l.length<=5000000000000
theorem BL.ext {w':World} {v:Value} {ll:List (List Rw)} (h:BL w v ll) (hx:aF w w'):BL w' v ll:=by
 obtain ⟨vs,h1,h2⟩:=h;refine ⟨vs,h1.ext hx,λk l hk=>?_⟩;obtain ⟨u,h3,h4,h5⟩:=h2 k l hk;exact ⟨u,h3,h4.ext hx,h5⟩
theorem aCu {v:Value} {ll:List (List Rw)} (h:BL w v ll) (hb:pY w) (hT:rS w) (hk:∀ v' l w',BN w' v' l->l.length<=3->(∀ x∈l,∀ w'',Fr (λk=>k < w.heap.size) w' w''->rS w''->Apl w'' x.1 x.2)->aF w w'->K v' w'):aB prog 10 #[v] w K:=by
 apply bGg;unfold aAg;refine ⟨λt v w'=>∃ (j:Nat) (l:List (iP × gN)),v=i64 j/\j<=ll.length/\j<=3/\l.length<=j/\aF w w'/\w'.ownsRow w.heap.size 27 5 t l.length (LU l)/\∀ x∈l,(∀ w'',Fr (λk=>t.ownBlock=some k\/k < w.heap.size) w' w''->rS w''->Apl w'' x.1 x.2)/\kY x.2,λ_ v _=>3 - (RowKit.intOf v).toNat,⟨0,[],rfl,Nat.zero_le _,Nat.zero_le _,Nat.le_refl _,aF.refl _,World.ownsRow_nil _ _ _ _,λ_ h=>by simp at h⟩,?_⟩;rintro tv _ w1 ⟨j,l,rfl,hj,hj3,hlj,x1,ho,hl⟩ _;obtain ⟨vs,hvs,hvl⟩:=h.ext x1
 have hb1:∀ {w'},aF w w'->pY w':=λhx q hq=>by
  obtain ⟨z,hz⟩:=hb q hq;exact ⟨z,hx.cell hz⟩
 refine gD UE hvs (aY.2 ?_);by_cases c0:(j:Int) < (ll.length:Int)/\(j:Int) < 3
 case neg=>
  have fin:K tv w1:=hk tv l w1 ⟨LU l,aA.of_own ho,λk x hx=>⟨_,LT hx,rfl,(hl x (List.mem_of_getElem? hx)).1 _ (Fr.refl _ _) (hT.ext x1),(hl x (List.mem_of_getElem? hx)).2⟩⟩ (by omega) (λx hx w'' f hT''=>(hl x hx).1 w'' (f.mono λk hk=>.inr hk) hT'') x1;by_cases c1:(j:Int) < (ll.length:Int)
  ·have c2:¬ (j:Int) < 3:=λhc=>c0 ⟨c1,hc⟩;simp only [c1,c2,aS,reduceIte,decide_true,decide_false];exact fin
  ·simp only [c1,aS,reduceIte,Bool.false_eq_true,decide_false];exact fin
 obtain ⟨c1,c2⟩:=c0;simp only [c1,c2,aS,reduceIte,decide_true];obtain ⟨rl,hrl⟩:=bC (l:=ll) (j:=j) (by omega);obtain ⟨ru,hru,hrr,hrn⟩:=hvl j rl hrl;refine lV UE kH hvs (by omega) (by omega) (by simpa using hru) ?_;refine bCz hrr (hb1 x1) (hT.ext x1) hrn λp2 i2 w2 ha2 hc2 x2=>?_;have hone:=(ha2.now (hT.ext (x1.trans x2))).one;refine sI aYf rfl hone λw3 hB3 x3=>?_;have hB3:bO w3 w2.heap.size (p2.cells i2) 27:=hB3;have s2:=x2.size;have x13:=x2.trans x3;have hg:w1.heap.size<=w2.heap.size:=s2;have ha3:=ha2.ext x3;generalize w2.heap.size=g at *;clear ha2 x2 x3 s2 hone hc2;have hT1:∀ {w'},aF w1 w'->rS w':=λhx=>hT.ext (x1.trans hx);refine ⟨λw'=>∃ p i,bO w' g (iP.cells p i) 27/\yH w1.heap.size w' p i/\aF w1 w',?_,?_⟩
 ·refine iO (bO.boxed hB3) lF rfl ?_;have hA3:=ha3.now (hT1 x13);refine BQ (p:=p2) (i:=i2) hA3.at_ hA3.nm λa b e w4 _ x4=>?_;refine gS.2 (gR.2 ?_);refine wJ KE rfl rfl λb5 w5 _ x5=>?_;have x45:=x4.trans x5;have hB5:=hB3.ext x45;have ha5:=ha3.ext x45;have x15:=x13.trans x45;refine dB.2 (aD (λhne=>?_) λheq=>⟨p2,i2,hB5,ha5,x15⟩);have D1:aF w5 w5.drew:=(aF.refl _).drew;have x1d:=x15.trans D1;have hrrd:=hrr.ext x1d;obtain ⟨u6,r6,hs6⟩:=jC.part underlying22 DG hrrd (lo:=none) (hi':=some (.int .i64 ((rl.length / 2:Nat):Int))) (a:=0) (b:=rl.length / 2) (.inl ⟨rfl,rfl⟩) (.inr rfl) (by omega) (by omega);refine aM.mk' (λw'=>aF w5.drew w') (aF.refl _) ?_;refine nR UE kH (hvs.ext x1d) (λ_ h=>h) (by omega) (by omega) (by simpa using hru) ?_;refine nR UE kH (hvs.ext x1d) (λ_ h=>h) (by omega) (by omega) (by simpa using hru) ?_;refine bGs wL hrrd ?_;refine aE.ok (λw' _=>UT (by decide)) ?_
  have e2:IntKind.i64.wrap (((rl.length:Nat):Int).tdiv 2)=((rl.length / 2:Nat):Int):=by
   rw [Int.tdiv_eq_ediv_of_nonneg (by omega),aC (by omega) (by omega)];rfl
  rw [e2];refine aE.ok (λw' _=>r6 _) ?_;refine bCz hs6 (hb1 (x1.trans x1d)) (hT.ext (x1.trans x1d)) (by simp;omega) λp7 i7 w7 ha7 _ x7=>⟨x7,?_⟩;have x17:=x1d.trans x7;have hgd:g < w5.drew.heap.size:=(hB5.ext D1).lt;have s1d:=x1d.size;refine zS qU (hB5.ext (D1.trans x7)) (l:=p7.cells i7) rfl rfl rfl (ha7.now (hT1 x17)).one λw8 hB8 hc8=>?_;have x18:aF w1 w8:=hc8.ext _ x17 hg;have ha8:yH w1.heap.size w8 p7 i7:=ha7.chg (rR hc8) hgd s1d;refine iO (bO.boxed hB8) lF rfl ?_;have hA8:=ha8.now (hT1 x18);refine BQ (p:=p7) (i:=i7) hA8.at_ hA8.nm λa b e w9 _ x9=>?_;refine gS.2 (gR.2 ?_);refine wJ KE rfl rfl λb10 w10 _ x10=>?_;have x910:=x9.trans x10;refine dB.2 (aD (λhne2=>?_) λheq=>⟨p7,i7,hB8.ext x910,ha8.ext x910,x18.trans x910⟩);have x1A:=x18.trans x910;refine bCz (rl:=[]) ⟨⟨none,0,rfl⟩,λh=>by simp at h⟩ (hb1 (x1.trans x1A)) (hT.ext (x1.trans x1A)) (by simp) λp11 i11 w11 ha11 _ x11=>?_;have hgA:g < w10.heap.size:=(hB8.ext x910).lt;have s1A:=x1A.size;refine zS qU (hB8.ext (x910.trans x11)) (l:=p11.cells i11) rfl rfl rfl (ha11.now (hT1 (x1A.trans x11))).one λw12 hB12 hc12=>?_;exact ⟨p11,i11,hB12,ha11.chg (rR hc12) hgA s1A,hc12.ext _ (x1A.trans x11) hg⟩
 rintro w4 ⟨p,i,hB,ha,x14⟩ _;refine iO (bO.boxed hB) lF rfl ?_;have hA:=ha.now (hT1 x14);refine BQ (p:=p) (i:=i) hA.at_ hA.nm λa b e w5 he x5=>?_;refine gS.2 (gR.2 ?_);refine wJ KE rfl rfl λb6 w6 _ x6=>?_;have x46:=x5.trans x6;have x16:=x14.trans x46;refine aK.2 (aD (λhz=>?_) λhz=>?_)
 ·have ht:=he.1 hz;refine iO (bO.boxed (hB.ext x46)) lF rfl ?_;refine zI underlying45 qU rfl (by decide) [.agg (p.cells i).toArray] rfl rfl (by intro v hv;rw [List.mem_singleton] at hv;subst hv;rfl) (by decide) (by decide) λv7 w7 ho7 x7=>?_;have s7:=(x1.trans (x16.trans x7)).size;have hone7:([Value.agg (p.cells i).toArray].flatMap λv=>v.cells.toList).all cO=true:=by simpa [Value.cells] using hA.one
  refine apG underlying45 qU rfl (by decide) ((x16.trans x7).own ho) (aA.of_own ho7) hone7 (by omega) (by unfold maxLen;omega) s7 λv8 w8 ho8 hg8 hl8=>?_;have x18:aF w w8:=(x1.trans (x16.trans x7)).grown hg8 λk hk=>(ho.lt k hk).1;refine aU.2 ?_;rw [aC (by omega) (by omega),aR];refine ⟨⟨j+1,l++[(p,i)],rfl,by omega,by omega,by simp;omega,x18,?_,λx hx=>?_⟩,by simp only [aL];omega⟩
  ·have e1:LU (l++[(p,i)])=LU l++([Value.agg (p.cells i).toArray].flatMap λv=>v.cells.toList):=by simp [LU,Value.cells]
   rw [e1,List.length_append];exact ho8
  ·have f8:Fr (λk=>tv.ownBlock=some k) w7 w8:=Fr.of_grown hg8 λk hk=>hk;have x17:=x16.trans x7;have s17:=x17.size
   have f78:∀ {w''},Fr (λk=>v8.ownBlock=some k\/k < w.heap.size) w8 w''->Fr (λk=>tv.ownBlock=some k\/k < w.heap.size) w7 w'':=λf=>(f8.mono λk hk=>.inl hk).trans f λk hk hk'=>by
    rcases hk' with hk'|hk'
    ·rcases hl8 with h8|h8
     ·rw [h8] at hk';exact .inl hk'
     ·rw [h8] at hk';cases hk';omega
    ·exact .inr hk'
   rcases List.mem_append.1 hx with hx|hx
   ·exact ⟨λw'' f hT''=>(hl x hx).1 w'' ((Fr.of_ext x17).trans (f78 f) λ_ _ h=>h) hT'',(hl x hx).2⟩
   ·rw [List.mem_singleton] at hx;subst hx;refine ⟨λw'' f hT''=>ha.ap w'' ((Fr.of_ext (x46.trans x7)).trans ((f78 f).mono λk hk=>?_) λ_ _ h=>h) hT'',ht⟩;have:=x1.size;rcases hk with hk|hk
    ·exact (ho.lt k hk).2
    ·omega
 ·refine aU.2 ?_;rw [aC (by omega) (by omega),aR];exact ⟨⟨j+1,l,rfl,by omega,by omega,by omega,x1.trans x16,x16.own ho,λx hx=>⟨λw'' f hT''=>(hl x hx).1 w'' ((Fr.of_ext x16).trans f λ_ _ h=>h) hT'',(hl x hx).2⟩⟩,by simp only [aL];omega⟩
theorem pY.ext (hb:pY w) (hx:aF w w'):pY w':=λq hq=>by
 obtain ⟨z,hz⟩:=hb q hq;exact ⟨z,hx.cell hz⟩
theorem jC.one {v:Value} {l:List Rw} (h:jC w v l):cO v=true:=by
 obtain ⟨⟨a,c,rfl⟩,_⟩:=h;rfl
def mE (op:Int):Int × Bool:=if op=27\/op=28 then (1,true) else if op=17\/op=18\/op=29 then (2,true) else if op=30\/op=36 then (3,false) else if op=31 then (5,false) else if op=32 then (5,true) else (0,false)
def tM (h n:Nat):List Int:=(List.range n).map λk=>10+((h - n+k:Nat):Int)
def CJ (r:Int) (k:Int):Int:=if r=0 then -1 else 10+k
def jD (i:gN) (m:jH) (x:lC) (h:Nat):Option aJ:=
 if x.op=1 then some (.const (10+(h:Int)) (IntKind.i32.wrap x.a)) else if x.op=2 then some (.move (10+(h:Int)) x.a) else if x.op=3 then some (.move x.a (10+((h:Int) - 1))) else if x.op=4 then none
 else if x.op=5 then some (.move (10+(h:Int)) (10+((h:Int) - 1))) else if x.op=15\/x.op=16\/x.op=26 then some (.un x.op (10+((h:Int) - 1)) (10+((h:Int) - 1)))
 else if x.op=22 then some (.choose (10+((h:Int) - 3)) (10+((h:Int) - 3)) (10+((h:Int) - 2)) (10+((h:Int) - 1))) else if x.op=23 then some (.goto x.a) else if x.op=24 then some (.branch (10+((h:Int) - 1)) x.a)
 else if x.op=25 then some (.const (10+(h:Int)) 0) else if x.op=35 then some (.const (10+(h:Int)) (IntKind.i32.wrap x.a)) else if x.op=33 then some (.getField (10+(h:Int)) x.a) else if x.op=34 then some (.putField x.a (10+((h:Int) - 1)))
 else if x.op=37 then some (.call x.a (CJ (i.meth x.a).result ((h:Int) - (i.meth x.a).params.length)) (tM h (i.meth x.a).params.length))
 else if x.op=38 then some (.callX x.a (CJ (i.imp x.a).result ((h:Int) - (i.imp x.a).params.length)) (tM h (i.imp x.a).params.length))
 else if x.op=39 then some (.ret (CJ m.result ((h:Int) - 1)))
 else if (mE x.op).1≠0 then some (.serve x.op x.a x.b (if (mE x.op).2 then 10+((h:Int) - (mE x.op).1) else -1) (tM h (mE x.op).1.toNat))
 else some (.bin x.op (10+((h:Int) - 2)) (10+((h:Int) - 2)) (10+((h:Int) - 1)))
def jT (B:Nat) (w:World) (v:Value) (n:aJ):Prop:=∃ sv,v=n.val sv/\w.ownsRow B 3 1 sv n.args.length (n.args.map i64)
theorem jT.is {v:Value} (h:jT B w v n):iX w v n:=by
 obtain ⟨sv,h1,h2⟩:=h;exact ⟨sv,h1,aA.of_own h2⟩
theorem jT.fr {v:Value} {S:Nat->Prop} (h:jT B w v n) (f:Fr S w w') (hS:∀ k,B<=k->k < w.heap.size->¬ S k):jT B w' v n:=by
 obtain ⟨sv,h1,h2⟩:=h;exact ⟨sv,h1,f.own h2 λk hk=>hS k (h2.lt k hk).1 (h2.lt k hk).2⟩
def LN (B:Nat) (w:World) (v:Value):Option aJ->Prop
 | none=>v=Value.nilIface
 | some n=>jT B w v n
theorem nW (h:-1000<=k/\k<=1000) (hk:K (i64 (10+k)) w):aB prog 52 #[i64 k] w K:=by
 apply bFc;unfold ZC;refine aU.2 ?_;rw [aC (by omega) (by omega)];exact hk
theorem CI {r:Int} (h:-1000<=k/\k<=1000) (hk:K (i64 (CJ r k)) w):aB prog 53 #[i64 r,i64 k] w K:=by
 apply bFb;unfold ZB;unfold CJ at hk;refine aK.2 (aD (λhe=>?_) λhe=>?_)
 ·rw [if_pos he] at hk;exact hk
 ·rw [if_neg he] at hk;exact nW h hk
theorem aAv {h n j:Nat} (hj:j < n):(tM h n).take (j+1)=(tM h n).take j++[10+((h - n+j:Nat):Int)]:=by
 have hl:(tM h n).length=n:=by simp [tM]
 rw [List.take_add_one]
 congr 1
 simp [tM,hj]
theorem aEf {h n:Nat} (hn:n<=h) (hh:h<=500) (hk:∀ v w',w'.ownsRow w.heap.size 3 1 v (tM h n).length ((tM h n).map i64)->aF w w'->K v w'):aB prog 54 #[i64 h,i64 n] w K:=by
 have hl:(tM h n).length=n:=by simp [tM]
 apply bFa;unfold ZA;refine fQ.2 ?_;rw [aC (by omega) (by omega)];refine ⟨λtv v w'=>∃ j:Nat,v=i64 ((h - n+j:Nat):Int)/\j<=n/\aF w w'/\w'.ownsRow w.heap.size 3 1 tv j (((tM h n).take j).map i64),λ_ v _=>h - (RowKit.intOf v).toNat,⟨0,by congr 1;omega,Nat.zero_le _,aF.refl _,World.ownsRow_nil _ _ _ _⟩,?_⟩;rintro tv _ w1 ⟨j,rfl,hj,x1,ho⟩ _;refine aY.2 (aD (λhlt=>?_) λhge=>?_)
 ·refine nW (by omega) ?_;refine jS bB [i64 (10+((h - n+j:Nat):Int))] rfl rfl (by simp) rfl λv2 w2 ho2 x2=>?_;refine TS bB (x2.own ho) (aA.of_own ho2) rfl (by omega) (by unfold maxLen;omega) (x1.trans x2).size λv3 w3 ho3 hg3=>?_;refine aU.2 ?_;rw [aC (by omega) (by omega),aR];refine ⟨⟨j+1,rfl,by omega,(x1.trans x2).grown hg3 λq hq=>((x2.own ho).lt q hq).1,?_⟩,by simp only [aL];omega⟩;rw [aAv (by omega),List.map_append];exact ho3
 ·have hjn:j=n:=by omega
  subst hjn;refine hk tv w1 ?_ x1;rw [hl];have:=ho;rw [List.take_of_length_le (by omega)] at this;exact this
theorem aAs {op:Int} (hk:K (.tuple #[i64 (mE op).1,.bool (mE op).2]) w):aB prog 105 #[i64 op] w K:=by
 apply aXs;unfold QZ;by_cases c27:op=27
 ·subst c27;simp only [aS,Int.reduceEq,decide_true,decide_false];exact hk
 by_cases c28:op=28
 ·subst c28;simp only [aS,Int.reduceEq,decide_true,decide_false];exact hk
 by_cases c17:op=17
 ·subst c17;simp only [aS,Int.reduceEq,decide_true,decide_false];intros;exact hk
 by_cases c18:op=18
 ·subst c18;simp only [aS,Int.reduceEq,decide_true,decide_false];intros;exact hk
 by_cases c29:op=29
 ·subst c29;simp only [aS,Int.reduceEq,decide_true,decide_false];intros;exact hk
 by_cases c30:op=30
 ·subst c30;simp only [aS,Int.reduceEq,decide_true,decide_false];intros;exact hk
 by_cases c36:op=36
 ·subst c36;simp only [aS,Int.reduceEq,decide_true,decide_false];intros;exact hk
 by_cases c31:op=31
 ·subst c31;simp only [aS,Int.reduceEq,decide_true,decide_false];intros;exact hk
 by_cases c32:op=32
 ·subst c32;simp only [aS,Int.reduceEq,decide_true,decide_false];intros;exact hk
 simp only [c27,c28,c17,c18,c29,c30,c36,c31,c32,aS,decide_false]
 intros
 simp only [mE,c27,c28,c17,c18,c29,c30,c36,c31,c32,or_self,if_false] at hk;exact hk
theorem jA {v:Value} (h:v=n.val aZ) (ha:n.args=[]):jT B w v n:=⟨aZ,h,by rw [ha];exact World.ownsRow_nil _ _ _ _⟩
theorem aNy (op:Int):0<=(mE op).1/\(mE op).1<=5:=by
 unfold mE;split
 ·exact ⟨by decide,by decide⟩
 split
 ·exact ⟨by decide,by decide⟩
 split
 ·exact ⟨by decide,by decide⟩
 split
 ·exact ⟨by decide,by decide⟩
 split
 iterate 2
  ·exact ⟨by decide,by decide⟩
theorem gF {h:Nat} (hn:(mE x.op).1.toNat<=h) (hh:h<=500) (hk:∀ v w',LN w.heap.size w' v (if (mE x.op).1=0 then none else some (.serve x.op x.a x.b (if (mE x.op).2 then 10+((h:Int) - (mE x.op).1) else -1) (tM h (mE x.op).1.toNat)))->aF w w'->K v w') :
  aB prog 55 #[.agg #[i64 x.op,i64 x.a,i64 x.b],i64 h] w K:=by
 have h0:=aNy x.op;apply bEz;unfold YZ;refine bx λb1 w1 hb1 x1=>?_;refine bF hb1 bJ aH rfl (aAs (gS.2 (gR.2 (aK.2 ?_))));by_cases hz:(mE x.op).1=0
 ·simp only [hz,aS,Int.reduceNeg,decide_true];exact hk _ _ (by rw [if_pos hz];rfl) x1
 simp only [hz,aS,Int.reduceNeg,decide_false];rw [if_neg hz] at hk;obtain ⟨n,hn1⟩:∃ n:Nat,(mE x.op).1=n:=⟨(mE x.op).1.toNat,by omega⟩;rw [hn1] at hk hn h0 ⊢;rw [Int.toNat_natCast] at hk hn;refine ⟨λv w'=>v=i64 (if (mE x.op).2 then 10+((h:Int) - (n:Int)) else -1)/\w'=w1,?_,?_⟩
 ·cases h2:(mE x.op).2 with
  | true=>
   refine bK.2 (fQ.2 ?_);rw [aC (by omega) (by omega)];exact nW (by omega) ⟨rfl,rfl⟩
  | false=>exact aP.2 ⟨rfl,rfl⟩
 rintro _ w9 ⟨rfl,hw⟩ _;have hw:=hw.symm;subst hw;have D1:aF w1 w1.drew:=(aF.refl _).drew;refine aM.mk' (λw'=>aF w1 w') D1 ?_;refine jM (λw' hw=>hb1.ext hw) bJ aH rfl (jM (λw' hw=>hb1.ext hw) bE aH rfl (jM (λw' hw=>hb1.ext hw) sZ aH rfl ?_));refine aEf hn hh λv w2 ho x2=>⟨D1.trans x2,?_⟩;refine mY bCs [(0,i64 x.op),(1,i64 x.a),(2,i64 x.b),(3,i64 _),(4,v)] rfl (by simp [jE ho,zW]) (pS bAt ?_);refine hk _ _ ⟨v,rfl,aX ho (x1.trans D1).size⟩ ((x1.trans D1).trans x2)
theorem bAh {p:iP} {row:List Value} {m:jH} {h:Nat} (hA:kK w p i) (hm:lK w row m) (hx:zN i m x) (hh:h<=8) (ha:(aV i m x).length<=h) (hk:∀ v w',LN w.heap.size w' v (jD i m x h)->aF w w'->K v w') :
  aB prog 26 #[p.val i,.agg row.toArray,.agg #[i64 x.op,i64 x.a,i64 x.b],i64 h] w K:=by
 obtain ⟨op,a,b⟩:=x;obtain ⟨ir,mr,⟨ho,a1,a2,_⟩,hn⟩:=hx;obtain ⟨pv,lv,cv,rfl,hp,hl,hc⟩:=hm;have ho:1<=op/\op<=39:=ho;apply bFv;unfold ZT iP.val;refine bx λb4 w1 hb4 x1=>bx λb5 w2 hb5 x2=>bx λb6 w3 hb6 x3=>?_;have hb4:bG w3 b4 [.string i.name,p.fv,p.iv,p.mv,p.xv]:=(hb4.ext x2).ext x3;have hb5:bG w3 b5 [pv,i64 m.result,lv,cv]:=hb5.ext x3;have hb6:bG w3 b6 [i64 op,i64 a,i64 b]:=hb6;have xx:=(x1.trans x2).trans x3;have hA:=hA.ext xx;refine bF hb6 bJ aH rfl ?_;have D1:aF w3 w3.drew:=(aF.refl _).drew;have xd:=xx.trans D1;rcases AM ho with rfl|rfl|rfl|rfl|rfl|rfl|rfl|rfl|rfl|rfl|rfl|rfl|rfl|rfl|rfl|rfl|rfl|rfl|rfl|rfl|rfl|rfl|rfl|rfl|rfl|rfl|rfl|rfl|rfl|rfl|rfl|rfl|rfl|rfl|rfl|rfl|rfl|rfl|rfl
 ·simp only [aS,Int.reduceEq,decide_true,decide_false]
  intros
  refine aM.mk' (λw'=>aF w3 w') D1 ?_;refine jM (λw' hw=>hb6.ext hw) bE aH rfl ?_;refine aE.ok (λw' _=>lL underlying3 underlying21) ?_;refine nW (by omega) ⟨D1,?_⟩;refine mY WX [(0,i64 (10+(h:Int))),(1,i32 (IntKind.i32.wrap a))] rfl rfl (pS VQ ?_);exact hk _ _ (jA rfl rfl) xd
 ·simp only [aS,Int.reduceEq,decide_true,decide_false]
  intros
  refine aM.mk' (λw'=>aF w3 w') D1 ?_;refine jM (λw' hw=>hb6.ext hw) bE aH rfl ?_;refine nW (by omega) ⟨D1,?_⟩;refine mY TO [(0,i64 (10+(h:Int))),(1,i64 a)] rfl rfl (pS IE ?_);exact hk _ _ (jA rfl rfl) xd
 ·simp only [aS,Int.reduceEq,decide_true,decide_false]
  intros
  refine aM.mk' (λw'=>aF w3 w') D1 ?_;refine jM (λw' hw=>hb6.ext hw) bE aH rfl ?_;refine aE.ok (λw' _=>eU) ?_;rw [aC (by omega) (by omega)];refine nW (by omega) ⟨D1,?_⟩;refine mY TO [(0,i64 a),(1,i64 (10+((h:Int) - 1)))] rfl rfl (pS IE ?_);exact hk _ _ (jA rfl rfl) xd
 ·simp only [aS,Int.reduceEq,decide_true,decide_false]
  intros
  exact hk _ _ rfl xx
 ·simp only [aS,Int.reduceEq,decide_true,decide_false]
  intros
  refine nW (by omega) ?_;refine fQ.2 ?_;rw [aC (by omega) (by omega)];refine nW (by omega) ?_;refine pP TO [(0,i64 (10+(h:Int))),(1,i64 (10+((h:Int) - 1)))] rfl rfl (RZ IE ?_);exact hk _ _ (jA rfl rfl) xx
 ·simp only [aS,Int.reduceEq,decide_false]
  intros
  refine iO hb6 iA rfl ?_;refine gF (x:=⟨6,a,b⟩) (show _<=h from Nat.zero_le _) (by omega) λv w4 hv x4=>?_;have hv:v=Value.nilIface:=hv;subst hv;refine V.ok (gU underlying43) (aP.2 ?_);have D4:aF w4 w4.drew:=(aF.refl _).drew;refine aM.mk' (λw'=>aF w4 w') D4 ?_;refine jM (λw' hw=>(hb6.ext x4).ext hw) bJ aH rfl ?_;refine aE.ok (λw' _=>eU) ?_;rw [aC (by omega) (by omega)];refine aE.ok (λw' _=>eU) ?_;rw [aC (by omega) (by omega)];refine aE.ok (λw' _=>eU) ?_;rw [aC (by omega) (by omega)];refine nW (by omega) ⟨D4,?_⟩;refine nW (by omega) ⟨D4,?_⟩;refine nW (by omega) ⟨D4,?_⟩;refine mY pX [(0,i64 6),(1,i64 (10+((h:Int) - 2))),(2,i64 (10+((h:Int) - 2))),(3,i64 (10+((h:Int) - 1)))] rfl rfl (pS oR ?_);exact hk _ _ (jA rfl rfl) ((xx.trans x4).trans D4)
 ·simp only [aS,Int.reduceEq,decide_false]
  intros
  refine iO hb6 iA rfl ?_;refine gF (x:=⟨7,a,b⟩) (show _<=h from Nat.zero_le _) (by omega) λv w4 hv x4=>?_;have hv:v=Value.nilIface:=hv;subst hv;refine V.ok (gU underlying43) (aP.2 ?_);have D4:aF w4 w4.drew:=(aF.refl _).drew;refine aM.mk' (λw'=>aF w4 w') D4 ?_;refine jM (λw' hw=>(hb6.ext x4).ext hw) bJ aH rfl ?_;refine aE.ok (λw' _=>eU) ?_;rw [aC (by omega) (by omega)];refine aE.ok (λw' _=>eU) ?_;rw [aC (by omega) (by omega)];refine aE.ok (λw' _=>eU) ?_;rw [aC (by omega) (by omega)];refine nW (by omega) ⟨D4,?_⟩;refine nW (by omega) ⟨D4,?_⟩;refine nW (by omega) ⟨D4,?_⟩;refine mY pX [(0,i64 7),(1,i64 (10+((h:Int) - 2))),(2,i64 (10+((h:Int) - 2))),(3,i64 (10+((h:Int) - 1)))] rfl rfl (pS oR ?_);exact hk _ _ (jA rfl rfl) ((xx.trans x4).trans D4)
 ·simp only [aS,Int.reduceEq,decide_false]
  intros
  refine iO hb6 iA rfl ?_;refine gF (x:=⟨8,a,b⟩) (show _<=h from Nat.zero_le _) (by omega) λv w4 hv x4=>?_;have hv:v=Value.nilIface:=hv;subst hv;refine V.ok (gU underlying43) (aP.2 ?_);have D4:aF w4 w4.drew:=(aF.refl _).drew;refine aM.mk' (λw'=>aF w4 w') D4 ?_;refine jM (λw' hw=>(hb6.ext x4).ext hw) bJ aH rfl ?_;refine aE.ok (λw' _=>eU) ?_;rw [aC (by omega) (by omega)];refine aE.ok (λw' _=>eU) ?_;rw [aC (by omega) (by omega)];refine aE.ok (λw' _=>eU) ?_;rw [aC (by omega) (by omega)];refine nW (by omega) ⟨D4,?_⟩;refine nW (by omega) ⟨D4,?_⟩;refine nW (by omega) ⟨D4,?_⟩;refine mY pX [(0,i64 8),(1,i64 (10+((h:Int) - 2))),(2,i64 (10+((h:Int) - 2))),(3,i64 (10+((h:Int) - 1)))] rfl rfl (pS oR ?_);exact hk _ _ (jA rfl rfl) ((xx.trans x4).trans D4)
 ·simp only [aS,Int.reduceEq,decide_false]
  intros
  refine iO hb6 iA rfl ?_;refine gF (x:=⟨9,a,b⟩) (show _<=h from Nat.zero_le _) (by omega) λv w4 hv x4=>?_;have hv:v=Value.nilIface:=hv;subst hv;refine V.ok (gU underlying43) (aP.2 ?_);have D4:aF w4 w4.drew:=(aF.refl _).drew;refine aM.mk' (λw'=>aF w4 w') D4 ?_;refine jM (λw' hw=>(hb6.ext x4).ext hw) bJ aH rfl ?_;refine aE.ok (λw' _=>eU) ?_;rw [aC (by omega) (by omega)];refine aE.ok (λw' _=>eU) ?_;rw [aC (by omega) (by omega)];refine aE.ok (λw' _=>eU) ?_;rw [aC (by omega) (by omega)];refine nW (by omega) ⟨D4,?_⟩;refine nW (by omega) ⟨D4,?_⟩;refine nW (by omega) ⟨D4,?_⟩;refine mY pX [(0,i64 9),(1,i64 (10+((h:Int) - 2))),(2,i64 (10+((h:Int) - 2))),(3,i64 (10+((h:Int) - 1)))] rfl rfl (pS oR ?_);exact hk _ _ (jA rfl rfl) ((xx.trans x4).trans D4)
 ·simp only [aS,Int.reduceEq,decide_false]
  intros
  refine iO hb6 iA rfl ?_;refine gF (x:=⟨10,a,b⟩) (show _<=h from Nat.zero_le _) (by omega) λv w4 hv x4=>?_;have hv:v=Value.nilIface:=hv;subst hv;refine V.ok (gU underlying43) (aP.2 ?_);have D4:aF w4 w4.drew:=(aF.refl _).drew;refine aM.mk' (λw'=>aF w4 w') D4 ?_;refine jM (λw' hw=>(hb6.ext x4).ext hw) bJ aH rfl ?_;refine aE.ok (λw' _=>eU) ?_;rw [aC (by omega) (by omega)];refine aE.ok (λw' _=>eU) ?_;rw [aC (by omega) (by omega)];refine aE.ok (λw' _=>eU) ?_;rw [aC (by omega) (by omega)];refine nW (by omega) ⟨D4,?_⟩;refine nW (by omega) ⟨D4,?_⟩;refine nW (by omega) ⟨D4,?_⟩;refine mY pX [(0,i64 10),(1,i64 (10+((h:Int) - 2))),(2,i64 (10+((h:Int) - 2))),(3,i64 (10+((h:Int) - 1)))] rfl rfl (pS oR ?_);exact hk _ _ (jA rfl rfl) ((xx.trans x4).trans D4)
 ·simp only [aS,Int.reduceEq,decide_false]
  intros
  refine iO hb6 iA rfl ?_;refine gF (x:=⟨11,a,b⟩) (show _<=h from Nat.zero_le _) (by omega) λv w4 hv x4=>?_;have hv:v=Value.nilIface:=hv;subst hv;refine V.ok (gU underlying43) (aP.2 ?_);have D4:aF w4 w4.drew:=(aF.refl _).drew;refine aM.mk' (λw'=>aF w4 w') D4 ?_;refine jM (λw' hw=>(hb6.ext x4).ext hw) bJ aH rfl ?_;refine aE.ok (λw' _=>eU) ?_;rw [aC (by omega) (by omega)];refine aE.ok (λw' _=>eU) ?_;rw [aC (by omega) (by omega)];refine aE.ok (λw' _=>eU) ?_;rw [aC (by omega) (by omega)];refine nW (by omega) ⟨D4,?_⟩;refine nW (by omega) ⟨D4,?_⟩;refine nW (by omega) ⟨D4,?_⟩;refine mY pX [(0,i64 11),(1,i64 (10+((h:Int) - 2))),(2,i64 (10+((h:Int) - 2))),(3,i64 (10+((h:Int) - 1)))] rfl rfl (pS oR ?_);exact hk _ _ (jA rfl rfl) ((xx.trans x4).trans D4)
 ·simp only [aS,Int.reduceEq,decide_false]
  intros
  refine iO hb6 iA rfl ?_;refine gF (x:=⟨12,a,b⟩) (show _<=h from Nat.zero_le _) (by omega) λv w4 hv x4=>?_;have hv:v=Value.nilIface:=hv;subst hv;refine V.ok (gU underlying43) (aP.2 ?_);have D4:aF w4 w4.drew:=(aF.refl _).drew;refine aM.mk' (λw'=>aF w4 w') D4 ?_;refine jM (λw' hw=>(hb6.ext x4).ext hw) bJ aH rfl ?_;refine aE.ok (λw' _=>eU) ?_;rw [aC (by omega) (by omega)];refine aE.ok (λw' _=>eU) ?_;rw [aC (by omega) (by omega)];refine aE.ok (λw' _=>eU) ?_;rw [aC (by omega) (by omega)];refine nW (by omega) ⟨D4,?_⟩;refine nW (by omega) ⟨D4,?_⟩;refine nW (by omega) ⟨D4,?_⟩;refine mY pX [(0,i64 12),(1,i64 (10+((h:Int) - 2))),(2,i64 (10+((h:Int) - 2))),(3,i64 (10+((h:Int) - 1)))] rfl rfl (pS oR ?_);exact hk _ _ (jA rfl rfl) ((xx.trans x4).trans D4)
 ·simp only [aS,Int.reduceEq,decide_false]
  intros
  refine iO hb6 iA rfl ?_;refine gF (x:=⟨13,a,b⟩) (show _<=h from Nat.zero_le _) (by omega) λv w4 hv x4=>?_;have hv:v=Value.nilIface:=hv;subst hv;refine V.ok (gU underlying43) (aP.2 ?_);have D4:aF w4 w4.drew:=(aF.refl _).drew;refine aM.mk' (λw'=>aF w4 w') D4 ?_;refine jM (λw' hw=>(hb6.ext x4).ext hw) bJ aH rfl ?_;refine aE.ok (λw' _=>eU) ?_;rw [aC (by omega) (by omega)];refine aE.ok (λw' _=>eU) ?_;rw [aC (by omega) (by omega)];refine aE.ok (λw' _=>eU) ?_;rw [aC (by omega) (by omega)];refine nW (by omega) ⟨D4,?_⟩;refine nW (by omega) ⟨D4,?_⟩;refine nW (by omega) ⟨D4,?_⟩;refine mY pX [(0,i64 13),(1,i64 (10+((h:Int) - 2))),(2,i64 (10+((h:Int) - 2))),(3,i64 (10+((h:Int) - 1)))] rfl rfl (pS oR ?_);exact hk _ _ (jA rfl rfl) ((xx.trans x4).trans D4)
 ·simp only [aS,Int.reduceEq,decide_false]
  intros
  refine iO hb6 iA rfl ?_;refine gF (x:=⟨14,a,b⟩) (show _<=h from Nat.zero_le _) (by omega) λv w4 hv x4=>?_;have hv:v=Value.nilIface:=hv;subst hv;refine V.ok (gU underlying43) (aP.2 ?_);have D4:aF w4 w4.drew:=(aF.refl _).drew;refine aM.mk' (λw'=>aF w4 w') D4 ?_;refine jM (λw' hw=>(hb6.ext x4).ext hw) bJ aH rfl ?_;refine aE.ok (λw' _=>eU) ?_;rw [aC (by omega) (by omega)];refine aE.ok (λw' _=>eU) ?_;rw [aC (by omega) (by omega)];refine aE.ok (λw' _=>eU) ?_;rw [aC (by omega) (by omega)];refine nW (by omega) ⟨D4,?_⟩;refine nW (by omega) ⟨D4,?_⟩;refine nW (by omega) ⟨D4,?_⟩;refine mY pX [(0,i64 14),(1,i64 (10+((h:Int) - 2))),(2,i64 (10+((h:Int) - 2))),(3,i64 (10+((h:Int) - 1)))] rfl rfl (pS oR ?_);exact hk _ _ (jA rfl rfl) ((xx.trans x4).trans D4)
 ·simp only [aS,Int.reduceEq,decide_true,decide_false]
  intros
  refine aM.mk' (λw'=>aF w3 w') D1 ?_;refine jM (λw' hw=>hb6.ext hw) bJ aH rfl ?_;refine aE.ok (λw' _=>eU) ?_;rw [aC (by omega) (by omega)];refine aE.ok (λw' _=>eU) ?_;rw [aC (by omega) (by omega)];refine nW (by omega) ⟨D1,?_⟩;refine nW (by omega) ⟨D1,?_⟩;refine mY TN [(0,i64 15),(1,i64 (10+((h:Int) - 1))),(2,i64 (10+((h:Int) - 1)))] rfl rfl (pS ID ?_);exact hk _ _ (jA rfl rfl) xd
 ·simp only [aS,Int.reduceEq,decide_true,decide_false]
  intros
  refine aM.mk' (λw'=>aF w3 w') D1 ?_;refine jM (λw' hw=>hb6.ext hw) bJ aH rfl ?_;refine aE.ok (λw' _=>eU) ?_;rw [aC (by omega) (by omega)];refine aE.ok (λw' _=>eU) ?_;rw [aC (by omega) (by omega)];refine nW (by omega) ⟨D1,?_⟩;refine nW (by omega) ⟨D1,?_⟩;refine mY TN [(0,i64 16),(1,i64 (10+((h:Int) - 1))),(2,i64 (10+((h:Int) - 1)))] rfl rfl (pS ID ?_);exact hk _ _ (jA rfl rfl) xd
 ·simp only [aS,Int.reduceEq,decide_false]
  intros
  refine iO hb6 iA rfl ?_;refine gF (x:=⟨17,a,b⟩) (show _<=h from ha) (by omega) λv w4 hv x4=>?_;obtain ⟨sv,rfl,hsv⟩:=(hv:jT w3.heap.size w4 v _);refine V.ok (gJ underlying43) (bK.2 ?_);exact hk _ _ ⟨sv,rfl,aX hsv xx.size⟩ (xx.trans x4)
 ·simp only [aS,Int.reduceEq,decide_false]
  intros
  refine iO hb6 iA rfl ?_;refine gF (x:=⟨18,a,b⟩) (show _<=h from ha) (by omega) λv w4 hv x4=>?_;obtain ⟨sv,rfl,hsv⟩:=(hv:jT w3.heap.size w4 v _);refine V.ok (gJ underlying43) (bK.2 ?_);exact hk _ _ ⟨sv,rfl,aX hsv xx.size⟩ (xx.trans x4)
 ·simp only [aS,Int.reduceEq,decide_false]
  intros
  refine iO hb6 iA rfl ?_;refine gF (x:=⟨19,a,b⟩) (show _<=h from Nat.zero_le _) (by omega) λv w4 hv x4=>?_;have hv:v=Value.nilIface:=hv;subst hv;refine V.ok (gU underlying43) (aP.2 ?_);have D4:aF w4 w4.drew:=(aF.refl _).drew;refine aM.mk' (λw'=>aF w4 w') D4 ?_;refine jM (λw' hw=>(hb6.ext x4).ext hw) bJ aH rfl ?_;refine aE.ok (λw' _=>eU) ?_;rw [aC (by omega) (by omega)];refine aE.ok (λw' _=>eU) ?_;rw [aC (by omega) (by omega)];refine aE.ok (λw' _=>eU) ?_;rw [aC (by omega) (by omega)];refine nW (by omega) ⟨D4,?_⟩;refine nW (by omega) ⟨D4,?_⟩;refine nW (by omega) ⟨D4,?_⟩;refine mY pX [(0,i64 19),(1,i64 (10+((h:Int) - 2))),(2,i64 (10+((h:Int) - 2))),(3,i64 (10+((h:Int) - 1)))] rfl rfl (pS oR ?_);exact hk _ _ (jA rfl rfl) ((xx.trans x4).trans D4)
 ·simp only [aS,Int.reduceEq,decide_false]
  intros
  refine iO hb6 iA rfl ?_;refine gF (x:=⟨20,a,b⟩) (show _<=h from Nat.zero_le _) (by omega) λv w4 hv x4=>?_;have hv:v=Value.nilIface:=hv;subst hv;refine V.ok (gU underlying43) (aP.2 ?_);have D4:aF w4 w4.drew:=(aF.refl _).drew;refine aM.mk' (λw'=>aF w4 w') D4 ?_;refine jM (λw' hw=>(hb6.ext x4).ext hw) bJ aH rfl ?_;refine aE.ok (λw' _=>eU) ?_;rw [aC (by omega) (by omega)];refine aE.ok (λw' _=>eU) ?_;rw [aC (by omega) (by omega)];refine aE.ok (λw' _=>eU) ?_;rw [aC (by omega) (by omega)];refine nW (by omega) ⟨D4,?_⟩;refine nW (by omega) ⟨D4,?_⟩;refine nW (by omega) ⟨D4,?_⟩;refine mY pX [(0,i64 20),(1,i64 (10+((h:Int) - 2))),(2,i64 (10+((h:Int) - 2))),(3,i64 (10+((h:Int) - 1)))] rfl rfl (pS oR ?_);exact hk _ _ (jA rfl rfl) ((xx.trans x4).trans D4)
 ·simp only [aS,Int.reduceEq,decide_false]
  intros
  refine iO hb6 iA rfl ?_;refine gF (x:=⟨21,a,b⟩) (show _<=h from Nat.zero_le _) (by omega) λv w4 hv x4=>?_;have hv:v=Value.nilIface:=hv;subst hv;refine V.ok (gU underlying43) (aP.2 ?_);have D4:aF w4 w4.drew:=(aF.refl _).drew;refine aM.mk' (λw'=>aF w4 w') D4 ?_;refine jM (λw' hw=>(hb6.ext x4).ext hw) bJ aH rfl ?_;refine aE.ok (λw' _=>eU) ?_;rw [aC (by omega) (by omega)];refine aE.ok (λw' _=>eU) ?_;rw [aC (by omega) (by omega)];refine aE.ok (λw' _=>eU) ?_;rw [aC (by omega) (by omega)];refine nW (by omega) ⟨D4,?_⟩;refine nW (by omega) ⟨D4,?_⟩;refine nW (by omega) ⟨D4,?_⟩;refine mY pX [(0,i64 21),(1,i64 (10+((h:Int) - 2))),(2,i64 (10+((h:Int) - 2))),(3,i64 (10+((h:Int) - 1)))] rfl rfl (pS oR ?_);exact hk _ _ (jA rfl rfl) ((xx.trans x4).trans D4)
 ·simp only [aS,Int.reduceEq,decide_true,decide_false]
  intros
  refine fQ.2 ?_;rw [aC (by omega) (by omega)];refine nW (by omega) ?_;refine fQ.2 ?_;rw [aC (by omega) (by omega)];refine nW (by omega) ?_;refine fQ.2 ?_;rw [aC (by omega) (by omega)];refine nW (by omega) ?_;refine fQ.2 ?_;rw [aC (by omega) (by omega)];refine nW (by omega) ?_;refine pP bCx [(0,i64 (10+((h:Int) - 3))),(1,i64 (10+((h:Int) - 3))),(2,i64 (10+((h:Int) - 2))),(3,i64 (10+((h:Int) - 1)))] rfl rfl (RZ aFu ?_);exact hk _ _ (jA rfl rfl) xx
 ·simp only [aS,Int.reduceEq,decide_true,decide_false]
  intros
  refine bF hb6 bE aH rfl ?_;refine pP bCw [(0,i64 a)] rfl rfl (RZ aFt ?_);exact hk _ _ (jA rfl rfl) xx
 ·simp only [aS,Int.reduceEq,decide_true,decide_false]
  intros
  refine aM.mk' (λw'=>aF w3 w') D1 ?_;refine aE.ok (λw' _=>eU) ?_;rw [aC (by omega) (by omega)];refine jM (λw' hw=>hb6.ext hw) bE aH rfl ?_;refine nW (by omega) ⟨D1,?_⟩;refine mY bCv [(0,i64 (10+((h:Int) - 1))),(1,i64 a)] rfl rfl (pS SB ?_);exact hk _ _ (jA rfl rfl) xd
 ·simp only [aS,Int.reduceEq,decide_true,decide_false]
  intros
  refine nW (by omega) ?_;refine pP WX [(0,i64 (10+(h:Int)))] rfl rfl (RZ VQ ?_);exact hk _ _ (jA rfl rfl) xx
 ·simp only [aS,Int.reduceEq,decide_true,decide_false]
  intros
  refine aM.mk' (λw'=>aF w3 w') D1 ?_;refine jM (λw' hw=>hb6.ext hw) bJ aH rfl ?_;refine aE.ok (λw' _=>eU) ?_;rw [aC (by omega) (by omega)];refine aE.ok (λw' _=>eU) ?_;rw [aC (by omega) (by omega)];refine nW (by omega) ⟨D1,?_⟩;refine nW (by omega) ⟨D1,?_⟩;refine mY TN [(0,i64 26),(1,i64 (10+((h:Int) - 1))),(2,i64 (10+((h:Int) - 1)))] rfl rfl (pS ID ?_);exact hk _ _ (jA rfl rfl) xd
 ·simp only [aS,Int.reduceEq,decide_false]
  intros
  refine iO hb6 iA rfl ?_;refine gF (x:=⟨27,a,b⟩) (show _<=h from ha) (by omega) λv w4 hv x4=>?_;obtain ⟨sv,rfl,hsv⟩:=(hv:jT w3.heap.size w4 v _);refine V.ok (gJ underlying43) (bK.2 ?_);exact hk _ _ ⟨sv,rfl,aX hsv xx.size⟩ (xx.trans x4)
 ·simp only [aS,Int.reduceEq,decide_false]
  intros
  refine iO hb6 iA rfl ?_;refine gF (x:=⟨28,a,b⟩) (show _<=h from ha) (by omega) λv w4 hv x4=>?_;obtain ⟨sv,rfl,hsv⟩:=(hv:jT w3.heap.size w4 v _);refine V.ok (gJ underlying43) (bK.2 ?_);exact hk _ _ ⟨sv,rfl,aX hsv xx.size⟩ (xx.trans x4)
 ·simp only [aS,Int.reduceEq,decide_false]
  intros
  refine iO hb6 iA rfl ?_;refine gF (x:=⟨29,a,b⟩) (show _<=h from ha) (by omega) λv w4 hv x4=>?_;obtain ⟨sv,rfl,hsv⟩:=(hv:jT w3.heap.size w4 v _);refine V.ok (gJ underlying43) (bK.2 ?_);exact hk _ _ ⟨sv,rfl,aX hsv xx.size⟩ (xx.trans x4)
 ·simp only [aS,Int.reduceEq,decide_false]
  intros
  refine iO hb6 iA rfl ?_;refine gF (x:=⟨30,a,b⟩) (show _<=h from ha) (by omega) λv w4 hv x4=>?_;obtain ⟨sv,rfl,hsv⟩:=(hv:jT w3.heap.size w4 v _);refine V.ok (gJ underlying43) (bK.2 ?_);exact hk _ _ ⟨sv,rfl,aX hsv xx.size⟩ (xx.trans x4)
 ·simp only [aS,Int.reduceEq,decide_false]
  intros
  refine iO hb6 iA rfl ?_;refine gF (x:=⟨31,a,b⟩) (show _<=h from ha) (by omega) λv w4 hv x4=>?_;obtain ⟨sv,rfl,hsv⟩:=(hv:jT w3.heap.size w4 v _);refine V.ok (gJ underlying43) (bK.2 ?_);exact hk _ _ ⟨sv,rfl,aX hsv xx.size⟩ (xx.trans x4)
 ·simp only [aS,Int.reduceEq,decide_false]
  intros
  refine iO hb6 iA rfl ?_;refine gF (x:=⟨32,a,b⟩) (show _<=h from ha) (by omega) λv w4 hv x4=>?_;obtain ⟨sv,rfl,hsv⟩:=(hv:jT w3.heap.size w4 v _);refine V.ok (gJ underlying43) (bK.2 ?_);exact hk _ _ ⟨sv,rfl,aX hsv xx.size⟩ (xx.trans x4)
 ·simp only [aS,Int.reduceEq,decide_true,decide_false]
  intros
  refine aM.mk' (λw'=>aF w3 w') D1 ?_;refine jM (λw' hw=>hb6.ext hw) bE aH rfl ?_;refine nW (by omega) ⟨D1,?_⟩;refine mY bCu [(0,i64 (10+(h:Int))),(1,i64 a)] rfl rfl (pS bAu ?_);exact hk _ _ (jA rfl rfl) xd
 ·simp only [aS,Int.reduceEq,decide_true,decide_false]
  intros
  refine aM.mk' (λw'=>aF w3 w') D1 ?_;refine jM (λw' hw=>hb6.ext hw) bE aH rfl ?_;refine aE.ok (λw' _=>eU) ?_;rw [aC (by omega) (by omega)];refine nW (by omega) ⟨D1,?_⟩;refine mY bCt [(0,i64 a),(1,i64 (10+((h:Int) - 1)))] rfl rfl (pS aFs ?_);exact hk _ _ (jA rfl rfl) xd
 ·simp only [aS,Int.reduceEq,decide_true,decide_false]
  intros
  refine aM.mk' (λw'=>aF w3 w') D1 ?_;refine jM (λw' hw=>hb6.ext hw) bE aH rfl ?_;refine aE.ok (λw' _=>lL underlying3 underlying21) ?_;refine nW (by omega) ⟨D1,?_⟩;refine mY WX [(0,i64 (10+(h:Int))),(1,i32 (IntKind.i32.wrap a))] rfl rfl (pS VQ ?_);exact hk _ _ (jA rfl rfl) xd
 ·simp only [aS,Int.reduceEq,decide_false]
  intros
  refine iO hb6 iA rfl ?_;refine gF (x:=⟨36,a,b⟩) (show _<=h from ha) (by omega) λv w4 hv x4=>?_;obtain ⟨sv,rfl,hsv⟩:=(hv:jT w3.heap.size w4 v _);refine V.ok (gJ underlying43) (bK.2 ?_);exact hk _ _ ⟨sv,rfl,aX hsv xx.size⟩ (xx.trans x4)
 ·simp only [aS,Int.reduceEq,decide_true,decide_false]
  intros
  have a1:0<=a:=a1;have hn:a < (i.methods.length:Int):=hn;have ha:(i.meth a).params.length<=h:=ha;refine bF hb4 bP dM rfl (bF hb6 bE aH rfl ?_);obtain ⟨ka,rfl⟩:∃ ka:Nat,a=ka:=⟨a.toNat,by omega⟩;have hmi:=gM a1 hn;rw [Int.toNat_natCast] at hmi;refine ldS iQ oB hA.mt hmi rC λrow hrow=>?_;obtain ⟨pv9,lv9,cv9,rfl,hp9,_,_⟩:=hrow;obtain ⟨a7,c7,rfl⟩:=hp9.shape
  rename_i hl9 hc9
  obtain ⟨a8,c8,rfl⟩:=hl9.shape;obtain ⟨a9,c9,rfl⟩:=aA.shape hc9;refine wJ FN rfl rfl λb9 w9 hb9 x9=>?_;have hb9:bG w9 b9 [.slice a7 (i.meth (ka:Int)).params.length c7,i64 (i.meth (ka:Int)).result,.slice a8 (i.meth (ka:Int)).locals.length c8,.slice a9 (i.meth (ka:Int)).code.length c9]:=hb9;have D9:aF w9 w9.drew:=(aF.refl _).drew;have xd9:=(xx.trans x9).trans D9;have hp9:=(hp9.ext x9).ext D9;refine aM.mk' (λw'=>aF w9 w') D9 ?_;refine jM (λw' hw=>(hb6.ext x9).ext hw) bE aH rfl ?_;refine jM (λw' hw=>hb9.ext hw) fS aH rfl ?_;refine jM (λw' hw=>hb9.ext hw) dL bD rfl (rA aQ hp9 ?_);refine aE.ok (λw' _=>eU) ?_;rw [aC (by omega) (by omega)];refine jM (λw' hw=>hb9.ext hw) dL bD rfl (rA aQ hp9 ?_);refine CI (by omega) ⟨D9,?_⟩;refine aEf ha (by omega) λv w10 ho10 x10=>⟨D9.trans x10,?_⟩;refine mY bCr [(0,i64 (ka:Nat)),(1,i64 _),(2,v)] rfl (by simp [jE ho10,zW]) (pS bAs ?_);exact hk _ _ ⟨v,rfl,aX ho10 xd9.size⟩ (xd9.trans x10)
 ·simp only [aS,Int.reduceEq,decide_true,decide_false]
  intros
  have a1:0<=a:=a1;have hn:a < (i.imports.length:Int):=hn;have ha:(i.imp a).params.length<=h:=ha;refine bF hb4 fG iC rfl (bF hb6 bE aH rfl ?_);obtain ⟨ka,rfl⟩:∃ ka:Nat,a=ka:=⟨a.toNat,by omega⟩;have hmi:=sX a1 hn;rw [Int.toNat_natCast] at hmi;refine ldS nK IL hA.im hmi BA λrow hrow=>?_;obtain ⟨pv9,rfl,hp9⟩:=hrow;obtain ⟨a7,c7,rfl⟩:=hp9.shape;refine wJ aEa rfl rfl λb9 w9 hb9 x9=>?_;have hb9:bG w9 b9 [.string (i.imp (ka:Int)).name,i64 (i.imp (ka:Int)).exp,.slice a7 (i.imp (ka:Int)).params.length c7,i64 (i.imp (ka:Int)).result]:=hb9;have D9:aF w9 w9.drew:=(aF.refl _).drew;have xd9:=(xx.trans x9).trans D9;have hp9:=(hp9.ext x9).ext D9;refine aM.mk' (λw'=>aF w9 w') D9 ?_;refine jM (λw' hw=>(hb6.ext x9).ext hw) bE aH rfl ?_;refine jM (λw' hw=>hb9.ext hw) cB aH rfl ?_;refine jM (λw' hw=>hb9.ext hw) bW bD rfl (rA aQ hp9 ?_);refine aE.ok (λw' _=>eU) ?_;rw [aC (by omega) (by omega)];refine jM (λw' hw=>hb9.ext hw) bW bD rfl (rA aQ hp9 ?_);refine CI (by omega) ⟨D9,?_⟩;refine aEf ha (by omega) λv w10 ho10 x10=>⟨D9.trans x10,?_⟩;refine mY bCq [(0,i64 (ka:Nat)),(1,i64 _),(2,v)] rfl (by simp [jE ho10,zW]) (pS bAr ?_);exact hk _ _ ⟨v,rfl,aX ho10 xd9.size⟩ (xd9.trans x10)
 ·simp only [aS,Int.reduceEq,decide_true,decide_false]
  intros
  refine bF hb5 fS aH rfl ?_;refine fQ.2 ?_;rw [aC (by omega) (by omega)];refine CI (by omega) ?_;refine pP bCp [(0,i64 _)] rfl rfl (RZ bAq ?_);exact hk _ _ (jA rfl rfl) xx
def yD (st:List Int):aJ->aJ
 | .goto t=>.goto (cE st t.toNat)
 | .branch c t=>.branch c (cE st t.toNat)
 | n=>n
def XG (st:List Int):aJ->Prop
 | .goto t=>0<=t/\t < st.length
 | .branch _ t=>0<=t/\t < st.length
 | _=>True
theorem aQl {av sv:Value} {st:List Int} (hs:aN w sv st) (hb:XG st n) (hk:∀ w',aF w w'->K ((yD st n).val av) w'):aB prog 27 #[n.val av,sv] w K:=by
 apply bFu;unfold yM
 have other:∀ {t:Nat} {c:Array Value},t≠115->t≠117->n.val av=.iface t (.agg c)->yD st n=n->yM (n.val av) sv w K:=λh1 h2 he h3=>by
  unfold yM;rw [he];refine tm gE h1 λ_ _ _=>?_;refine tm gO h2 λ_ _ _=>?_;rw [h3,he] at hk;exact hk _ (aF.refl _)
 unfold yM at other;cases n with
 | goto t=>
  obtain ⟨h0,h1⟩:=hb;refine th gE ?_;refine sI tT rfl rfl λw1 hB x1=>?_;have hB:bO w1 w.heap.size [i64 t] 115:=hB;refine bF (bO.boxed hB) bT aH rfl ?_;obtain ⟨t,rfl⟩:∃ q:Nat,t=q:=⟨t.toNat,by omega⟩;refine lV aQ aH (hs.ext x1) (by omega) (by omega) (cG (lH (by omega))) ?_;refine FK bT bY hB (n:=1) rfl (by decide) rfl ?_;have hB2:=hB.set 0 (i64 (cE st t));have x2:aF w (w1.setCell ⟨w.heap.size,0,none⟩ (i64 (cE st t))):=x1.setCell (Nat.le_refl _) _;generalize w1.setCell ⟨w.heap.size,0,none⟩ (i64 (cE st t))=w2 at hB2 x2;refine iO (bO.boxed hB2) bBc rfl (RZ aFt ?_);exact hk _ x2
 | branch c t=>
  obtain ⟨h0,h1⟩:=hb;refine tm gE (by decide) λ_ _ _=>?_;refine th gO ?_;refine sI tS rfl rfl λw1 hB x1=>?_;have hB:bO w1 w.heap.size [i64 c,i64 t] 117:=hB;refine bF (bO.boxed hB) bS aH rfl ?_;obtain ⟨t,rfl⟩:∃ q:Nat,t=q:=⟨t.toNat,by omega⟩;refine lV aQ aH (hs.ext x1) (by omega) (by omega) (cG (lH (by omega))) ?_;refine FK bS bY hB (n:=2) rfl (by decide) rfl ?_;have hB2:=hB.set 1 (i64 (cE st t));have x2:aF w (w1.setCell ⟨w.heap.size,1,none⟩ (i64 (cE st t))):=x1.setCell (Nat.le_refl _) _;generalize w1.setCell ⟨w.heap.size,1,none⟩ (i64 (cE st t))=w2 at hB2 x2;refine iO (bO.boxed hB2) aGh rfl (RZ SB ?_);exact hk _ x2
 | _=>exact other (by decide) (by decide) rfl rfl
end Go.Proofs.YtjcmcfidblhnnaaGreatDoor
namespace Go.Tc
def cf (r:List Bool):Nat:=r.countP (· == false)
theorem bCi {r:List Bool} {k:Nat} (hk:k < r.length) (h:r.getD k false=false):cf (r.set k true)+1=cf r:=by
 have e:r[k]=false:=by
  rw [List.getD_eq_getElem?_getD,List.getElem?_eq_getElem hk] at h;exact h
 have h1:0 < r.countP (· == false):=List.countP_pos_iff.2 ⟨r[k],List.getElem_mem hk,by rw [e];rfl⟩
 have h2:(r.set k true).countP (· == false)=r.countP (· == false) - 1+0:=by
  rw [List.countP_set hk,e];rfl
 unfold cf;omega
def aFb (x:lC) (pc:Nat):List Int:=(if x.op=23\/x.op=24 then [x.a] else [])++(if x.op≠23/\x.op≠39 then [(pc:Int)+1] else [])
theorem aFa {x:lC} {pc:Nat} {t:Int}:t∈aFb x pc↔t∈fB x pc:=by
 unfold aFb fB;by_cases c1:x.op=23
 ·simp [c1]
 by_cases c2:x.op=24
 ·simp [c2];exact Or.comm
 by_cases c3:x.op=39
 ·simp [c3]
 ·simp [c1,c2,c3]
end Go.Tc
namespace Go.Proofs.YtjcmcfidblhnnaaGreatDoor
open Tryz
open Go.Vc Go.Tc
variable {w:World} {K:Value->World->Prop}
variable {i:gN} {m:jH} {k np:Int} {nv tv:Value} {x:lC} {p:iP} {α:Type}
structure AJ (i:gN) (m:jH) (st:St) (l:List Int) (r:List Bool):Prop where
 rl:r.length=m.code.length
 ls:∀ t∈l,0<=t/\t < m.code.length/\st.h t.toNat=true
 rs:∀ k,r.getD k false=true->st.h k=true
 z:r.getD 0 false=true\/(0:Int)∈l
 cl:∀ k,r.getD k false=true->∀ to∈fB (m.ins k) k,r.getD to.toNat false=true\/to∈l
 bd:3*cf r+l.length<=3*m.code.length+1
structure Rm (gr:Nat) (w3 w:World) (v:Value) (l:List Int) (r:List Bool):Prop where
 own:w.ownsRow (gr+1) 3 1 v l.length (l.map i64)
 sh:∃ a c,v=.slice (some ⟨a,0,none⟩) l.length c
 blk:bO w gr (r.map .bool) 4
 fr:Fr (λk=>gr<=k) w3 w
theorem Rm.ext {gr:Nat} {w3 w':World} {v:Value} {l:List Int} {r:List Bool} (h:Rm gr w3 w v l r) (hx:aF w w'):Rm gr w3 w' v l r:=⟨hx.own h.own,h.sh,h.blk.ext hx,h.fr.trans (Fr.of_ext hx) λ_ _ h=>h⟩
theorem Rm.push {gr:Nat} {w3:World} {v:Value} {l:List Int} {r:List Bool} {t:Int} (h:Rm gr w3 w v l r) (hl:l.length<=100000) (hk:∀ v' w',Rm gr w3 w' v' (l++[t]) r->Fr (λk=>v.ownBlock=some k) w w'->K v' w') :
  V prog (Instr.buildSlice 23 1 #[(0,i64 t)]) w λu w1=>V prog (Builtin.append_ #[23,23] 23 #[v,u]) w1 K:=by
 refine jS bB [i64 t] rfl rfl (by simp) rfl λu w1 ho1 x1=>?_;have h1:=h.ext x1;have hB:=h1.blk.lt;refine TS bB h1.own (aA.of_own ho1) rfl (by omega) (by unfold maxLen;omega) (by omega) λv2 w2 ho2 hg2=>?_;have hlo:∀ k,v.ownBlock=some k->gr+1<=k:=λk hk=>(h.own.lt k hk).1;have f2:Fr (λk=>v.ownBlock=some k) w1 w2:=Fr.of_grown hg2 λk hk=>hk;have ho2:w2.ownsRow (gr+1) 3 1 v2 (l++[t]).length ((l++[t]).map i64):=by simpa using ho2
 refine hk v2 w2 ⟨ho2,?_,f2.blk h1.blk λhk=>by have:=hlo _ hk;omega,h1.fr.trans (f2.mono λk hk=>by have:=hlo k hk;omega) λ_ _ h=>h⟩ ((Fr.of_ext x1).trans f2 λ_ _ h=>h);rcases ho2.2 with ⟨_,e⟩|⟨g,cap,_,rfl,_⟩
 ·simp at e
 ·exact ⟨_,_,rfl⟩
theorem aAy {row:List Value} {st:St} (hrow:lK w row m) (hn1:1<=m.code.length) (hn2:m.code.length<=120) (h0:st.h 0=true) (hled:∀ k,st.h k=true->Led i m st k) (_:WF m st)
  (hk:∀ g r w',bO w' g (r.map .bool) 4->w.heap.size<=g->AJ i m st [] r->aF w w'->K (.slice (some ⟨g,0,none⟩) m.code.length m.code.length) w'):aB prog 25 #[.agg row.toArray] w K:=by
 obtain ⟨pv,lv,cv,rfl,hp,hl,hc⟩:=hrow;apply bFw;unfold ZU;refine bx λb1 w1 hb1 x1=>?_;have hb1:bG w1 b1 [pv,i64 m.result,lv,cv]:=hb1;refine bF hb1 dG iY rfl (gD kS (hc.ext x1) ?_);refine mkB underlying95 kP rfl (by omega) (by omega) λw2 hB2 x2 z2=>?_;have hgr:w.heap.size<=w1.heap.size:=x1.size;generalize hgr1:w1.heap.size=gr at hB2 z2 hgr;refine jS bB [i64 0] rfl rfl (by simp) rfl λv3 w3 ho3 x3=>?_;have x13:=x2.trans x3;have hb3:=hb1.ext x13;have hc3:=hc.ext (x1.trans x13);have x03:=x1.trans x13;have hB3:=hB2.ext x3;have cf0:cf (List.replicate m.code.length false)=m.code.length:=by simp [cf,List.countP_replicate]
 have gd0:∀ k,(List.replicate m.code.length false).getD k false=false:=λk=>by
  simp only [List.getD_eq_getElem?_getD,List.getElem?_replicate];split<;>rfl
 have ini:Rm gr w3 w3 v3 [0] (List.replicate m.code.length false)/\AJ i m st [0] (List.replicate m.code.length false):=by
  refine ⟨⟨aX ho3 (by omega),?_,by simpa using hB3,Fr.refl _ _⟩,by simp,λt ht=>?_,λk hk=>?_,.inr (by simp),λk hk=>?_,by rw [cf0];simp⟩
  ·rcases ho3.2 with ⟨_,e⟩|⟨g,cap,_,rfl,_⟩
   ·cases e
   ·exact ⟨_,_,rfl⟩
  ·rw [List.mem_singleton] at ht;subst ht;exact ⟨by omega,by omega,h0⟩
  iterate 2
   ·rw [gd0] at hk;cases hk
 refine ⟨λt w'=>∃ l r,Rm gr w3 w' t l r/\AJ i m st l r,λt w'=>mu λq=>∃ l r,(Rm gr w3 w' t l r/\AJ i m st l r)/\3*cf r+l.length=q,⟨_,_,ini⟩,?_⟩;rintro t w4 ⟨l0,r0,hh0⟩ _;obtain ⟨l,r,⟨M,R⟩,hmu⟩:=xF (p:=λq=>∃ l r,(Rm gr w3 w4 t l r/\AJ i m st l r)/\3*cf r+l.length=q) ⟨_,l0,r0,hh0,rfl⟩;clear hh0 l0 r0;obtain ⟨ga,cap,rfl⟩:=M.sh;have ho:=M.own;have hbd:=R.bd;have hrl:=R.rl
 have step:∀ {t':Value} {w':World} {l':List Int} {r':List Bool},Rm gr w3 w' t' l' r'->AJ i m st l' r'->3*cf r'+l'.length < 3*cf r+l.length->(∃ l r,Rm gr w3 w' t' l r/\AJ i m st l r)/\mu (λq=>∃ l r,(Rm gr w3 w' t' l r/\AJ i m st l r)/\3*cf r+l.length=q) < mu (λq=>∃ l' r,(Rm gr w3 w4 (.slice (some ⟨ga,0,none⟩) l.length cap) l' r/\AJ i m st l' r)/\3*cf r+l'.length=q):=λh1 h2 h3=>⟨⟨_,_,h1,h2⟩,by
  rw [<- hmu];exact Nat.lt_of_le_of_lt (KY ⟨_,_,⟨h1,h2⟩,rfl⟩) h3⟩
 refine gD aQ (aA.of_own ho) (iR.2 (aD (λhgt=>?_) λhle=>?_))
 case refine_2=>
  have:l=[]:=List.eq_nil_of_length_eq_zero (by omega);subst this;exact hk gr r w4 M.blk hgr R (M.fr.ext x03 λk hk=>by omega)
 refine gD aQ (aA.of_own ho) (fQ.2 ?_);rw [aC (by omega) (by omega),show (l.length:Int) - 1=((l.length - 1:Nat):Int) by omega];have hlm:=lH (l:=l) (j:=l.length - 1) (by omega);refine IJ aQ aH ho (by omega) (by omega) (cG hlm) ?_;obtain ⟨t0,t1,t2⟩:=R.ls _ (List.mem_of_getElem? hlm)
 have hsplit:l=l.take (l.length - 1)++[cE l (l.length - 1)]:=by
  have:=List.take_add_one (l:=l) (i:=l.length - 1);rw [hlm] at this;simp only [Option.toList_some] at this;rw [<- this,List.take_of_length_le (by omega)]
 obtain ⟨pc,hpc⟩:∃ pc:Nat,cE l (l.length - 1)=pc:=⟨(cE l (l.length - 1)).toNat,by omega⟩;rw [hpc] at t0 t1 t2 hsplit ⊢;rw [Int.toNat_natCast] at t2;have hlen2:(l.take (l.length - 1)).length=l.length - 1:=by simp
 refine gD aQ (aA.of_own ho) (fQ.2 ?_);rw [aC (by omega) (by omega),show (l.length:Int) - 1=((l.length - 1:Nat):Int) by omega];refine slO underlying23 bY (by decide) ho (by omega) (by omega) λho2=>?_;rw [Nat.mul_one,<- List.map_take] at ho2;generalize hl2:l.take (l.length - 1)=l2 at *;have M2:Rm gr w3 w4 (.slice (some ⟨ga,0,none⟩) (l.length - 1) cap) l2 r:=⟨by rw [hlen2];exact ho2,⟨ga,cap,by rw [hlen2]⟩,M.blk,M.fr⟩
 have hin:∀ t,t∈l->t∈l2\/t=pc:=λt ht=>by
  rw [hsplit] at ht;rcases List.mem_append.1 ht with h|h
  ·exact .inl h
  ·rw [List.mem_singleton] at h;exact .inr h
 have hin2:∀ t,t∈l2->t∈l:=λt ht=>by rw [hsplit];exact List.mem_append_left _ ht
 have hsl:aA w4 (.slice (some ⟨gr,0,none⟩) m.code.length m.code.length) 1 m.code.length (r.map .bool):=M.blk.slice (by simpa using hrl) (by unfold maxLen;omega);refine lV gT oD hsl (by omega) (by omega) (GQ (by omega)) ?_;cases hr:r.getD pc false with
 | true=>
  refine bK.2 (step M2 ⟨hrl,λt ht=>R.ls t (hin2 t ht),R.rs,?_,λk hk to hto=>?_,by omega⟩ (by omega))
  ·rcases R.z with h|h
   ·exact .inl h
   ·rcases hin _ h with h|h
    ·exact .inr h
    ·left;have:pc=0:=by omega
     rw [<- this];exact hr
  ·rcases R.cl k hk to hto with h|h
   ·exact .inl h
   ·rcases hin _ h with h|h
    ·exact .inr h
    ·left;subst h;rw [Int.toNat_natCast];exact hr
 | false=>
 refine aP.2 ?_;refine UN gT kP M2.blk (n:=m.code.length) (by simpa using hrl) (by omega) (by omega) rfl ?_;rw [Int.toNat_natCast]
 have M3:Rm gr w3 (w4.setCell ⟨gr,pc,none⟩ (.bool true)) (.slice (some ⟨ga,0,none⟩) (l.length - 1) cap) l2 (r.set pc true):=by
  refine ⟨(Fr.of_set (S:=λk=>k=gr) rfl).own M2.own λk hk he=>by have:=(M2.own.lt k hk).1;omega,M2.sh,?_,M2.fr.set (Nat.le_refl _)⟩;have:=M2.blk.set pc (.bool true)
  rwa [<- List.map_set] at this
 generalize w4.setCell ⟨gr,pc,none⟩ (.bool true)=w5 at M3;have x15:aF w1 w5:=M3.fr.ext x13 λk hk=>by omega
 have x05:=x1.trans x15;refine bF (hb1.ext x15) dG iY rfl ?_;have hxi:=sA (m:=m) (k:=pc) (by omega);refine ldI (hc.ext x05) hxi ?_;refine sI UR rfl rfl λw6 hB6 x6=>?_;have hB6:bO w6 w5.heap.size [i64 (m.ins pc).op,i64 (m.ins pc).a,i64 (m.ins pc).b] 88:=hB6;have hga5:=(M3.own.lt ga rfl).2;have hb6:=bO.boxed hB6;have M6:=M3.ext x6;have hcf:=bCi (r:=r) (k:=pc) (by omega) hr
 have fin:∀ {v:Value} {w':World} {l3:List Int},Rm gr w3 w' v (l2++l3) (r.set pc true)->(∀ t,t∈l3↔t∈fB (m.ins pc) pc)->l3.length<=2->Rm gr w3 w' v (l2++l3) (r.set pc true)/\AJ i m st (l2++l3) (r.set pc true)/\3*cf (r.set pc true)+(l2++l3).length < 3*cf r+l.length:=by
  intro v w' l3 hM hl3 hle;obtain ⟨out,_,hout⟩:=hled pc t2;have hlen:(l2++l3).length=l2.length+l3.length:=List.length_append
  have hgs:∀ k,(r.set pc true).getD k false=true↔k=pc\/r.getD k false=true:=λk=>by
   rw [kU];by_cases hkp:k=pc
   ·rw [if_pos ⟨hkp,by omega⟩];simp [hkp]
   ·rw [if_neg λh=>hkp h.1];simp [hkp]
  refine ⟨hM,⟨by simpa using hrl,λt ht=>?_,λk hk=>?_,?_,λk hk to hto=>?_,by omega⟩,by omega⟩
  ·rcases List.mem_append.1 ht with h|h
   ·exact R.ls t (hin2 t h)
   ·obtain ⟨q1,q2,q3,_⟩:=hout t ((hl3 t).1 h);exact ⟨q1,q2,q3⟩
  ·rcases (hgs k).1 hk with h|h
   ·rw [h];exact t2
   ·exact R.rs k h
  ·rcases R.z with h|h
   ·exact .inl ((hgs 0).2 (.inr h))
   ·rcases hin _ h with h|h
    ·exact .inr (List.mem_append_left _ h)
    ·exact .inl ((hgs 0).2 (.inl (by omega)))
  ·rcases (hgs k).1 hk with h|h
   ·subst h;exact .inr (List.mem_append_right _ ((hl3 to).2 hto))
   ·rcases R.cl k h to hto with h|h
    ·exact .inl ((hgs _).2 (.inr h))
    ·rcases hin _ h with h|h
     ·exact .inr (List.mem_append_left _ h)
     ·exact .inl ((hgs _).2 (.inl (by omega)))
 have hpm:=λt=>aFa (x:=m.ins pc) (pc:=pc) (t:=t);unfold aFb at hpm;obtain ⟨A,hA⟩:∃ A,A=(if (m.ins pc).op=23\/(m.ins pc).op=24 then [(m.ins pc).a] else []):=⟨_,rfl⟩;obtain ⟨C,hC⟩:∃ C,C=(if (m.ins pc).op≠23/\(m.ins pc).op≠39 then [(pc:Int)+1] else []):=⟨_,rfl⟩;rw [<- hA,<- hC] at hpm;have hAl:A.length<=1:=by rw [hA];split<;>simp
 have hCl:C.length<=1:=by rw [hC];split<;>simp
 have fin2:∀ {v:Value} {w':World},Rm gr w3 w' v (l2++A++C) (r.set pc true)->(∃ l r,Rm gr w3 w' v l r/\AJ i m st l r)/\mu (λq=>∃ l r,(Rm gr w3 w' v l r/\AJ i m st l r)/\3*cf r+l.length=q) < mu (λq=>∃ l' r,(Rm gr w3 w4 (.slice (some ⟨ga,0,none⟩) l.length cap) l' r/\AJ i m st l' r)/\3*cf r+l'.length=q):=λhM=>by
  rw [List.append_assoc] at hM;obtain ⟨f1,f2,f3⟩:=fin hM hpm (by rw [List.length_append];omega);exact step f1 f2 f3
 clear fin hpm;refine ⟨λv w'=>Rm gr w3 w' v (l2++A) (r.set pc true)/\bG w' w5.heap.size [i64 (m.ins pc).op,i64 (m.ins pc).a,i64 (m.ins pc).b],?_,?_⟩
 ·have psh:(m.ins pc).op=23\/(m.ins pc).op=24->V prog (Instr.buildSlice 23 1 #[(0,i64 (m.ins pc).a)]) w6 λu w1=>V prog (Builtin.append_ #[23,23] 23 #[.slice (some ⟨ga,0,none⟩) (l.length - 1) cap,u]) w1 λv w'=>Rm gr w3 w' v (l2++A) (r.set pc true)/\bG w' w5.heap.size [i64 (m.ins pc).op,i64 (m.ins pc).a,i64 (m.ins pc).b]:=λhop=>by
   refine M6.push (by omega) λv' w' hM hF=>⟨?_,bO.boxed (hF.blk hB6 λhk=>?_)⟩
   ·rw [hA,if_pos hop];exact hM
   ·have hk:some ga=some w5.heap.size:=hk;rw [Option.some.injEq] at hk;omega
  refine bF hb6 bJ aH rfl (aK.2 ?_);by_cases c1:(m.ins pc).op=23
  ·simp only [c1,aS,reduceIte,decide_true];rw [<- c1];exact bF hb6 bE aH rfl (psh (.inl c1))
  simp only [c1,aS,reduceIte,Bool.false_eq_true,decide_false];refine bF hb6 bJ aH rfl (aK.2 ?_);by_cases c2:(m.ins pc).op=24
  ·simp only [c2,aS,decide_true];rw [<- c2];exact bF hb6 bE aH rfl (psh (.inr c2))
  simp only [c2,aS,decide_false];refine ⟨?_,hb6⟩;have hA0:A=[]:=by rw [hA,if_neg (by simp [c1,c2])]
  rw [hA0,List.append_nil];exact M6
 rintro v7 w7 ⟨M7,hb7⟩ _;refine bF hb7 bJ aH rfl (dB.2 ?_);have hl2a:(l2++A).length<=100000:=by rw [List.length_append];omega
 by_cases c1:(m.ins pc).op=23
 ·simp only [c1,aS,not_true_eq_false,ne_eq,reduceIte,Bool.false_eq_true,decide_false];refine fin2 ?_;have hC0:C=[]:=by rw [hC,if_neg (by simp [c1])]
  rw [hC0,List.append_nil];exact M7
 simp only [c1,aS,not_false_eq_true,ne_eq,reduceIte,decide_true];refine bF hb7 bJ aH rfl (dB.2 ?_);by_cases c2:(m.ins pc).op=39
 ·simp only [c2,aS,not_true_eq_false,ne_eq,decide_false];refine fin2 ?_;have hC0:C=[]:=by rw [hC,if_neg (by simp [c2])]
  rw [hC0,List.append_nil];exact M7
 simp only [c2,aS,not_false_eq_true,ne_eq,decide_true];refine aU.2 ?_;rw [aC (by omega) (by omega)];refine M7.push hl2a λv8 w8 M8 _=>fin2 ?_;have hC1:C=[(pc:Int)+1]:=by rw [hC,if_pos ⟨c1,c2⟩]
 rw [hC1];exact M8
def bH (i:gN) (m:jH) (st:St) (r:List Bool):Nat->List aJ × List Int
 | 0=>((List.range m.locals.length).map λ(j:Nat)=>aJ.const ((m.params.length:Int)+((j:Nat):Int)) 0,[])
 | k+1=>
  let p:=bH i m st r k
  if r.getD k false then (p.1++.tick::(jD i m (m.ins k) (st.s k).length).toList,p.2++[(p.1.length:Int)]) else (p.1,p.2++[-1])
def nE (i:gN) (m:jH) (st:St) (r:List Bool):List aJ:=let p:=bH i m st r m.code.length;p.1.map (yD p.2)
def TX (g:Nat) (nv tv:Value) (w:World) (u:Value) (n:aJ):Prop:=∃ sv,u=n.val sv/\w.ownsRow (g+1) 3 1 sv n.args.length (n.args.map i64)/\∀ q,sv.ownBlock=some q->nv.ownBlock≠some q/\tv.ownBlock≠some q
structure Lp (g:Nat) (np:Int) (nv tv:Value) (w:World) (N:List aJ) (T:List Int):Prop where
 blk:bO w g [i64 np,i64 18,nv] 33
 row:∃ xs:List Value,w.ownsRow (g+1) 43 1 nv N.length xs/\∀ (k:Nat) n,N[k]?=some n->∃ u,xs[k]?=some u/\TX g nv tv w u n
 st:w.ownsRow (g+1) 3 1 tv T.length (T.map i64)
 ne:∀ q,nv.ownBlock=some q->tv.ownBlock≠some q
theorem Lp.ext {g:Nat} {np:Int} {nv tv:Value} {w':World} {N:List aJ} {T:List Int} (h:Lp g np nv tv w N T) (hx:aF w w'):Lp g np nv tv w' N T:=by
 obtain ⟨h1,⟨xs,h2,h3⟩,h8,h9⟩:=h;refine ⟨h1.ext hx,⟨xs,hx.own h2,λk n hk=>?_⟩,hx.own h8,h9⟩;obtain ⟨u,h4,sv,h5,h6,h7⟩:=h3 k n hk;exact ⟨u,h4,sv,h5,hx.own h6,h7⟩
theorem HL (n:aJ) (sv:Value):cO (n.val sv)=true:=by cases n<;>rfl
theorem Lp.nodes {g:Nat} {N:List aJ} {T:List Int} (h:Lp g np nv tv w N T):pR w nv N:=by
 obtain ⟨_,⟨xs,h2,h3⟩,_,_⟩:=h;refine ⟨xs,aA.of_own h2,λk n hk=>?_⟩;obtain ⟨u,h4,sv,h5,h6,_⟩:=h3 k n hk;exact ⟨u,h4,sv,h5,aA.of_own h6⟩
theorem Lp.start {g:Nat} {N:List aJ} {T:List Int} {t:Int} (h:Lp g np nv tv w N T) (hT:T.length<=100000) (hk:∀ tv' w',Lp g np nv tv' w' N (T++[t])->Fr (λk=>tv.ownBlock=some k) w w'->(∀ q,tv'.ownBlock=some q->tv.ownBlock=some q\/w.heap.size<=q)->K tv' w') :
  V prog (Instr.buildSlice 23 1 #[(0,i64 t)]) w λu w1=>V prog (Builtin.append_ #[23,23] 23 #[tv,u]) w1 K:=by
 obtain ⟨hB,⟨xs,ho,hxs⟩,hst,hne⟩:=h;have hg:=hB.lt;refine jS bB [i64 t] rfl rfl (by simp) rfl λu w1 ho1 x1=>?_;have s1:=x1.size;refine apS bB (x1.own hst) (aA.of_own ho1) rfl (by omega) (by unfold maxLen;omega) (by omega) λtv' w2 ho2 hg2 hl2=>?_;have hlo:∀ k,tv.ownBlock=some k->g+1<=k:=λk hk=>(hst.lt k hk).1;have f2:Fr (λk=>tv.ownBlock=some k) w1 w2:=Fr.of_grown hg2 λk hk=>hk
 refine hk tv' w2 ⟨f2.blk (hB.ext x1) λhk=>by have:=hlo _ hk;omega,⟨xs,f2.own (x1.own ho) λk hk hS=>hne k hk hS,λk n hk=>?_⟩,by simpa using ho2,λq hq hq'=>?_⟩ ((Fr.of_ext x1).trans f2 λ_ _ h=>h) (λq hq=>by
   rcases hl2 with h2|h2
   ·rw [h2] at hq;exact .inl hq
   ·rw [h2] at hq;cases hq;exact .inr (by omega))
 ·obtain ⟨u,h4,sv,h5,h6,h7⟩:=hxs k n hk;refine ⟨u,h4,sv,h5,f2.own (x1.own h6) λq hq hS=>(h7 q hq).2 hS,λq hq=>⟨(h7 q hq).1,λhq'=>?_⟩⟩;rcases hl2 with h2|h2
  ·rw [h2] at hq';exact (h7 q hq).2 hq'
  ·rw [h2] at hq';cases hq';have:=(h6.lt _ hq).2;omega
 ·rcases hl2 with h2|h2
  ·rw [h2] at hq';exact hne q hq hq'
  ·rw [h2] at hq';cases hq';have:=(ho.lt _ hq).2;omega
theorem Lp.push {g:Nat} {u:Value} {N:List aJ} {T:List Int} {n:aJ} {K':World->Prop} (h:Lp g np nv tv w N T) (hu:TX g nv tv w u n) (hN:N.length<=100000) (hk:∀ nv' w',Lp g np nv' tv w' (N++[n]) T->Fr (λk=>k=g\/nv.ownBlock=some k) w w'->(∀ q,nv'.ownBlock=some q->nv.ownBlock=some q\/w.heap.size<=q)->K' w') :
  V prog (Instr.buildSlice 31 1 #[(0,u)]) w λt w1=>V prog (Builtin.append_ #[31,31] 31 #[nv,t]) w1 λt2 w2=>V prog (Instr.fieldAt 33 (.pointer (some ⟨g,0,none⟩)) 2) w2 λq w3=>U prog (Instr.storeAt 31 q t2) w3 λ_ w4=>K' w4:=by
 obtain ⟨sv,rfl,hso,hsn⟩:=hu;obtain ⟨hB,⟨xs,ho,hxs⟩,hst,hne⟩:=h;have hg:=hB.lt;refine jS aDf [n.val sv] rfl rfl (by simp) (by simp [HL]) λt w1 ho1 x1=>?_;have s1:=x1.size;refine apS aDf (x1.own ho) (aA.of_own ho1) (by simp [HL]) (by omega) (by unfold maxLen;omega) (by omega) λnv' w2 ho2 hg2 hl2=>?_;have hlo:∀ k,nv.ownBlock=some k->g+1<=k:=λk hk=>(ho.lt k hk).1;have f2:Fr (λk=>nv.ownBlock=some k) w1 w2:=Fr.of_grown hg2 λk hk=>hk;have hB2:=f2.blk (hB.ext x1) λhk=>by have:=hlo _ hk;omega
 refine FK eG LQ hB2 (n:=3) rfl (by decide) (jE ho2) ?_;have f3:Fr (λk=>k=g) w2 (w2.setCell ⟨g,2,none⟩ nv'):=Fr.of_set rfl;have hB3:=hB2.set 2 nv';generalize w2.setCell ⟨g,2,none⟩ nv'=w3 at f3 hB3
 have fresh:∀ {q:Nat},q < w.heap.size->nv.ownBlock≠some q->nv'.ownBlock≠some q:=λhlt hb hq'=>by
  rcases hl2 with h2|h2
  ·rw [h2] at hq';exact hb hq'
  ·rw [h2] at hq';cases hq';omega
 have keep0:∀ {sv:Value} {l:List Int},w.ownsRow (g+1) 3 1 sv l.length (l.map i64)->(∀ q,sv.ownBlock=some q->nv.ownBlock≠some q)->w3.ownsRow (g+1) 3 1 sv l.length (l.map i64):=λha hb=>
  f3.own (f2.own (x1.own ha) λk hk hS=>hb k hk hS) λk hk hS=>by have:=(ha.lt k hk).1;have hS:k=g:=hS;omega
 have keep:∀ {sv:Value} {l:List Int},w.ownsRow (g+1) 3 1 sv l.length (l.map i64)->(∀ q,sv.ownBlock=some q->nv.ownBlock≠some q/\tv.ownBlock≠some q)->w3.ownsRow (g+1) 3 1 sv l.length (l.map i64)/\∀ q,sv.ownBlock=some q->nv'.ownBlock≠some q/\tv.ownBlock≠some q:=λha hb=>
  ⟨keep0 ha λq hq=>(hb q hq).1,λq hq=>⟨fresh (ha.lt q hq).2 (hb q hq).1,(hb q hq).2⟩⟩
 refine hk nv' w3 ⟨hB3,⟨xs++[n.val sv],?_,λk y hy=>?_⟩,keep0 hst λq hq hq'=>hne q hq' hq,λq hq hq'=>fresh (hst.lt q hq').2 (λh=>hne q h hq') hq⟩ (((Fr.of_ext x1).trans (f2.mono λk hk=>.inr hk) λ_ _ h=>h).trans (f3.mono λk hk=>.inl hk) λ_ _ h=>h) (λq hq=>by
   rcases hl2 with h2|h2
   ·rw [h2] at hq;exact .inl hq
   ·rw [h2] at hq;cases hq;exact .inr (by omega))
 ·rw [List.length_append];exact f3.own ho2 λk hk hS=>by have:=(ho2.lt k hk).1;have hS:k=g:=hS;omega
 ·rw [List.getElem?_append] at hy ⊢;have hxl:xs.length=N.length:=by have:=ho.1;omega
  split at hy
  ·rename_i hlt
   obtain ⟨u,h4,sv2,h5,h6,h7⟩:=hxs k y hy;rw [if_pos (by omega)];obtain ⟨k1,k2⟩:=keep h6 h7;exact ⟨u,h4,sv2,h5,k1,k2⟩
  ·rename_i hge
   rw [if_neg (by omega),hxl]
   have hk0:k - N.length=0:=by
    have:=(List.getElem?_eq_some_iff.1 hy).1;simpa using this
   rw [hk0] at hy ⊢;cases hy;obtain ⟨k1,k2⟩:=keep hso hsn;exact ⟨n.val sv,rfl,sv,rfl,k1,k2⟩
theorem Lp.set {g:Nat} {np:Int} {gn c j:Nat} {tv u:Value} {N:List aJ} {T:List Int} {n:aJ} {K':World->Prop} (h:Lp g np (.slice (some ⟨gn,0,none⟩) N.length c) tv w N T) (hj:j < N.length) (hu:TX g (.slice (some ⟨gn,0,none⟩) N.length c) tv w u n)
  (hk:∀ w',Lp g np (.slice (some ⟨gn,0,none⟩) (N.set j n).length c) tv w' (N.set j n) T->Fr (λk=>k=gn) w w'->K' w'):U prog (Instr.storeAt 43 (.pointer (some ⟨gn,0+j*1,none⟩)) u) w λ_ w2=>K' w2:=by
 obtain ⟨sv,rfl,hso,hsn⟩:=hu;obtain ⟨hB,⟨xs,ho,hxs⟩,hst,hne⟩:=h;have hgn:=ho.lt gn rfl;have hxl:xs.length=N.length:=by have:=ho.1;omega
 refine stY LO ho hj (HL _ _) λw' ho' hg'=>?_;have f:Fr (λk=>k=gn) w w':=Fr.of_grown hg' λk hk=>by cases hk;rfl
 have keep:∀ {sv:Value} {l:List Int},w.ownsRow (g+1) 3 1 sv l.length (l.map i64)->(∀ q,sv.ownBlock=some q->gn≠q)->w'.ownsRow (g+1) 3 1 sv l.length (l.map i64):=λha hb=>f.own ha λk hk hS=>hb k hk hS.symm;have hne':∀ {v:Value} {q:Nat},(Value.slice (some ⟨gn,0,none⟩) N.length c).ownBlock≠some q->gn≠q:=λh e=>h (by rw [e];rfl);refine hk w' ⟨by rw [List.length_set];exact f.blk hB (by omega),⟨xs.set j (n.val sv),by rw [List.length_set];exact ho',λk y hy=>?_⟩,keep hst λq hq e=>hne gn rfl (by rw [e];exact hq),by rw [List.length_set];exact hne⟩ f;rw [List.length_set];rw [List.getElem?_set] at hy ⊢;by_cases hkj:j=k
 ·subst hkj;rw [if_pos rfl,if_pos hj] at hy;rw [if_pos rfl,if_pos (by omega)];cases hy;exact ⟨_,rfl,sv,rfl,keep hso λq hq=>hne' (v:=sv) (hsn q hq).1,hsn⟩
 ·rw [if_neg hkj] at hy ⊢;obtain ⟨u2,h4,sv2,h5,h6,h7⟩:=hxs k y hy;exact ⟨u2,h4,sv2,h5,keep h6 λq hq=>hne' (v:=sv2) (h7 q hq).1,h7⟩
theorem aBq {h pc:Nat} {n:aJ} {T:List Int} (hn:jD i m x h=some n) (hT:∀ to∈fB x pc,0<=to/\to < T.length):XG T n:=by
 by_cases c1:x.op=23
 ·have:n=.goto x.a:=by simp [jD,c1] at hn;exact hn.symm
  subst this;exact hT x.a (by simp [fB,c1])
 by_cases c2:x.op=24
 ·have:n=.branch (10+((h:Int) - 1)) x.a:=by simp [jD,c2] at hn;exact hn.symm
  subst this;exact hT x.a (by simp [fB,c2])
 unfold jD at hn;by_cases d0:x.op=1
 ·rw [if_pos d0] at hn;cases hn;trivial
 rw [if_neg d0] at hn;by_cases d1:x.op=2
 ·rw [if_pos d1] at hn;cases hn;trivial
 rw [if_neg d1] at hn;by_cases d2:x.op=3
 ·rw [if_pos d2] at hn;cases hn;trivial
 rw [if_neg d2] at hn;by_cases d3:x.op=4
 ·rw [if_pos d3] at hn;cases hn
 rw [if_neg d3] at hn;by_cases d4:x.op=5
 ·rw [if_pos d4] at hn;cases hn;trivial
 rw [if_neg d4] at hn;by_cases d5:x.op=15\/x.op=16\/x.op=26
 ·rw [if_pos d5] at hn;cases hn;trivial
 rw [if_neg d5] at hn;by_cases d6:x.op=22
 ·rw [if_pos d6] at hn;cases hn;trivial
 rw [if_neg d6] at hn;rw [if_neg c1] at hn;rw [if_neg c2] at hn;by_cases d9:x.op=25
 ·rw [if_pos d9] at hn;cases hn;trivial
 rw [if_neg d9] at hn;by_cases d10:x.op=35
 ·rw [if_pos d10] at hn;cases hn;trivial
 rw [if_neg d10] at hn;by_cases d11:x.op=33
 ·rw [if_pos d11] at hn;cases hn;trivial
 rw [if_neg d11] at hn;by_cases d12:x.op=34
 ·rw [if_pos d12] at hn;cases hn;trivial
 rw [if_neg d12] at hn;by_cases d13:x.op=37
 ·rw [if_pos d13] at hn;cases hn;trivial
 rw [if_neg d13] at hn;by_cases d14:x.op=38
 ·rw [if_pos d14] at hn;cases hn;trivial
 rw [if_neg d14] at hn;by_cases d15:x.op=39
 ·rw [if_pos d15] at hn;cases hn;trivial
 rw [if_neg d15] at hn;by_cases d16:(mE x.op).1≠0
 ·rw [if_pos d16] at hn;cases hn;trivial
 rw [if_neg d16] at hn;cases hn;trivial
theorem GG {i:gN} {m:jH} {st:St} {r:List Bool} {T:List Int} (hT:T.length=m.code.length) (hled:∀ k,st.h k=true->Led i m st k) (hr:∀ k,r.getD k false=true->st.h k=true):∀ (k:Nat) (n:aJ),n∈(bH i m st r k).1->XG T n
 | 0,n,h=>by
  simp only [bH,List.mem_map] at h;obtain ⟨j,_,rfl⟩:=h;trivial
 | k+1,n,h=>by
  have ih:=GG hT hled hr k;cases hk:r.getD k false with
  | false=>
   have e:(bH i m st r (k+1)).1=(bH i m st r k).1:=by simp only [bH,hk];rfl
   rw [e] at h;exact ih n h
  | true=>
   have e:(bH i m st r (k+1)).1=(bH i m st r k).1++.tick::(jD i m (m.ins k) (st.s k).length).toList:=by simp only [bH,hk];rfl
   rw [e] at h;rcases List.mem_append.1 h with h|h
   ·exact ih n h
   ·rcases List.mem_cons.1 h with h|h
    ·subst h;trivial
    ·obtain ⟨out,_,hto⟩:=hled k (hr k hk);refine aBq (pc:=k) (by simpa using h) λto ht=>?_;obtain ⟨q1,q2,_⟩:=hto to ht;exact ⟨q1,by rw [hT];exact q2⟩
theorem aNu {n:aJ} {sv:Value} {x y:Operand} {R:Value->World->Prop} (hk:R (.bool true) w):V prog (do eqGuard .neq 43 x y (n.val sv) Value.nilIface;binOp .neq 43 (n.val sv) Value.nilIface) w R:=by
 cases n<;>exact V.ok (gJ underlying43) hk
def TY (B:Nat) (w:World) (v:Value) (l:List aJ):Prop:=∃ xs:List Value,w.ownsRow B 43 1 v l.length xs/\∀ (k:Nat) n,l[k]?=some n->∃ u,xs[k]?=some u/\jT B w u n
theorem TY.nodes {B:Nat} {v:Value} {l:List aJ} (h:TY B w v l):pR w v l:=by
 obtain ⟨xs,h1,h2⟩:=h;refine ⟨xs,aA.of_own h1,λk n hk=>?_⟩;obtain ⟨u,h3,sv,h4,h5⟩:=h2 k n hk;exact ⟨u,h3,sv,h4,aA.of_own h5⟩
theorem VR (h:kK w p i) (hn:kM w i) (hrg:i.rg)
  (yes:∀ st r nv sv w',kY i->0<=k->k < i.methods.length->oZ i (i.meth k) (some st)->AJ i (i.meth k) st [] r->TY w.heap.size w' nv (nE i (i.meth k) st r)->aN w' sv (bH i (i.meth k) st r (i.meth k).code.length).2->aF w w'->K (.tuple #[.agg #[i64 (i.meth k).params.length,i64 18,nv],sv,.bool true]) w')
  (no:∀ w',¬ (kY i/\0<=k/\k < i.methods.length)->aF w w'->K (.tuple #[.agg #[i64 0,i64 0,aZ],aZ,.bool false]) w'):aB prog 9 #[p.val i,i64 k] w K:=by
 apply bIt;unfold aIs iP.val;refine bx λb2 w1 hb2 x1=>?_;have hb2:bG w1 b2 [.string i.name,p.fv,p.iv,p.mv,p.xv]:=hb2;refine AP xO λw2 hB4 x2=>?_;have hB4:bO w2 w1.heap.size [i64 0,i64 0,aZ] 33:=hB4;have x02:=x1.trans x2;have hg4:=x1.size;have hb2:=hb2.ext x2;generalize w1.heap.size=g4 at hB4 hg4;refine iO hb2 lF rfl ?_;refine aDt (p:=p) (i:=i) (h.ext x02) (hn.ext x02) hrg (λst sv w3 ht h0 hkl hw hst x3=>?_) λw3 hne x3=>?_
 case refine_2=>
  refine gS.2 (gR.2 (dK.2 ?_));simp only [aS,Int.reduceNeg,Bool.not_false];refine pP aZc [] rfl rfl ?_;refine zS xO (hB4.ext x3) (l:=[i64 0,i64 0,aZ]) rfl rfl rfl rfl λw4 hB hc=>?_;exact ⟨_,pZ underlying33 rfl xO hB rfl,⟨_,rfl⟩,no w4 hne (hc.ext _ (x02.trans x3) hg4)⟩
 refine gS.2 (gR.2 (dK.2 ?_));simp only [aS,Int.reduceNeg,Bool.not_true];obtain ⟨kn,rfl⟩:∃ q:Nat,k=q:=⟨k.toNat,by omega⟩;have hmi:=gM (i:=i) (a:=(kn:Int)) (by omega) (by omega);rw [Int.toNat_natCast] at hmi;have ir:=ht.1;have mr:(i.meth kn).right:=ir.2.2.1.2.1 _ (List.mem_of_getElem? hmi);obtain ⟨hox,hwf,hh0,hs0,hled⟩:=hw.led ir mr;have x03:=x02.trans x3;have hb3:=hb2.ext x3;refine bF hb3 bP dM rfl ?_;refine ldS iQ oB (h.ext x03).mt hmi rC λrow hrow=>?_;generalize hmm:i.meth kn=m at *;have hrow0:=hrow;obtain ⟨pv,lv,cv,rfl,hp,hl,hc⟩:=hrow
 have hone:([pv,i64 m.result,lv,cv]:List Value).all cO=true:=by
  obtain ⟨a1,c1,rfl⟩:=hp.shape;obtain ⟨a2,c2,rfl⟩:=hl.shape;obtain ⟨a3,c3,rfl⟩:=aA.shape hc;rfl
 refine wJ FN rfl hone λb9 w4 hb9 x4=>?_;have hb9:bG w4 b9 [pv,i64 m.result,lv,cv]:=hb9;have hp4:=hp.ext x4;refine bF hb9 dL bD rfl (gD aQ hp4 ?_);refine pP aZc [(0,i64 m.params.length),(1,i64 18)] rfl rfl ?_;refine sI aDy rfl rfl λw5 hB5 x5=>?_;have hB5:bO w5 w4.heap.size [i64 m.params.length,i64 18,aZ] 33:=hB5;have hg4':g4 < w4.heap.size:=by have:=hB4.lt;have:=x3.size;have:=x4.size;omega
 have hb9':=hb9.ext x5;refine bF hb9' kV bD rfl (gD aQ ((hl.ext x4).ext x5) ?_);have hL0:Lp w4.heap.size m.params.length aZ aZ w5 [] []:=⟨hB5,⟨[],World.ownsRow_nil _ _ _ _,λk n hk=>by simp at hk⟩,World.ownsRow_nil _ _ _ _,λq hq=>by cases hq⟩;have x04:=x03.trans x4;have hgx:=hB5.lt;generalize hgg:w4.heap.size=g at *;have pl:=mr.1.2;have ll:=mr.2.2.1.2;refine ⟨λv w'=>∃ (j:Nat) (nv:Value),v=i64 j/\j<=m.locals.length/\aF w4 w'/\Lp g m.params.length nv aZ w' ((List.range j).map λ(j:Nat)=>aJ.const ((m.params.length:Int)+((j:Nat):Int)) 0) [],λv _=>m.locals.length - (RowKit.intOf v).toNat,⟨0,aZ,rfl,Nat.zero_le _,x5,hL0⟩,?_⟩;clear hL0 hB5;rintro _ w6 ⟨j,nv,rfl,hj,x6,hL⟩ _;refine aY.2 (aD (λhlt=>?_) λhge=>?_)
 ·refine bF (bO.boxed hL.blk) eG kD rfl ?_;refine bF (hb9.ext x6) dL bD rfl (gD aQ (hp4.ext x6) (aU.2 ?_));rw [aC (by omega) (by omega)];refine pP WX [(0,i64 ((m.params.length:Int)+(j:Int)))] rfl rfl (RZ VQ ?_);refine hL.push (n:=.const ((m.params.length:Int)+(j:Int)) 0) ⟨aZ,rfl,World.ownsRow_nil _ _ _ _,λq hq=>by cases hq⟩ (by simp;omega) λnv' w7 hL7 f7 _=>aU.2 ?_;rw [aC (by omega) (by omega),aR];have hnv:∀ q,nv.ownBlock=some q->g+1<=q:=λq hq=>by obtain ⟨xs,ho,_⟩:=hL.row;exact (ho.lt q hq).1
  refine ⟨⟨j+1,nv',rfl,by omega,f7.ext x6 λq hq=>?_,?_⟩,by simp only [aL];omega⟩
  ·rcases hq with hq|hq
   ·omega
   ·have:=hnv q hq;omega
  ·rw [List.range_succ,List.map_append];exact hL7
 have hjl:j=m.locals.length:=by omega
 subst hjl;have hn1:=mr.2.2.2.1.1;have hn2:=mr.2.2.2.1.2;refine iO (hb9.ext x6) oB rfl ?_;refine aAy (i:=i) (m:=m) (st:=st) (row:=[pv,i64 m.result,lv,cv]) ((hrow0.ext x4).ext x6) hn1 (by omega) hh0 hled hwf λgr r w7 hBr hgr R x7=>?_;have x47:=x6.trans x7;refine bF (hb9.ext x47) dG iY rfl (gD kS ((hc.ext x4).ext x47) ?_);have hnvb:∀ q,nv.ownBlock=some q->q≠gr:=λq hq=>by obtain ⟨xs,ho,_⟩:=hL.row;have:=(ho.lt q hq).2;omega
 have hgg6:g < w6.heap.size:=hL.blk.lt;have hgrg:gr≠g:=by omega
 refine ⟨λtv v w'=>∃ (j:Nat) (nv:Value),v=i64 j/\j<=m.code.length/\aF w4 w'/\Lp g m.params.length nv tv w' (bH i m st r j).1 (bH i m st r j).2/\(bH i m st r j).1.length<=10+2*j/\(bH i m st r j).2.length=j/\bO w' gr (r.map .bool) 4/\∀ q,nv.ownBlock=some q\/tv.ownBlock=some q->q≠gr,
  λ_ v _=>m.code.length - (RowKit.intOf v).toNat,⟨0,nv,rfl,Nat.zero_le _,x47,hL.ext x7,by simp [bH];omega,rfl,hBr,λq hq=>?_⟩,?_⟩
 ·rcases hq with hq|hq
  ·exact hnvb q hq
  ·cases hq
 clear hL hBr hnvb;rintro tv _ w8 ⟨j,nv,rfl,hj,x8,hL,hNl,hTl,hBr,hgb⟩ _;refine aY.2 (aD (λhlt=>?_) λhge=>?_)
 ·have hj':j < m.code.length:=by omega
  have hxi:=sA (m:=m) (k:=j) hj';have ox:=hox _ (List.mem_of_getElem? hxi);refine ldI ((hc.ext x4).ext x8) hxi ?_;refine sI UR rfl rfl λw9 hB15 x9=>?_;have hB15:bO w9 w8.heap.size [i64 (m.ins j).op,i64 (m.ins j).a,i64 (m.ins j).b] 88:=hB15;have hnv8:∀ q,nv.ownBlock=some q->q < w8.heap.size:=λq hq=>by obtain ⟨xs,ho,_⟩:=hL.row;exact (ho.lt q hq).2
  have htv8:∀ q,tv.ownBlock=some q->q < w8.heap.size:=λq hq=>(hL.st.lt q hq).2;have hg8:g < w8.heap.size:=hL.blk.lt;have x49:=x8.trans x9;have hL9:=hL.ext x9;have hB9:=hBr.ext x9;have hrl:=R.rl;have hsl:aA w9 (.slice (some ⟨gr,0,none⟩) m.code.length m.code.length) 1 m.code.length (r.map .bool):=hB9.slice (by simpa using hrl) (by unfold maxLen;omega);refine lV gT oD hsl (by omega) (by omega) (GQ (by omega)) (dK.2 ?_)
  have hlo:∀ q,nv.ownBlock=some q\/tv.ownBlock=some q->g+1<=q:=λq hq=>by
   rcases hq with hq|hq
   ·obtain ⟨xs,ho,_⟩:=hL.row;exact (ho.lt q hq).1
   ·exact (hL.st.lt q hq).1
  cases hrj:r.getD j false with
  | false=>
   simp only [aS,Int.reduceNeg,ne_eq,Bool.not_false];refine hL9.start (by omega) λtv' w10 hL10 f10 q10=>aU.2 ?_;rw [aC (by omega) (by omega),aR];have hK:bH i m st r (j+1)=((bH i m st r j).1,(bH i m st r j).2++[-1]):=by simp only [bH,hrj];rfl
   refine ⟨⟨j+1,nv,rfl,by omega,f10.ext x49 λq hq=>?_,by rw [hK];exact hL10,by rw [hK];dsimp only;omega,by rw [hK];simp [hTl],f10.blk hB9 λhq=>hgb gr (.inr hq) rfl,λq hq=>?_⟩,by simp only [aL];omega⟩
   ·have:=hlo q (.inr hq);omega
   ·have hs9:=hB9.lt;rcases hq with hq|hq
    ·exact hgb q (.inl hq)
    ·rcases q10 q hq with h10|h10
     ·exact hgb q (.inr h10)
     ·omega
  | true=>
   simp only [aS,Int.reduceNeg,ne_eq,Bool.not_true];have hh:=R.rs j hrj;obtain ⟨out,hdo,_⟩:=hled j hh;obtain ⟨hkd,hl8⟩:=hwf.kd j hh;obtain ⟨_,_,hask,_⟩:=DX ox hkd hdo;refine bF (bO.boxed hL9.blk) eG kD rfl ?_;have hnl:∀ {nv tv w' N T},Lp g m.params.length nv tv w' N T->∃ vs,aA w' nv 1 N.length vs:=λh=>by obtain ⟨vs,h1,_⟩:=h.nodes;exact ⟨vs,h1⟩
   obtain ⟨nvs,hnvs⟩:=hnl hL9;refine gD mW hnvs ?_;refine hL9.start (by omega) λtv' w10 hL10 f10 q10=>?_;have x10:aF w4 w10:=f10.ext x49 λq hq=>by have:=hlo q (.inr hq);omega
   have hB10:=f10.blk hB9 λhq=>hgb gr (.inr hq) rfl;refine bF (bO.boxed hL10.blk) eG kD rfl ?_;refine pP bIo [] rfl rfl (RZ bHx ?_);refine hL10.push (n:=.tick) ⟨aZ,rfl,World.ownsRow_nil _ _ _ _,λq hq=>by cases hq⟩ (by omega) λnv' w11 hL11 f11 q11=>?_;have hgw:w4.heap.size=g:=hgg
   have x11:aF w4 w11:=f11.ext x10 λq hq=>by
    rcases hq with hq|hq
    ·omega
    ·have:=hlo q (.inl hq);omega
   have hB11:=f11.blk hB10 λhq=>by
    rcases hq with hq|hq
    ·exact hgrg hq
    ·exact hgb gr (.inl hq) rfl
   have hB15':=f11.blk (f10.blk hB15 λhq=>by have:=htv8 _ hq;omega) λhq=>by
    rcases hq with hq|hq
    ·omega
    ·have:=hnv8 _ hq;omega
   have D1:aF w11 w11.drew:=(aF.refl _).drew;have x1D:=x11.trans D1;obtain ⟨svs,hsv1,hsv2⟩:=(hst.ext x4).ext x1D;have hstl:st.st.length=m.code.length:=hwf.l1;obtain ⟨su,hsu,hsi⟩:=hsv2 j (by omega);refine aM.mk' (λw'=>aF w11.drew w') (aF.refl _) ?_;refine yA (λw' hx=>((hb3.ext x4).ext x1D).ext hx) lF rfl ?_;refine yA (λw' hx=>(hb9.ext x1D).ext hx) oB rfl ?_;refine yA (λw' hx=>(bO.boxed (hB15'.ext D1)).ext hx) iA rfl ?_;refine nR pJ bD hsv1 (λ_ h=>h) (by omega) (by omega) (by simpa using hsu) ?_;refine rA aQ hsi ?_;refine bAh (p:=p) (i:=i) (m:=m) (x:=m.ins j) (row:=[pv,i64 m.result,lv,cv]) ((h.ext (x03.trans x4)).ext x1D) ((hrow0.ext x4).ext x1D) ox hl8 hask λv w12 hv x12=>⟨x12,?_⟩;have x1E:=x1D.trans x12;have xDE:=D1.trans x12;have hL12:=hL11.ext xDE;have hB12:=hB11.ext xDE;have sD:=D1.size;have s12:=x12.size;have hK:bH i m st r (j+1)=((bH i m st r j).1++.tick::(jD i m (m.ins j) (st.s j).length).toList,(bH i m st r j).2++[((bH i m st r j).1.length:Int)]):=by simp only [bH,hrj];rfl
   have hs9:=hB9.lt;have hs10:=f10.size;have hs11:=f11.size
   have hgb11:∀ q,nv'.ownBlock=some q\/tv'.ownBlock=some q->q≠gr:=λq hq=>by
    rcases hq with hq|hq
    ·rcases q11 q hq with h11|h11
     ·exact hgb q (.inl h11)
     ·omega
    ·rcases q10 q hq with h10|h10
     ·exact hgb q (.inr h10)
     ·omega
   have hv:LN w11.drew.heap.size w12 v (jD i m (m.ins j) (st.s j).length):=hv;cases ho:jD i m (m.ins j) (st.s j).length with
   | none=>
    rw [ho] at hv hK;have hv:v=Value.nilIface:=hv;subst hv;refine V.ok (gU underlying43) (aP.2 (aU.2 ?_));rw [aC (by omega) (by omega),aR];exact ⟨⟨j+1,nv',rfl,by omega,x1E,by rw [hK];exact hL12,by rw [hK];simp;omega,by rw [hK];simp [hTl],hB12,hgb11⟩,by simp only [aL];omega⟩
   | some n=>
    rw [ho] at hv hK;obtain ⟨asv,rfl,hown⟩:=hv;refine aNu (bK.2 ?_);refine bF (bO.boxed hL12.blk) eG kD rfl ?_
    have hnv11:∀ q,nv'.ownBlock=some q\/tv'.ownBlock=some q->q < w11.heap.size/\g+1<=q:=λq hq=>by
     rcases hq with hq|hq
     ·obtain ⟨xs,ho,_⟩:=hL11.row;have:=ho.lt q hq;omega
     ·have:=hL11.st.lt q hq;omega
    have hg11:=hL11.blk.lt;refine hL12.push (n:=n) ⟨asv,rfl,aX hown (by omega),λq hq=>⟨λh=>?_,λh=>?_⟩⟩ (by simp;omega) λnv2 w13 hL13 f13 q13=>aU.2 ?_
    ·have:=(hown.lt q hq).1;have:=(hnv11 q (.inl h)).1;omega
    ·have:=(hown.lt q hq).1;have:=(hnv11 q (.inr h)).1;omega
    rw [aC (by omega) (by omega),aR];refine ⟨⟨j+1,nv2,rfl,by omega,f13.ext x1E λq hq=>?_,by rw [hK];simpa using hL13,by rw [hK];simp;omega,by rw [hK];simp [hTl],f13.blk hB12 λhq=>?_,λq hq=>?_⟩,by simp only [aL];omega⟩
    ·rcases hq with hq|hq
     ·omega
     ·have:=(hnv11 q (.inl hq)).2;omega
    ·rcases hq with hq|hq
     ·exact hgrg hq
     ·exact hgb11 gr (.inl hq) rfl
    ·rcases hq with hq|hq
     ·rcases q13 q hq with h13|h13
      ·exact hgb11 q (.inl h13)
      ·have:=hB12.lt;omega
     ·exact hgb11 q (.inr hq)
 ·have hjn:j=m.code.length:=by omega
  subst hjn;have haim:∀ (q:Nat) y,(bH i m st r m.code.length).1[q]?=some y->XG (bH i m st r m.code.length).2 y:=λq y hy=>GG hTl hled R.rs _ y (List.mem_of_getElem? hy);have eP:nE i m st r=(bH i m st r m.code.length).1.map (yD (bH i m st r m.code.length).2):=rfl;generalize hNN:(bH i m st r m.code.length).1=N at *;generalize hTT:(bH i m st r m.code.length).2=T at *;refine bF (bO.boxed hL.blk) eG kD rfl ?_;obtain ⟨nvs,hnvs,_⟩:=hL.nodes;refine gD mW hnvs ?_;refine ⟨λv w'=>∃ (q:Nat) (M:List aJ),v=i64 q/\q<=N.length/\aF w4 w'/\Lp g m.params.length nv tv w' M T/\M.length=N.length/\∀ a:Nat,M[a]?=if a < q then (N[a]?).map (yD T) else N[a]?,λv _=>N.length - (RowKit.intOf v).toNat,⟨0,N,rfl,Nat.zero_le _,x8,hL,rfl,λa=>by simp⟩,?_⟩;rintro _ w9 ⟨q,M,rfl,hq,x9,hM,hMl,hMa⟩ _;refine aY.2 (aD (λhlt=>?_) λhge2=>?_)
  ·obtain ⟨xs,hox2,hxs⟩:=hM.row;obtain ⟨y,hy⟩:=bC (l:=N) (j:=q) (by omega);have hyM:M[q]?=some y:=by rw [hMa,if_neg (by omega)];exact hy
   obtain ⟨u,hu,asv,rfl,has,hapart⟩:=hxs q y hyM
   obtain ⟨gn,cn,rfl⟩:∃ gn c,nv=.slice (some ⟨gn,0,none⟩) M.length c:=by
    rcases hox2.2 with ⟨_,e⟩|⟨g',c',_,rfl,_⟩
    ·omega
    ·exact ⟨g',c',rfl⟩
   refine lV mW CZ (aA.of_own hox2) (by omega) (by omega) (by simpa using hu) ?_;have D1:aF w9 w9.drew:=(aF.refl _).drew;have hMd:=hM.ext D1;refine aM.mk' (λw'=>aF w9.drew w') (aF.refl _) ?_;refine jM (λw' hx=>bO.boxed (hMd.blk.ext hx)) eG kD rfl ?_;refine aQl (aA.of_own hMd.st) (haim q y hy) λw10 x10=>⟨x10,?_⟩;refine aE.ok (λw' _=>jO underlying31 LO (by omega) (by omega)) ?_;rw [Int.toNat_natCast];have hargs:(yD T y).args=y.args:=by cases y<;>rfl
   have hMl2:(M.set q (yD T y)).length=M.length:=List.length_set;have hgn:=hox2.lt gn rfl;refine (hMd.ext x10).set (n:=yD T y) (by omega) ⟨asv,rfl,by rw [hargs];exact (D1.trans x10).own has,hapart⟩ λw11 hM11 f11=>aU.2 ?_;rw [aC (by omega) (by omega),aR];rw [hMl2] at hM11;refine ⟨⟨q+1,M.set q (yD T y),rfl,by omega,f11.ext (x9.trans (D1.trans x10)) λk hk=>by omega,hM11,by omega,λa=>?_⟩,by simp only [aL];omega⟩;rw [List.getElem?_set];by_cases haq:q=a
   ·subst haq;rw [if_pos rfl,if_pos (by omega),if_pos (by omega),hy];rfl
   ·rw [if_neg haq,hMa];by_cases hlt2:a < q
    ·rw [if_pos hlt2,if_pos (by omega)]
    ·rw [if_neg hlt2,if_neg (by omega)]
  ·have hMe:M=nE i m st r:=by
    rw [eP];apply List.ext_getElem?;intro a;rw [hMa,List.getElem?_map];by_cases ha:a < q
    ·rw [if_pos ha]
    ·rw [if_neg ha,List.getElem?_eq_none (by omega)];rfl
   have hB4E:=((hB4.ext x3).ext x4).ext x9;obtain ⟨xs,hox2,hxs⟩:=hM.row;refine iO (bO.boxed hM.blk) qC rfl ?_;refine zS xO hB4E (l:=[i64 m.params.length,i64 18,nv]) rfl rfl rfl (by simp [jE hox2,zW]) λwE hBE hcE=>?_;refine ⟨_,pZ underlying33 rfl xO hBE rfl,⟨_,rfl⟩,?_⟩;have fE:=rR hcE;have kp:∀ {e:TypeId} {v:Value} {n:Nat} {ys:List Value},w9.ownsRow (g+1) e 1 v n ys->wE.ownsRow (g+1) e 1 v n ys:=λho=>fE.own ho λk hk hS=>by have:=(ho.lt k hk).1;have hS:k=g4:=hS;omega
   refine yes st r nv tv wE ht h0 hkl hw R ?_ (by rw [hTT];exact aA.of_own (kp hM.st)) (hcE.ext _ (x04.trans x9) (by omega));rw [<- hMe];have s04:=x04.size;refine ⟨xs,aX (kp hox2) (by omega),λk y hy=>?_⟩;obtain ⟨u,h4,asv,h5,h6,_⟩:=hxs k y hy;exact ⟨u,h4,asv,h5,aX (kp h6) (by omega)⟩
theorem bAw (h:kK w p i) (hn:kM w i) (hrg:i.rg)
  (yes:∀ st r nv sv w',kY i->0<=k->k < i.methods.length->oZ i (i.meth k) (some st)->AJ i (i.meth k) st [] r->pR w' nv (nE i (i.meth k) st r)->aN w' sv (bH i (i.meth k) st r (i.meth k).code.length).2->aF w w'->K (.tuple #[.agg #[i64 (i.meth k).params.length,i64 18,nv],sv,.bool true]) w')
  (no:∀ w',¬ (kY i/\0<=k/\k < i.methods.length)->aF w w'->K (.tuple #[.agg #[i64 0,i64 0,aZ],aZ,.bool false]) w'):aB prog 9 #[p.val i,i64 k] w K:=
 VR h hn hrg (λst r nv sv w' a b c d e f g x=>yes st r nv sv w' a b c d e f.nodes g x) no
def aJ.isTick:aJ->Bool
 | .tick=>true
 | _=>false
theorem DC {c:Prop} [Decidable c] {a b:Option α} {n:α} (h:(if c then a else b)=some n):(c/\a=some n)\/(¬ c/\b=some n):=by
 by_cases hc:c
 ·rw [if_pos hc] at h;exact .inl ⟨hc,h⟩
 ·rw [if_neg hc] at h;exact .inr ⟨hc,h⟩
theorem aGo {c:Prop} [Decidable c] {a b:Option α} (h:(if c then a else b)=none):(c/\a=none)\/(¬ c/\b=none):=by
 by_cases hc:c
 ·rw [if_pos hc] at h;exact .inl ⟨hc,h⟩
 ·rw [if_neg hc] at h;exact .inr ⟨hc,h⟩
theorem aId (T:List Int) (n:aJ):(yD T n).isTick=n.isTick:=by cases n<;>rfl
theorem SD {h:Nat} {n:aJ} (hn:jD i m x h=some n):n.isTick=false:=by
 unfold jD at hn
 repeat (rcases DC hn with ⟨_,hn⟩|⟨_,hn⟩;· (first|(cases hn;done)|(cases hn;rfl)))
 cases hn;rfl
def FH (l:List aJ):Nat:=l.countP aJ.isTick
def onC (T:List Int):Nat:=T.countP λt=>decide (0<=t)
theorem tW (i:gN) (m:jH) (st:St) (r:List Bool):∀ k,FH (bH i m st r k).1=onC (bH i m st r k).2/\(bH i m st r k).2.length=k/\(bH i m st r k).1.length<=m.locals.length+2*k/\∀ (pc:Nat) (t:Int),(bH i m st r k).2[pc]?=some t->0<=t->(bH i m st r k).1[t.toNat]?=some .tick
 | 0=>by
  refine ⟨?_,rfl,by simp [bH],λpc t h=>by simp [bH] at h⟩;simp [bH,FH,onC,List.countP_eq_zero,aJ.isTick]
 | k+1=>by
  obtain ⟨h1,h2,h3,h4⟩:=tW i m st r k;cases hk:r.getD k false with
  | false=>
   have e:bH i m st r (k+1)=((bH i m st r k).1,(bH i m st r k).2++[-1]):=by simp only [bH,hk];rfl
   rw [e];refine ⟨by simpa [onC] using h1,by simp [h2],by dsimp only;omega,λpc t h h0=>?_⟩;rw [List.getElem?_append] at h;split at h
   ·exact h4 pc t h h0
   ·have:t=-1:=by
     have:=List.mem_of_getElem? h;simpa using this
    omega
  | true=>
   have e:bH i m st r (k+1)=((bH i m st r k).1++.tick::(jD i m (m.ins k) (st.s k).length).toList,(bH i m st r k).2++[((bH i m st r k).1.length:Int)]):=by simp only [bH,hk];rfl
   rw [e]
   have hz:FH (jD i m (m.ins k) (st.s k).length).toList=0:=by
    cases ho:jD i m (m.ins k) (st.s k).length with
    | none=>rfl
    | some n=>simp [FH,SD ho]
   have hl:(jD i m (m.ins k) (st.s k).length).toList.length<=1:=by cases jD i m (m.ins k) (st.s k).length<;>simp
   refine ⟨?_,by simp [h2],by simp;omega,λpc t h h0=>?_⟩
   ·simp only [FH,onC] at h1 hz ⊢;rw [List.countP_append,List.countP_cons,List.countP_append,h1,hz];simp [aJ.isTick]
   ·rw [List.getElem?_append] at h;split at h
    ·have:=h4 pc t h h0;rw [List.getElem?_append_left (List.getElem?_eq_some_iff.1 this).1];exact this
    ·have:t=((bH i m st r k).1.length:Int):=by
      have:=List.mem_of_getElem? h;simpa using this
     subst this;rw [Int.toNat_natCast,List.getElem?_append_right (Nat.le_refl _)];simp
theorem zY (i:gN) (m:jH) (st:St) (r:List Bool):FH (nE i m st r)=onC (bH i m st r m.code.length).2/\(bH i m st r m.code.length).2.length=m.code.length/\(nE i m st r).length<=m.locals.length+2*m.code.length/\∀ (pc:Nat) (t:Int),(bH i m st r m.code.length).2[pc]?=some t->0<=t->(nE i m st r)[t.toNat]?=some .tick:=by
 obtain ⟨h1,h2,h3,h4⟩:=tW i m st r m.code.length;refine ⟨?_,h2,by simpa [nE] using h3,λpc t h h0=>?_⟩
 ·rw [<- h1];show ((bH i m st r m.code.length).1.map _).countP _=_;rw [List.countP_map];exact List.countP_congr λn _=>by simp [aId]
 ·show ((bH i m st r m.code.length).1.map _)[t.toNat]?=_;rw [List.getElem?_map,h4 pc t h h0];rfl
end Go.Proofs.YtjcmcfidblhnnaaGreatDoor
namespace Go.Proofs.YtjcmcfidblhnnaaGreatDoor
open Tryz
open Go.Vc
variable {w:World} {k op:Int} {p:eY} {pv:Value}
theorem aQk (l:List Int):(l.map i64).all cO=true:=by simp [cO]
theorem bDc (l:List Bool):(l.map Value.bool).all cO=true:=by simp [cO]
theorem aCm {v:Value} {l:List Int} (h:aN w v l) (hl:l.length<=4294967296) :
  aB prog 132 #[v] w λr w'=>w'.ownsRow w.heap.size 3 1 r l.length (l.map i64)/\aF w w':=by
 apply aAe;unfold EK;exact TL (R:=λr w'=>w'.ownsRow w.heap.size 3 1 r l.length (l.map i64)/\aF w w') bB h (aQk l) (by omega) λv' w' h1 h2=>⟨h1,h2⟩
theorem TK {v:Value} {l:List Bool} (h:fX w v l) (hl:l.length<=4294967296) :
  aB prog 187 #[v] w λr w'=>w'.ownsRow w.heap.size 4 1 r l.length (l.map Value.bool)/\aF w w':=by
 apply aUl;unfold OD;exact TL (R:=λr w'=>w'.ownsRow w.heap.size 4 1 r l.length (l.map Value.bool)/\aF w w') aDd h (bDc l) (by omega) λv' w' h1 h2=>⟨h1,h2⟩
theorem JC {n:aJ} {v:Value} (h:iX w v n):aB prog 80 #[v] w λr w'=>r=i64 n.df/\aF w w':=by
 obtain ⟨sv,rfl,hs⟩:=h;obtain ⟨sa,sc,rfl⟩:=hs.shape;apply bEe;unfold YG;cases n<;>(dsimp only [aJ.val];(repeat (first|(with_reducible refine th (by first|exact bM|exact fK|exact fY|exact hU|exact gE|exact gO|exact jJ|exact jI|exact lA|exact lE|exact lX|exact oL) ?_)|((with_reducible refine tm (by first|exact bM|exact fK|exact fY|exact hU|exact gE|exact gO|exact jJ|exact jI|exact lA|exact lE|exact lX|exact nI|exact tG|exact oL) (by decide) ?_);intro _ _ _)));first|exact ⟨rfl,aF.refl _⟩|(refine wJ (by first|exact yU|exact tU|exact vN|exact vM|exact tT|exact tS|exact CA|exact yT|exact HW|exact RM|exact RL|exact aYd) rfl rfl λb w1 hb x1=>?_;refine bF hb (by first|exact cY|exact cX|exact cD|exact cW|exact cL|exact cK|exact cC|exact cV|exact cU|exact cT|exact cJ|exact cI|exact cH|exact bT|exact cS|exact bS|exact dF|exact cR|exact cQ|exact dE|exact dD|exact dJ|exact dC|exact dI|exact dU|exact dT|exact eF|exact eR|exact aPv) (by first|exact gQ|exact iH|exact hY|exact iG|exact kI|exact iF|exact kH|exact iE|exact iD|exact bD|exact jB|exact iC|exact dM|exact aH) rfl ?_;exact ⟨rfl,x1⟩))
theorem HM {n:aJ} {v:Value} (h:iX w v n) (hl:n.args.length<=4294967296):aB prog 71 #[v] w λr w'=>w'.ownsRow w.heap.size 3 1 r n.us.length (n.us.map i64)/\aF w w':=by
 obtain ⟨sv,rfl,hs⟩:=h;obtain ⟨sa,sc,rfl⟩:=hs.shape;apply bEn;unfold YP;cases n with
 | const _ _|tick|goto _|getField _ _=>dsimp only [aJ.val];(repeat (first|(with_reducible refine th bM ?_)|((with_reducible refine tm (by first|exact bM|exact fK|exact fY|exact hU|exact gE|exact gO|exact jJ|exact jI|exact lA|exact lE|exact lX|exact nI) (by decide) ?_);intro _ _ _)));exact ⟨World.ownsRow_nil _ _ _ _,aF.refl _⟩
 | move _ a|un _ _ a|branch a _|putField _ a=>
  dsimp only [aJ.val];(repeat (first|(with_reducible refine th (by first|exact bM|exact fK|exact fY|exact hU|exact gE|exact gO|exact jI) ?_)|((with_reducible refine tm (by first|exact bM|exact fK|exact fY|exact hU|exact gO) (by decide) ?_);intro _ _ _)));refine wJ (by first|exact yU|exact tU|exact vN|exact vM|exact tT|exact tS|exact yT) rfl rfl λb w1 hb x1=>?_;refine bF hb (by first|exact cY|exact cX|exact cD|exact cW|exact cL|exact cK|exact cC|exact cV|exact cU|exact cT|exact cJ|exact cI|exact cH|exact bT|exact cS|exact dE) (by first|exact gQ|exact iH|exact hY|exact iG|exact kI|exact iF|exact kH|exact iE|exact iD|exact bD|exact jB|exact iC|exact dM|exact aH) rfl ?_;refine jS (by first|exact bB) [i64 a] rfl rfl (by simp) rfl λv w2 ho x2=>?_;exact ⟨aX ho x1.size,x1.trans x2⟩
 | bin _ _ a c=>
  dsimp only [aJ.val];(repeat (first|(with_reducible refine th (by first|exact bM|exact fK) ?_)|((with_reducible refine tm bM (by decide) ?_);intro _ _ _)));refine wJ tU rfl rfl λb w1 hb x1=>?_;refine bF hb cL aH rfl ?_;refine bF hb cK aH rfl ?_;refine jS bB [i64 a,i64 c] rfl rfl (by simp) rfl λv w2 ho x2=>?_;exact ⟨aX ho x1.size,x1.trans x2⟩
 | choose _ a c d=>
  dsimp only [aJ.val];(repeat (first|(with_reducible refine th (by first|exact bM|exact hU) ?_)|((with_reducible refine tm (by first|exact bM|exact fK|exact fY) (by decide) ?_);intro _ _ _)));refine wJ vM rfl rfl λb w1 hb x1=>?_;refine bF hb cJ aH rfl ?_;refine bF hb cI aH rfl ?_;refine bF hb cH aH rfl ?_;refine jS bB [i64 a,i64 c,i64 d] rfl rfl (by simp) rfl λv w2 ho x2=>?_;exact ⟨aX ho x1.size,x1.trans x2⟩
 | serve _ _ _ _ l|call _ _ l|callX _ _ l=>
  dsimp only [aJ.val];(repeat (first|(with_reducible refine th (by first|exact bM|exact fK|exact fY|exact hU|exact gE|exact gO|exact jJ|exact jI|exact lA|exact lE|exact lX) ?_)|((with_reducible refine tm (by first|exact bM|exact fK|exact fY|exact hU|exact gE|exact gO|exact jJ|exact jI|exact lA|exact lE) (by decide) ?_);intro _ _ _)));refine wJ (by first|exact yU|exact tU|exact vN|exact vM|exact tT|exact tS|exact CA|exact yT|exact HW|exact RM|exact RL) rfl rfl λb w1 hb x1=>?_;refine bF hb (by first|exact cY|exact cX|exact cD|exact cW|exact cL|exact cK|exact cC|exact cV|exact cU|exact cT|exact cJ|exact cI|exact cH|exact bT|exact cS|exact bS|exact dF|exact cR|exact cQ|exact dE|exact dD|exact dJ|exact dC|exact dI|exact dU|exact dT|exact eE) (by first|exact gQ|exact iH|exact hY|exact iG|exact kI|exact iF|exact kH|exact iE|exact iD|exact bD) rfl ?_;exact (aCm (hs.ext x1) hl).mono λr w2 ⟨h1,h2⟩=>⟨aX h1 x1.size,x1.trans h2⟩
 | ret s=>
  dsimp only [aJ.val];(repeat (first|(with_reducible refine th (by first|exact bM|exact nI) ?_)|((with_reducible refine tm (by first|exact bM|exact fK|exact fY|exact hU|exact gE|exact gO|exact jJ|exact jI|exact lA|exact lE|exact lX) (by decide) ?_);intro _ _ _)));refine wJ aEc rfl rfl λb w1 hb x1=>?_;refine bF hb eD aH rfl ?_;refine dB.2 (aD (λhne=>?_) λheq=>?_)
  ·refine bF hb eD aH rfl ?_;refine jS bB [i64 s] rfl rfl (by simp) rfl λv w2 ho x2=>?_;have hu:aJ.us (.ret s)=[s]:=by simp only [aJ.us];rw [if_neg hne]
   rw [hu];exact ⟨aX ho x1.size,x1.trans x2⟩
  ·have hu:aJ.us (.ret s)=[]:=by simp only [aJ.us];rw [if_pos (by omega)]
   rw [hu];exact ⟨World.ownsRow_nil _ _ _ _,x1⟩
theorem VN {n:aJ} {v:Value} (h:iX w v n) (h0:0<=k) (h1:k<=1000000):aB prog 129 #[v,i64 k] w λr w'=>w'.ownsRow w.heap.size 3 1 r (n.nx k).length ((n.nx k).map i64)/\aF w w':=by
 obtain ⟨sv,rfl,hs⟩:=h;obtain ⟨sa,sc,rfl⟩:=hs.shape;apply aWs;unfold QE;have hw:IntKind.i64.wrap (k+1)=k+1:=aC (by omega) (by omega);cases n with
 | goto t=>
  dsimp only [aJ.val];refine uT.2 (aP.2 ?_)
  (repeat (first|(with_reducible refine th (by first|exact bM|exact gE) ?_)|((with_reducible refine tm bM (by decide) ?_);intro _ _ _)))
  refine wJ tT rfl rfl λb w1 hb x1=>?_;refine bF hb bT aH rfl ?_;refine jS bB [i64 t] rfl rfl (by simp) rfl λv w2 ho x2=>?_;exact ⟨aX ho x1.size,x1.trans x2⟩
 | ret s=>
  dsimp only [aJ.val];refine uT.2 (aP.2 ?_)
  (repeat (first|(with_reducible refine th (by first|exact bM|exact nI) ?_)|((with_reducible refine tm (by first|exact bM|exact fK|exact fY|exact hU|exact gE|exact gO) (by decide) ?_);intro _ _ _)))
  refine wJ aEc rfl rfl λb w1 hb x1=>?_;exact ⟨World.ownsRow_nil _ _ _ _,x1⟩
 | branch c t=>
  dsimp only [aJ.val];refine uT.2 (aP.2 ?_)
  (repeat (first|(with_reducible refine th (by first|exact bM|exact gO) ?_)|((with_reducible refine tm (by first|exact bM|exact gE) (by decide) ?_);intro _ _ _)))
  refine wJ tS rfl rfl λb w1 hb x1=>?_;refine bF hb bS aH rfl ?_;refine aU.2 ?_;rw [hw];refine dB.2 (aD (λhne=>?_) λheq=>?_)
  ·refine aU.2 ?_;rw [hw];refine bF hb bS aH rfl ?_;refine jS bB [i64 (k+1),i64 t] rfl rfl (by simp) rfl λv w2 ho x2=>?_;have hu:aJ.nx (.branch c t) k=[k+1,t]:=by simp only [aJ.nx];rw [if_neg hne]
   rw [hu];exact ⟨aX ho x1.size,x1.trans x2⟩
  ·refine aU.2 ?_;rw [hw];refine jS bB [i64 (k+1)] rfl rfl (by simp) rfl λv w2 ho x2=>?_;have hu:aJ.nx (.branch c t) k=[k+1]:=by simp only [aJ.nx];rw [if_pos (by omega)]
   rw [hu];exact ⟨aX ho x1.size,x1.trans x2⟩
 | _=>
  dsimp only [aJ.val];refine uT.2 (aP.2 ?_)
  (repeat (first|(with_reducible refine th bM ?_)|((with_reducible refine tm (by first|exact bM|exact fK|exact fY|exact hU|exact gE|exact gO|exact jJ|exact jI|exact lA|exact lE|exact lX|exact nI) (by decide) ?_);intro _ _ _)))
  refine aU.2 ?_;rw [hw];refine jS (by first|exact bB) [i64 (k+1)] rfl rfl (by simp) rfl λv w2 ho x2=>?_;exact ⟨ho,x2⟩
theorem DM {n c:Int}:aB prog 65 #[i64 n,i64 c] w λr w'=>r=.bool (decide (0<=n/\n < c))/\w'=w:=by
 apply bEt;unfold YV;refine kN.2 ?_;by_cases h:n>=0
 ·simp only [h,decide_true,oU,reduceIte,aY,aW];have h':0<=n:=h;simp []
 ·simp only [h,decide_false,oU,Bool.false_eq_true,reduceIte,aW];have h':¬ 0<=n:=h;simp []
def qP (op:Int):Int:=
 if op=27\/op=28 then 1 else if op=17\/op=18\/op=29 then 2 else if op=30\/op=36 then 3 else if op=31\/op=32 then 5 else -1
def VJ (op:Int):Prop:=(6<=op/\op<=14)\/(19<=op/\op<=21)
def aOr (op:Int):Prop:=op=15\/op=16\/op=26
def aJ.okF:aJ->Prop
 | .bin op _ _ _=>VJ op
 | .un op _ _=>aOr op
 | .getField _ f=>0<=f/\f < 8
 | .putField f _=>0<=f/\f < 8
 | .serve op _ _ _ l=>qP op=l.length
 | .call m _ l=>(0<=m/\m < 8)/\l.length<=4
 | .callX i _ l=>(0<=i/\i < 4)/\l.length<=4
 | _=>True
def aJ.bareN:aJ->Bool
 | .const _ _|.move _ _|.bin _ _ _ _|.un _ _ _|.choose _ _ _ _|.getField _ _=>false
 | _=>true
theorem aCr:aB prog 183 #[i64 op] w λr w'=>(∃ b,r=.bool b/\(b=true↔VJ op))/\w'=w:=by
 apply aUp
 have key:∀ R:Value->World->Prop,(∀ b:Bool,(b=true↔VJ op)->R (.bool b) w)->EH (i64 op) w R:=by
  intro R hR;unfold EH
  by_cases h1:op>=6<;>by_cases h2:op<=14<;>by_cases h3:op>=19<;>by_cases h4:op<=21 <;>
   simp only [h1,h2,h3,h4,tK,kN,lU,oV,tI,lI,qV,aW,reduceIte,Bool.false_eq_true,decide_true,decide_false]<;>exact hR _ (by simp [VJ];omega)
 exact key _ λb hb=>⟨⟨b,rfl,hb⟩,rfl⟩
theorem aDn:aB prog 184 #[i64 op] w λr w'=>(∃ b,r=.bool b/\(b=true↔aOr op))/\w'=w:=by
 apply aUo
 have key:∀ R:Value->World->Prop,(∀ b:Bool,(b=true↔aOr op)->R (.bool b) w)->EG (i64 op) w R:=by
  intro R hR;unfold EG
  rcases Bool.eq_false_or_eq_true (decide (op=15)) with e1|e1<;>rcases Bool.eq_false_or_eq_true (decide (op=16)) with e2|e2<;>rcases Bool.eq_false_or_eq_true (decide (op=26)) with e3|e3 <;>
   simp only [e1,e2,e3,aK,oV,tI,aW,reduceIte,Bool.false_eq_true]<;>exact hR _ (by simp at e1 e2 e3;simp [aOr];omega)
 exact key _ λb hb=>⟨⟨b,rfl,hb⟩,rfl⟩
theorem aAr:aB prog 185 #[i64 op] w λr w'=>r=i64 (qP op)/\w'=w:=by
 apply aUn;unfold OG;refine ⟨λv w'=>v=.bool (decide (op=27\/op=28))/\w'=w,?_,?_⟩
 ·refine aK.2 (aD (λh=>?_) λh=>aK.2 ?_)<;>exact ⟨by simp [h],rfl⟩
 rintro _ w1 ⟨rfl,rfl⟩ _;refine aD (λh=>⟨by simp [qP,h],rfl⟩) λh1=>?_;refine ⟨λv w'=>v=.bool (decide (op=17\/op=18\/op=29))/\w'=w1,?_,?_⟩
 ·refine aK.2 (aD (λh=>?_) λh=>aK.2 (aD (λh'=>?_) λh'=>aK.2 ?_))
  ·exact ⟨by simp [h],rfl⟩
  ·exact ⟨by simp [h'],rfl⟩
  ·exact ⟨by simp [h,h'],rfl⟩
 rintro _ w2 ⟨rfl,rfl⟩ _;refine aD (λh=>⟨by simp [qP,h1,h],rfl⟩) λh2=>?_;refine ⟨λv w'=>v=.bool (decide (op=30\/op=36))/\w'=w2,?_,?_⟩
 ·refine aK.2 (aD (λh=>?_) λh=>aK.2 ?_)<;>exact ⟨by simp [h],rfl⟩
 rintro _ w3 ⟨rfl,rfl⟩ _;refine aD (λh=>⟨by simp [qP,h1,h2,h],rfl⟩) λh3=>?_;refine aK.2 (aD (λh=>?_) λh=>?_)
 ·exact aD (λ_=>⟨by subst h;rfl,rfl⟩) λh'=>absurd h h'
 refine aK.2 (aD (λh'=>?_) λh'=>?_)
 ·exact ⟨by subst h';rfl,rfl⟩
 ·exact ⟨by simp [qP,h1,h2,h3,h,h'],rfl⟩
theorem aCb {n:aJ} {v:Value} (h:iX w v n):aB prog 128 #[v] w λr w'=>(∃ b,r=.bool b/\(b=true↔n.okF))/\aF w w':=by
 obtain ⟨sv,rfl,hs⟩:=h;obtain ⟨sa,sc,rfl⟩:=hs.shape;apply aWt;unfold QF;cases n with
 | bin op _ _ _=>
  dsimp only [aJ.val];(repeat (first|(with_reducible refine th (by first|exact bM|exact fK) ?_)|((with_reducible refine tm bM (by decide) ?_);intro _ _ _)));refine wJ tU rfl rfl λb w1 hb x1=>?_;refine bF hb cD aH rfl ?_;exact aCr.mono λr w2 ⟨h1,h2⟩=>⟨h1,h2▸x1⟩
 | un op _ _=>
  dsimp only [aJ.val];(repeat (first|(with_reducible refine th (by first|exact bM|exact fY) ?_)|((with_reducible refine tm (by first|exact bM|exact fK) (by decide) ?_);intro _ _ _)));refine wJ vN rfl rfl λb w1 hb x1=>?_;refine bF hb cC aH rfl ?_;exact aDn.mono λr w2 ⟨h1,h2⟩=>⟨h1,h2▸x1⟩
 | getField _ f|putField f _=>
  dsimp only [aJ.val];(repeat (first|(with_reducible refine th (by first|exact bM|exact fK|exact fY|exact hU|exact gE|exact gO|exact jJ|exact jI) ?_)|((with_reducible refine tm (by first|exact bM|exact fK|exact fY|exact jJ) (by decide) ?_);intro _ _ _)));refine wJ (by first|exact yU|exact tU|exact vN|exact vM|exact tT|exact tS|exact CA|exact yT) rfl rfl λb w1 hb x1=>?_;refine bF hb (by first|exact cY|exact cX|exact cD|exact cW|exact cL|exact cK|exact cC|exact cV|exact cU|exact cT|exact cJ|exact cI|exact cH|exact bT|exact cS|exact bS|exact dF|exact cR|exact cQ) (by first|exact gQ|exact iH|exact hY|exact iG|exact kI|exact iF|exact kH|exact iE|exact iD|exact bD|exact jB|exact iC|exact dM|exact aH) rfl ?_;exact DM.mono λr w2 ⟨h1,h2⟩=>⟨⟨_,h1,by simp [aJ.okF]⟩,h2▸x1⟩
 | serve op _ _ _ l=>
  dsimp only [aJ.val];(repeat (first|(with_reducible refine th (by first|exact bM|exact lA) ?_)|((with_reducible refine tm (by first|exact bM|exact fK|exact fY|exact hU|exact gE|exact gO|exact jJ|exact jI) (by decide) ?_);intro _ _ _)));refine wJ HW rfl rfl λb w1 hb x1=>?_;refine aM.mk' (λw'=>bG w' b _) (hb.ext (aF.refl _).drew) ?_;refine aE.ok (λw' hw=>dD.ex w' b 0) ?_;refine aE.ok (λw' hw=>aEt (hw 0 _ rfl)) ?_;refine aE.ok (λw' hw=>dC.ex w' b 0) ?_;refine aE.ok (λw' hw=>UV (hw 4 _ rfl)) ?_;refine aE.ok (λw' hw=>uZ underlying23) ?_;refine aAr.mono λr w2 ⟨h1,h2⟩=>?_;subst h1 h2;refine ⟨hb.ext (aF.refl _).drew,?_⟩;refine aE.ok (λw' hw=>CM) ?_;exact ⟨⟨_,rfl,decide_eq_true_iff⟩,x1.drew⟩
 | call m _ l|callX m _ l=>
  dsimp only [aJ.val];(repeat (first|(with_reducible refine th (by first|exact bM|exact fK|exact fY|exact hU|exact gE|exact gO|exact jJ|exact jI|exact lA|exact lE|exact lX) ?_)|((with_reducible refine tm (by first|exact bM|exact fK|exact fY|exact hU|exact gE|exact gO|exact jJ|exact jI|exact lA|exact lE) (by decide) ?_);intro _ _ _)));refine wJ (by first|exact yU|exact tU|exact vN|exact vM|exact tT|exact tS|exact CA|exact yT|exact HW|exact RM|exact RL) rfl rfl λb w1 hb x1=>?_;refine bF hb (by first|exact cY|exact cX|exact cD|exact cW|exact cL|exact cK|exact cC|exact cV|exact cU|exact cT|exact cJ|exact cI|exact cH|exact bT|exact cS|exact bS|exact dF|exact cR|exact cQ|exact dE|exact dD|exact dJ|exact dC|exact dI|exact eF) (by first|exact gQ|exact iH|exact hY|exact iG|exact kI|exact iF|exact kH|exact iE|exact iD|exact bD|exact jB|exact iC|exact dM|exact aH) rfl ?_;refine DM.mono λr w2 ⟨h1,h2⟩=>?_;subst h1 h2;refine oU.2 ?_;split
  ·rename_i hin
   refine V.ok (FA.ex (by first|exact cY|exact cX|exact cD|exact cW|exact cL|exact cK|exact cC|exact cV|exact cU|exact cT|exact cJ|exact cI|exact cH|exact bT|exact cS|exact bS|exact dF|exact cR|exact cQ|exact dE|exact dD|exact dJ|exact dC|exact dI|exact dU|exact dT|exact eE) _ _ _) (oU.2 ?_);rw [if_pos hin];refine V.ok (UV (hb 2 _ rfl)) (oU.2 ?_);rw [if_pos hin];refine V.ok (uZ underlying23) (oU.2 ?_);rw [if_pos hin];refine tK.2 (jW ?_);rw [if_pos hin];have:=of_decide_eq_true hin;exact ⟨⟨_,rfl,decide_eq_true_iff.trans ⟨λh=>⟨this,by simp only [aJ.args] at h;omega⟩,λh=>by have:=h.2;simp only [aJ.args];omega⟩⟩,x1⟩
  ·rename_i hin
   refine oU.2 ?_;rw [if_neg hin];refine oU.2 ?_;rw [if_neg hin];refine oU.2 ?_;rw [if_neg hin];refine jW ?_;rw [if_neg hin];exact ⟨⟨_,rfl,by simp [aJ.okF] at hin ⊢;omega⟩,x1⟩
 | _=>dsimp only [aJ.val];(repeat (first|(with_reducible refine th bM ?_)|((with_reducible refine tm (by first|exact bM|exact fK|exact fY|exact hU|exact gE|exact gO|exact jJ|exact jI|exact lA|exact lE|exact lX) (by decide) ?_);intro _ _ _)));refine TV.2 ?_;exact ⟨⟨_,rfl,by simp [aJ.okF]⟩,aF.refl _⟩
theorem aQe {n:aJ} {v:Value} (h:iX w v n):aB prog 130 #[v] w λr w'=>r=.bool n.bareN/\w'=w:=by
 obtain ⟨sv,rfl,hs⟩:=h;apply aWr
 have key:∀ R:Value->World->Prop,R (.bool n.bareN) w->EL (n.val sv) w R:=by
  intro R hR;unfold EL;cases n<;>simp only [aJ.val,aQm,aIj,aIi,aIh,aIg,aIf,gS,gR,reduceIte,Nat.reduceEqDiff,aW,bK,aP,Bool.false_eq_true]<;>exact hR
 exact key _ ⟨rfl,rfl⟩
structure pC (n:aJ) (k regs count:Int):Prop where
 f:n.okF
 u:∀ r∈n.us,0<=r/\r < regs
 t:∀ r∈n.nx k,0<=r/\r < count
 d:(0<=n.df/\n.df < regs)\/(n.df=-1/\n.bareN=true)
theorem aEg {nv:Value} {n:aJ} (hp:pD w pv p) (hn:iX w nv n) (hl:n.args.length<=4294967296) (h0:0<=k) (h1:k<=1000000) :
  aB prog 66 #[pv,nv,i64 k] w λr w'=>(∃ b,r=.bool b/\(b=true↔pC n k p.regs p.nodes.length))/\aF w w':=by
 obtain ⟨ns,rfl,⟨vs,hs,_⟩,_⟩:=hp;apply bEs;unfold YU;refine bx λb w1 hb x1=>?_;refine (aCb (hn.ext x1)).mono λr w2 ⟨⟨bf,hr,hbf⟩,x2⟩=>?_;subst hr;refine dK.2 (aI.mk (λhf=>?_) λhf=>?_)
 ·refine ⟨⟨false,rfl,⟨(λh=>by cases h),λh=>?_⟩⟩,x1.trans x2⟩;have:=hbf.2 h.f;subst this;cases hf
 have hok:n.okF:=hbf.1 (by cases bf<;>simp_all);refine (HM (hn.ext (x1.trans x2)) hl).mono λul w3 ⟨hu',x3⟩=>?_;have hu:aN w3 ul n.us:=aA.of_own hu';clear hu';have X3:=x1.trans (x2.trans x3);have hb3:=hb.ext (x2.trans x3);have hlen:=aDm n;refine gD aQ hu ?_
 refine ⟨λv w'=>∃ j:Nat,v=i64 j/\j<=n.us.length/\aF w3 w'/\∀ (i:Nat) u,i < j->n.us[i]?=some u->0<=u/\u < p.regs,λv _=>n.us.length - (RowKit.intOf v).toNat,
  ⟨0,rfl,by omega,aF.refl _,λi u hi=>by omega⟩,?_⟩
 rintro _ w4 ⟨j,rfl,hj,x4,hall⟩ _;refine aY.2 (aD (λhlt=>?_) λhge=>?_)
 ·have hlt':j < n.us.length:=by omega
  obtain ⟨u,hu'⟩:=bC hlt';refine lV aQ aH (hu.ext x4) (by omega) (by omega) (cG hu') ?_;refine bF (hb3.ext x4) gA aH rfl ?_;refine DM.mono λr w5 ⟨hr,hw⟩=>?_;subst hr hw;refine dK.2 (aI.mk (λhf=>?_) λhf=>?_)
  ·refine ⟨⟨false,rfl,⟨(λh=>by cases h),λh=>?_⟩⟩,X3.trans x4⟩;have:=h.u u (List.mem_of_getElem? hu');simp [this] at hf
  ·have hin:0<=u/\u < p.regs:=by simpa using hf
   refine aU.2 ?_;rw [aC (by omega) (by omega),aR];refine ⟨⟨j+1,rfl,by omega,x4,λi u' hi hu2=>?_⟩,by simp only [aL];omega⟩;by_cases hij:i=j
   ·subst hij;rw [hu'] at hu2;cases hu2;exact hin
   ·exact hall i u' (by omega) hu2
 have hju:j=n.us.length:=by omega
 have hus:∀ r∈n.us,0<=r/\r < p.regs:=λr hr=>by
  obtain ⟨i,hi⟩:=List.getElem?_of_mem hr;exact hall i r (by have:=(List.getElem?_eq_some_iff.1 hi).1;omega) hi
 have X4:=X3.trans x4;have hb4:=hb3.ext x4;refine (VN (hn.ext X4) h0 h1).mono λtl w5 ⟨ht',x5⟩=>?_;have ht:aN w5 tl (n.nx k):=aA.of_own ht';clear ht';have X5:=X4.trans x5;have hb5:=hb4.ext x5;have hlen2:=aFk n k;refine gD aQ ht ?_
 refine ⟨λv w'=>∃ j:Nat,v=i64 j/\j<=(n.nx k).length/\aF w5 w'/\∀ (i:Nat) u,i < j->(n.nx k)[i]?=some u->0<=u/\u < p.nodes.length,λv _=>(n.nx k).length - (RowKit.intOf v).toNat,
  ⟨0,rfl,by omega,aF.refl _,λi u hi=>by omega⟩,?_⟩
 rintro _ w6 ⟨j2,rfl,hj2,x6,hall2⟩ _;refine aY.2 (aD (λhlt=>?_) λhge2=>?_)
 ·have hlt':j2 < (n.nx k).length:=by omega
  obtain ⟨u,hu'⟩:=bC hlt';refine lV aQ aH (ht.ext x6) (by omega) (by omega) (cG hu') ?_;refine bF (hb5.ext x6) eG kD rfl ?_;refine gD mW (hs.ext (X5.trans x6)) ?_;refine DM.mono λr w7 ⟨hr,hw⟩=>?_;subst hr hw;refine dK.2 (aI.mk (λhf=>?_) λhf=>?_)
  ·refine ⟨⟨false,rfl,⟨(λh=>by cases h),λh=>?_⟩⟩,X5.trans x6⟩;have:=h.t u (List.mem_of_getElem? hu');simp [this] at hf
  ·have hin:0<=u/\u < p.nodes.length:=by simpa using hf
   refine aU.2 ?_;rw [aC (by omega) (by omega),aR];refine ⟨⟨j2+1,rfl,by omega,x6,λi u' hi hu2=>?_⟩,by simp only [aL];omega⟩;by_cases hij:i=j2
   ·subst hij;rw [hu'] at hu2;cases hu2;exact hin
   ·exact hall2 i u' (by omega) hu2
 have hns:∀ r∈n.nx k,0<=r/\r < p.nodes.length:=λr hr=>by
  obtain ⟨i,hi⟩:=List.getElem?_of_mem hr;exact hall2 i r (by have:=(List.getElem?_eq_some_iff.1 hi).1;omega) hi
 have X6:=X5.trans x6;have hb6:=hb5.ext x6;refine (JC (hn.ext X6)).mono λr w7 ⟨hr,x7⟩=>?_;subst hr;refine bF (hb6.ext x7) gA aH rfl ?_;refine DM.mono λr w8 ⟨hr,hw⟩=>?_;subst hr hw;have X7:=X6.trans x7;by_cases hd:0<=n.df/\n.df < p.regs
 ·simp only [decide_eq_true hd,tI,qV,aW,reduceIte];exact ⟨⟨true,rfl,⟨λ_=>⟨hok,hus,hns,.inl hd⟩,λ_=>rfl⟩⟩,X7⟩
 ·simp only [decide_eq_false hd,oV,aW,aK];by_cases hm:n.df=-1
  ·simp only [decide_eq_true hm,lU];refine (aQe (hn.ext X7)).mono λr w9 ⟨hr,hw⟩=>?_;subst hr hw;refine ⟨⟨n.bareN,by simp,⟨λhb=>⟨hok,hus,hns,.inr ⟨hm,hb⟩⟩,λh=>?_⟩⟩,X7⟩;rcases h.d with h|h
   ·exact absurd h hd
   ·exact h.2
  ·simp only [decide_eq_false hm,lI];refine ⟨⟨false,by simp,⟨(λh=>by cases h),λh=>?_⟩⟩,X7⟩;rcases h.d with h|h
   ·exact absurd h hd
   ·exact absurd h.1 hm
structure kJ (p:eY):Prop where
 l1:1<=p.nodes.length
 l2:p.nodes.length<=250
 r1:0<=p.regs
 r2:p.regs<=40
 p1:0<=p.params
 p2:p.params<=4
 p3:p.params<=p.regs
 nodes:∀ (i:Nat) n,p.nodes[i]?=some n->pC n i p.regs p.nodes.length
theorem uC (hp:pD w pv p) (hv:kJ p) :
  aB prog 35 #[pv] w λr w'=>r=.bool true/\aF w w':=by
 obtain ⟨ns,rfl,hn,hargs⟩:=hp;have hn':=hn;obtain ⟨vs,hs,hvs⟩:=hn';obtain ⟨l1,l2,r1,r2,p1,p2,p3,hnodes⟩:=hv;apply bFq;unfold ZP;refine bx λb w1 hb x1=>?_;refine bF hb eG kD rfl (gD mW (hs.ext x1) (aY.2 ?_));simp only [show decide ((p.nodes.length:Int) < 1)=false from by simp;omega,oV];refine bF hb eG kD rfl (gD mW (hs.ext x1) (iR.2 ?_));simp only [show decide ((p.nodes.length:Int) > 250)=false from by simp;omega,aW,Bool.false_eq_true,reduceIte,oV];refine bF hb gA aH rfl ?_;refine DM.mono λr w5 ⟨hr,hw⟩=>?_;subst hr hw;simp only [show decide (0<=p.regs/\p.regs < 41)=true from by simp;omega,dK,Bool.not_true,aW,Bool.false_eq_true,reduceIte,oV];refine bF hb kW aH rfl ?_;refine DM.mono λr w5 ⟨hr,hw⟩=>?_;subst hr hw;simp only [show decide (0<=p.params/\p.params < 5)=true from by simp;omega,dK,Bool.not_true,aW,Bool.false_eq_true,reduceIte,oV];refine bF hb kW aH rfl (bF hb gA aH rfl (iR.2 ?_));simp only [show decide (p.params > p.regs)=false from by simp;omega,aP];refine bF hb eG kD rfl (gD mW (hs.ext x1) ?_);refine ⟨λv w'=>∃ j:Nat,v=i64 j/\j<=p.nodes.length/\aF w5 w',λv _=>p.nodes.length - (RowKit.intOf v).toNat,⟨0,rfl,by omega,aF.refl _⟩,?_⟩;rintro _ w6 ⟨j,rfl,hj,x6⟩ _;refine aY.2 (aD (λhlt=>?_) λhge=>⟨trivial,x1.trans x6⟩)
 have hlt':j < p.nodes.length:=by omega
 obtain ⟨n,hn1⟩:=bC hlt';obtain ⟨u,hu,hnu⟩:=hvs j n hn1;have hb6:=hb.ext x6;refine lV mW CZ (hs.ext (x1.trans x6)) (by omega) (by omega) (by simpa using hu) ?_;refine iO hb6 qC rfl ?_;refine (aEg (p:=p) ⟨ns,rfl,hn.ext (x1.trans x6),hargs⟩ (hnu.ext (x1.trans x6)) (hargs n (List.mem_of_getElem? hn1)) (by omega) (by omega)).mono λr w7 ⟨⟨bb,hr,hbb⟩,x7⟩=>?_;subst hr;have:=hbb.2 (hnodes j n hn1);subst this;refine dK.2 (aP.2 (aU.2 ?_));rw [aC (by omega) (by omega),aR];exact ⟨⟨j+1,rfl,by omega,x6.trans x7⟩,by simp only [aL];omega⟩
end Go.Proofs.YtjcmcfidblhnnaaGreatDoor
namespace Go.Proofs.YtjcmcfidblhnnaaGreatDoor
open Tryz
open Go.Vc Go.Tc
variable {i:gN} {m:jH} {x:lC} {k:Nat}
def aIp (n:aJ):Prop:=n.okF/\(∀ r∈n.us,0<=r/\r < 18)/\((0<=n.df/\n.df < 18)\/(n.df=-1/\n.bareN=true))
theorem HX {h n:Nat} (h1:n<=h) (h2:h<=8):∀ r∈tM h n,0<=r/\r < 18:=λr hr=>by
 simp only [tM,List.mem_map,List.mem_range] at hr;obtain ⟨k,hk,rfl⟩:=hr;omega
theorem CD (h n:Nat):(tM h n).length=n:=by simp [tM]
theorem aGa {h:Nat} {n:aJ} (ox:zN i m x) (h8:h<=8) (ha:(aV i m x).length<=h) (hg:h - (aV i m x).length+hgt i m x<=8) (hn:jD i m x h=some n):aIp n:=by
 have xr:=ox.xr;have hop:=xr.1;have hl:=xr.2.1;have hu:=xr.2.2.1;have nm:=ox.nm;have pl:=ox.mr.1.2;have ll:=ox.mr.2.2.1.2;have fl:=ox.ir.1.2;have locl:m.locs.length<=10:=by simp [jH.locs];omega
 unfold jD at hn;by_cases d0:x.op=1
 ·rw [if_pos d0] at hn;cases hn;have e1:hgt i m x=1:=by simp [hgt,iV,d0]
  have e2:aV i m x=[]:=by simp [aV,d0,kE]
  rw [e1,e2] at hg;exact ⟨trivial,by simp [aJ.us],.inl (by simp only [aJ.df];simp at hg;omega)⟩
 rw [if_neg d0] at hn;by_cases d1:x.op=2
 ·rw [if_pos d1] at hn;cases hn;have e1:hgt i m x=1:=by simp [hgt,iV,d1]
  have e2:aV i m x=[]:=by simp [aV,d1,kE]
  rw [e1,e2] at hg;simp only [eZ,d1,true_or,if_true] at nm;simp [lim,d1] at hl hu;exact ⟨trivial,by simp [aJ.us];omega,.inl (by simp only [aJ.df];simp at hg;omega)⟩
 rw [if_neg d1] at hn;by_cases d2:x.op=3
 ·rw [if_pos d2] at hn;cases hn;have e2:(aV i m x).length=1:=by simp [aV,d2]
  simp [lim,d2] at hl hu;exact ⟨trivial,by simp [aJ.us];omega,.inl (by simp only [aJ.df];omega)⟩
 rw [if_neg d2] at hn;by_cases d3:x.op=4
 ·rw [if_pos d3] at hn;cases hn
 rw [if_neg d3] at hn;by_cases d4:x.op=5
 ·rw [if_pos d4] at hn;cases hn;have e1:hgt i m x=2:=by simp [hgt,iV,d4]
  have e2:(aV i m x).length=1:=by simp [aV,d4]
  rw [e1,e2] at hg;exact ⟨trivial,by simp [aJ.us];omega,.inl (by simp only [aJ.df];omega)⟩
 rw [if_neg d4] at hn;by_cases d5:x.op=15\/x.op=16\/x.op=26
 ·rw [if_pos d5] at hn;cases hn;have e2:(aV i m x).length=1:=by rcases d5 with d5|d5|d5<;>simp [aV,d5,kE]
  exact ⟨d5,by simp [aJ.us];omega,.inl (by simp only [aJ.df];omega)⟩
 rw [if_neg d5] at hn;by_cases d6:x.op=22
 ·rw [if_pos d6] at hn;cases hn;have e2:(aV i m x).length=3:=by simp [aV,d6,kE]
  exact ⟨trivial,by simp [aJ.us];omega,.inl (by simp only [aJ.df];omega)⟩
 rw [if_neg d6] at hn;by_cases c1:x.op=23
 ·rw [if_pos c1] at hn;cases hn;exact ⟨trivial,by simp [aJ.us],.inr ⟨rfl,rfl⟩⟩
 rw [if_neg c1] at hn;by_cases c2:x.op=24
 ·rw [if_pos c2] at hn;cases hn;have e2:(aV i m x).length=1:=by simp [aV,c2,kE]
  exact ⟨trivial,by simp [aJ.us];omega,.inr ⟨rfl,rfl⟩⟩
 rw [if_neg c2] at hn;by_cases d9:x.op=25
 ·rw [if_pos d9] at hn;cases hn;have e1:hgt i m x=1:=by simp [hgt,iV,d9,kE]
  have e2:aV i m x=[]:=by simp [aV,d9,kE]
  rw [e1,e2] at hg;exact ⟨trivial,by simp [aJ.us],.inl (by simp only [aJ.df];simp at hg;omega)⟩
 rw [if_neg d9] at hn;by_cases d10:x.op=35
 ·rw [if_pos d10] at hn;cases hn;have e1:hgt i m x=1:=by simp [hgt,iV,d10,kE]
  have e2:aV i m x=[]:=by simp [aV,d10,kE]
  rw [e1,e2] at hg;exact ⟨trivial,by simp [aJ.us],.inl (by simp only [aJ.df];simp at hg;omega)⟩
 rw [if_neg d10] at hn;by_cases d11:x.op=33
 ·rw [if_pos d11] at hn;cases hn;have e1:hgt i m x=1:=by simp [hgt,iV,d11]
  have e2:aV i m x=[]:=by simp [aV,d11,kE]
  rw [e1,e2] at hg;simp [lim,d11] at hl hu;exact ⟨⟨by omega,by omega⟩,by simp [aJ.us],.inl (by simp only [aJ.df];simp at hg;omega)⟩
 rw [if_neg d11] at hn;by_cases d12:x.op=34
 ·rw [if_pos d12] at hn;cases hn;have e2:(aV i m x).length=1:=by simp [aV,d12]
  simp [lim,d12] at hl hu;exact ⟨⟨by omega,by omega⟩,by simp [aJ.us];omega,.inr ⟨rfl,rfl⟩⟩
 rw [if_neg d12] at hn
 have res:∀ {r:Int} {q:Nat},q<=h->h - q+(mF r).length<=8->(0<=CJ r ((h:Int) - (q:Nat))/\CJ r ((h:Int) - (q:Nat)) < 18)\/CJ r ((h:Int) - (q:Nat))=-1:=λ{r q} hq hr=>by
  unfold CJ mF at *;by_cases h0:r=0
  ·rw [if_pos h0];exact .inr rfl
  ·rw [if_neg h0] at hr ⊢;simp at hr;exact .inl (by omega)
 by_cases d13:x.op=37
 ·rw [if_pos d13] at hn;cases hn;have e1:hgt i m x=(mF (i.meth x.a).result).length:=by simp [hgt,iV,d13,kE]
  have e2:aV i m x=(i.meth x.a).params:=by simp [aV,d13,kE]
  rw [e2] at ha hg;rw [e1] at hg;simp [lim,d13] at hl hu;simp [eZ,d13] at nm;have hp:=(ox.ir.2.2.1.2.1 _ (gN.meth_mem hl nm)).1.2;refine ⟨⟨⟨by omega,by omega⟩,by rw [CD];omega⟩,λr hr=>HX ha h8 r hr,?_⟩;rcases res ha hg with h1|h1
  ·exact .inl h1
  ·exact .inr ⟨h1,rfl⟩
 rw [if_neg d13] at hn;by_cases d14:x.op=38
 ·rw [if_pos d14] at hn;cases hn;have e1:hgt i m x=(mF (i.imp x.a).result).length:=by simp [hgt,iV,d14,kE]
  have e2:aV i m x=(i.imp x.a).params:=by simp [aV,d14,kE]
  rw [e2] at ha hg;rw [e1] at hg;simp [lim,d14] at hl hu;simp [eZ,d14] at nm;have hp:=(ox.ir.2.1.2 _ (gN.imp_mem hl nm)).2.1.2;refine ⟨⟨⟨by omega,by omega⟩,by rw [CD];omega⟩,λr hr=>HX ha h8 r hr,?_⟩;rcases res ha hg with h1|h1
  ·exact .inl h1
  ·exact .inr ⟨h1,rfl⟩
 rw [if_neg d14] at hn;by_cases d15:x.op=39
 ·rw [if_pos d15] at hn;cases hn;have e2:aV i m x=mF m.result:=by simp [aV,d15,kE]
  rw [e2] at ha;refine ⟨trivial,λr hr=>?_,.inr ⟨rfl,rfl⟩⟩;simp only [aJ.us] at hr;split at hr
  ·simp at hr
  ·rename_i hne
   simp only [List.mem_singleton] at hr;unfold CJ at hr hne;unfold mF at ha;by_cases h0:m.result=0
   ·rw [if_pos h0] at hne;exact absurd rfl hne
   ·rw [if_neg h0] at hr ha;simp at ha;omega
 rw [if_neg d15] at hn;by_cases d16:(mE x.op).1≠0
 ·rw [if_pos d16] at hn;cases hn
  have e0:x.op=27\/x.op=28\/x.op=17\/x.op=18\/x.op=29\/x.op=30\/x.op=36\/x.op=31\/x.op=32:=by
   apply Classical.byContradiction;intro hne;apply d16;simp only [mE];rw [if_neg (by omega),if_neg (by omega),if_neg (by omega),if_neg (by omega),if_neg (by omega)]
  rcases e0 with e|e|e|e|e|e|e|e|e <;>
   (have e1:(aV i m x).length=(mE x.op).1.toNat:=by simp [aV,mE,e,kE]
    have e2:hgt i m x=if (mE x.op).2 then 1 else 0:=by first|(simp [hgt,iV,mE,e,kE];done)|(simp [hgt,iV,mE,e,kE];split<;>rfl)
    simp [mE,e] at e1 e2;refine ⟨by simp [aJ.okF,qP,CD,mE,e],λr hr=>HX (n:=(mE x.op).1.toNat) (by simp [mE,e];omega) h8 r hr,?_⟩;simp [aJ.df,aJ.bareN,mE,e]
    try omega)
 ·rw [if_neg d16] at hn;cases hn
  have e0:kE x.op:=by
   have d16':(mE x.op).1=0:=by simpa using d16
   unfold kE;simp only [mE] at d16'
   repeat' (split at d16'<;>first|(simp at d16';done)|skip)
   omega
  have e2:(aV i m x).length=2:=by
   unfold aV;rw [if_neg (by omega),if_neg (by omega),if_neg (by omega),if_neg (by omega),if_pos e0];rfl
  exact ⟨e0,by simp [aJ.us];omega,.inl (by simp only [aJ.df];omega)⟩
def aJ.falls:aJ->Bool
 | .goto _|.ret _=>false
 | _=>true
theorem LC {h:Nat} {n:aJ} (hn:jD i m x h=some n) (hf:n.falls=true):((k:Int)+1)∈fB x k:=by
 by_cases c1:x.op=23
 ·have:n=.goto x.a:=by simp [jD,c1] at hn;exact hn.symm
  subst this;cases hf
 by_cases c2:x.op=39
 ·have:n=.ret (CJ m.result ((h:Int) - 1)):=by simp [jD,c2] at hn;exact hn.symm
  subst this;cases hf
 unfold fB;rw [if_neg c1];by_cases c3:x.op=24
 ·rw [if_pos c3];exact List.mem_cons_self
 ·rw [if_neg c3,if_neg c2];exact List.mem_singleton.2 rfl
theorem SE {h:Nat} (ho:jD i m x h=none):x.op=4:=by
 apply Classical.byContradiction;intro hne;unfold jD at ho
 iterate 17 (rcases aGo ho with ⟨hc,ho⟩|⟨_,ho⟩;· (first|(cases ho;done)|exact absurd hc hne))
 cases ho
theorem SF {h:Nat} {t:Int} (hn:jD i m x h=some (.goto t)):x.op=23/\t=x.a:=by
 unfold jD at hn
 iterate 17 (rcases DC hn with ⟨hc,hn⟩|⟨_,hn⟩;· (first|(cases hn;done)|(cases hn;exact ⟨hc,rfl⟩)))
 cases hn
theorem II {h:Nat} {q t:Int} (hn:jD i m x h=some (.branch q t)):x.op=24/\t=x.a:=by
 unfold jD at hn
 iterate 17 (rcases DC hn with ⟨hc,hn⟩|⟨_,hn⟩;· (first|(cases hn;done)|(cases hn;exact ⟨hc,rfl⟩)))
 cases hn
theorem GF {i:gN} {m:jH} {st:St} {r:List Bool} (R:AJ i m st [] r):∀ k,∀ (a:Nat) (n:aJ),(bH i m st r k).1[a]?=some n->n.falls=true->a+1 < (bH i m st r k).1.length\/(a+1=(bH i m st r k).1.length/\r.getD k false=true)
 | 0,a,n,h,_=>by
  have hlt:=(List.getElem?_eq_some_iff.1 h).1;have hz:r.getD 0 false=true:=by rcases R.z with hz|hz;exact hz;cases hz
  by_cases h1:a+1 < (bH i m st r 0).1.length
  ·exact .inl h1
  ·exact .inr ⟨by omega,hz⟩
 | k+1,a,n,h,hf=>by
  have ih:=GF R k;cases hk:r.getD k false with
  | false=>
   have e:(bH i m st r (k+1)).1=(bH i m st r k).1:=by simp only [bH,hk];rfl
   rw [e] at h ⊢;rcases ih a n h hf with h1|⟨_,h1⟩
   ·exact .inl h1
   ·rw [hk] at h1;cases h1
  | true=>
   have e:(bH i m st r (k+1)).1=(bH i m st r k).1++.tick::(jD i m (m.ins k) (st.s k).length).toList:=by simp only [bH,hk];rfl
   have next:((k:Int)+1)∈fB (m.ins k) k->r.getD (k+1) false=true:=λhm=>by
    rcases R.cl k hk _ hm with h1|h1
    ·rwa [show ((k:Int)+1).toNat=k+1 by omega] at h1
    ·cases h1
   rw [e] at h ⊢;rw [List.getElem?_append] at h;split at h
   ·left;simp;omega
   ·rename_i hge
    have hlt:=(List.getElem?_eq_some_iff.1 h).1;cases ho:jD i m (m.ins k) (st.s k).length with
    | none=>
     rw [ho] at hlt;simp at hlt;right;refine ⟨by simp;omega,next ?_⟩;have h4:(m.ins k).op=4:=SE ho;simp [fB,h4]
    | some y=>
     rw [ho] at hlt h;simp at hlt;by_cases ha:a=(bH i m st r k).1.length
     ·left;simp;omega
     ·right;have ea:a - (bH i m st r k).1.length=1:=by omega
      rw [ea] at h;simp at h;subst h;exact ⟨by simp;omega,next (LC ho hf)⟩
theorem xI {i:gN} {m:jH} {st:St} {r:List Bool}:∀ (k pc:Nat),pc < k->r.getD pc false=true->∃ t:Nat,(bH i m st r k).2[pc]?=some (t:Int)/\t < (bH i m st r k).1.length
 | k+1,pc,h,hr=>by
  have hl:=(tW i m st r k).2.1;by_cases hpk:pc=k
  ·subst hpk;have e:bH i m st r (pc+1)=((bH i m st r pc).1++.tick::(jD i m (m.ins pc) (st.s pc).length).toList,(bH i m st r pc).2++[((bH i m st r pc).1.length:Int)]):=by simp only [bH,hr];rfl
   rw [e];exact ⟨(bH i m st r pc).1.length,by rw [List.getElem?_append_right (by omega),hl];simp,by simp⟩
  ·obtain ⟨t,h1,h2⟩:=xI (i:=i) (m:=m) (st:=st) (r:=r) k pc (by omega) hr;cases hk:r.getD k false with
   | false=>
    have e:bH i m st r (k+1)=((bH i m st r k).1,(bH i m st r k).2++[-1]):=by simp only [bH,hk];rfl
    rw [e];exact ⟨t,by rw [List.getElem?_append_left (by omega)];exact h1,h2⟩
   | true=>
    have e:bH i m st r (k+1)=((bH i m st r k).1++.tick::(jD i m (m.ins k) (st.s k).length).toList,(bH i m st r k).2++[((bH i m st r k).1.length:Int)]):=by simp only [bH,hk];rfl
    rw [e];exact ⟨t,by rw [List.getElem?_append_left (by omega)];exact h1,by simp;omega⟩
theorem GD {i:gN} {m:jH} {st:St} {r:List Bool} (hox:∀ x∈m.code,zN i m x) (hwf:WF m st) (hled:∀ k,st.h k=true->Led i m st k) (R:AJ i m st [] r):∀ k,k<=m.code.length->∀ n∈(bH i m st r k).1,aIp n/\(match n with|.goto t|.branch _ t=>r.getD t.toNat false=true|_=>True)
 | 0,_,n,h=>by
  simp only [bH,List.mem_map,List.mem_range] at h;obtain ⟨j,hj,rfl⟩:=h
  have mr:m.right\/m.code.length=0:=by
   by_cases h0:m.code.length=0
   ·exact .inr h0
   ·obtain ⟨x,hx⟩:=bC (l:=m.code) (j:=0) (by omega);exact .inl (hox x (List.mem_of_getElem? hx)).mr
  have hz:r.getD 0 false=true:=by rcases R.z with hz|hz;exact hz;cases hz
  have h0:0 < r.length:=sY hz;have hrl:=R.rl;rcases mr with mr|mr
  ·have pl:=mr.1.2;have ll:=mr.2.2.1.2;exact ⟨⟨trivial,by simp [aJ.us],.inl (by simp only [aJ.df];omega)⟩,trivial⟩
  ·omega
 | k+1,hk1,n,h=>by
  have ih:=GD hox hwf hled R k (by omega);cases hk:r.getD k false with
  | false=>
   have e:(bH i m st r (k+1)).1=(bH i m st r k).1:=by simp only [bH,hk];rfl
   rw [e] at h;exact ih n h
  | true=>
   have e:(bH i m st r (k+1)).1=(bH i m st r k).1++.tick::(jD i m (m.ins k) (st.s k).length).toList:=by simp only [bH,hk];rfl
   rw [e] at h;rcases List.mem_append.1 h with h|h
   ·exact ih n h
   ·rcases List.mem_cons.1 h with h|h
    ·subst h;exact ⟨⟨trivial,by simp [aJ.us],.inr ⟨rfl,rfl⟩⟩,trivial⟩
    ·have hn:jD i m (m.ins k) (st.s k).length=some n:=by simpa using h
     have hh:=R.rs k hk;obtain ⟨out,hdo,_⟩:=hled k hh;obtain ⟨hkd,hl8⟩:=hwf.kd k hh;have ox:=hox _ (VT (m:=m) (k:=k) (by omega));obtain ⟨_,ho8,hask,hlen⟩:=DX ox hkd hdo;refine ⟨aGa ox hl8 hask (by omega) hn,?_⟩
     have jmp:∀ t,t∈fB (m.ins k) k->r.getD t.toNat false=true:=λt ht=>by
      rcases R.cl k hk t ht with h1|h1
      ·exact h1
      ·cases h1
     cases n with
     | goto t=>
      obtain ⟨e1,rfl⟩:=SF hn;exact jmp _ (by simp [fB,e1])
     | branch q t=>
      obtain ⟨e1,rfl⟩:=II hn;exact jmp _ (by simp [fB,e1])
     | _=>trivial
theorem rD {st:St} {r:List Bool} (ht:kY i) (hk:k < i.methods.length) (hw:oZ i (i.meth k) (some st)) (R:AJ i (i.meth k) st [] r):kJ ⟨(i.meth k).params.length,18,nE i (i.meth k) st r⟩:=by
 have hmi:=gM (i:=i) (a:=(k:Int)) (by omega) (by omega);rw [Int.toNat_natCast] at hmi;have ir:=ht.1;have mr:(i.meth k).right:=ir.2.2.1.2.1 _ (List.mem_of_getElem? hmi);obtain ⟨hox,hwf,hh0,hs0,hled⟩:=hw.led ir mr;generalize hmm:i.meth k=m at *;have pl:=mr.1.2;have ll:=mr.2.2.1.2;have lc:=mr.2.2.2.1.2;obtain ⟨c1,c2,c3,c4⟩:=zY i m st r;have hz:r.getD 0 false=true:=by rcases R.z with hz|hz;exact hz;cases hz
 have hl0:0 < m.code.length:=by have:=sY hz;have:=R.rl;omega
 obtain ⟨t0,ht0,htl⟩:=xI (i:=i) (m:=m) (st:=st) (r:=r) m.code.length 0 hl0 hz;have hlen:(nE i m st r).length=(bH i m st r m.code.length).1.length:=by simp [nE]
 refine ⟨by dsimp only;omega,by dsimp only;omega,by dsimp only;decide,by dsimp only;decide,by dsimp only;omega,by dsimp only;omega,by dsimp only;omega,λa n hn=>?_⟩;have hn:(nE i m st r)[a]?=some n:=hn;have hn':=hn;rw [show nE i m st r=(bH i m st r m.code.length).1.map (yD (bH i m st r m.code.length).2) from rfl,List.getElem?_map,Option.map_eq_some_iff] at hn';obtain ⟨y,hy,rfl⟩:=hn';obtain ⟨⟨o1,o2,o3⟩,o4⟩:=GD hox hwf hled R m.code.length (Nat.le_refl _) y (List.mem_of_getElem? hy)
 have hcend:r.getD m.code.length false=false:=by
  cases hc:r.getD m.code.length false with
  | false=>rfl
  | true=>have:=sY hc;have:=R.rl;omega
 have fall:y.falls=true->(a:Int)+1 < ((nE i m st r).length:Int):=λhf=>by
  rcases GF R m.code.length a y hy hf with h1|⟨_,h1⟩
  ·omega
  ·rw [hcend] at h1;cases h1
 have aim:∀ t:Int,r.getD t.toNat false=true->0<=cE (bH i m st r m.code.length).2 t.toNat/\cE (bH i m st r m.code.length).2 t.toNat < ((nE i m st r).length:Int):=λt hr=>by
  have:=sY hr;have:=R.rl;obtain ⟨q,h1,h2⟩:=xI (i:=i) (m:=m) (st:=st) (r:=r) m.code.length t.toNat (by omega) hr
  have e:cE (bH i m st r m.code.length).2 t.toNat=(q:Int):=by
   unfold cE;rw [List.getD_eq_getElem?_getD,h1];rfl
  rw [e];omega
 refine ⟨?_,?_,?_,?_⟩
 ·cases y<;>exact o1
 ·cases y<;>exact o2
 ·intro t htn;cases y with
  | goto to=>
   have htn:t∈[cE (bH i m st r m.code.length).2 to.toNat]:=htn;rw [List.mem_singleton] at htn;subst htn;exact aim to o4
  | branch q to=>
   have hA:=aim to o4;have hF:=fall rfl;simp only [yD,aJ.nx] at htn;split at htn
   ·rw [List.mem_singleton] at htn;subst htn;exact ⟨by omega,hF⟩
   ·rcases List.mem_cons.1 htn with h1|h1
    ·subst h1;exact ⟨by omega,hF⟩
    ·rw [List.mem_singleton] at h1;subst h1;exact hA
  | ret s=>simp [yD,aJ.nx] at htn
  | _=>
   have hF:=fall rfl;simp only [yD,aJ.nx,List.mem_singleton] at htn;subst htn;exact ⟨by omega,hF⟩
 ·cases y<;>exact o3
end Go.Proofs.YtjcmcfidblhnnaaGreatDoor
namespace Go.Proofs.YtjcmcfidblhnnaaGreatDoor
open Tryz
open Go.Vc
variable {bs:List Bool} {w w0:World} {N R g0 k n' r:Nat} {gs:List Nat} {cs:List Value} {f:Bool} {pv:Value} {applet d m n op reg:Int}
def zZ (d:Int) (bs:List Bool):List Bool:=if 0<=d then bs.set d.toNat false else bs
def uE (n:aJ) (bs:List Bool):List Bool:=n.us.foldl (λa r=>a.set r.toNat true) (zZ n.df bs)
theorem GJ (d:Int) (bs:List Bool):(zZ d bs).length=bs.length:=by unfold zZ;split<;>simp
theorem LY (l:List Int) (bs:List Bool):(l.foldl (λa r=>a.set r.toNat true) bs).length=bs.length:=by
 induction l generalizing bs with
 | nil=>rfl
 | cons x l ih=>simp [ih]
theorem wH (n:aJ) (bs:List Bool):(uE n bs).length=bs.length:=by unfold uE;rw [LY,GJ]
theorem nN (bs:List Bool) (i:Nat) (b:Bool):(bs.map Value.bool).set i (.bool b)=(bs.set i b).map Value.bool:=by rw [List.map_set]
theorem MP {n:aJ} {nv bv:Value} (hn:iX w nv n) (hb:fX w bv bs) (hl:n.args.length<=4294967296) (hbl:bs.length<=4294967296)
  (hd:n.df < bs.length) (hu:∀ r∈n.us,0<=r/\r < bs.length) :
  aB prog 136 #[nv,bv] w λr w'=>w'.ownsRow w.heap.size 4 1 r bs.length ((uE n bs).map Value.bool)/\aF w w':=by
 apply aWm;unfold PZ;refine (TK hb hbl).mono λov w1 ⟨ho,x1⟩=>?_;refine ⟨λw'=>w'.ownsRow w.heap.size 4 1 ov bs.length ((zZ n.df bs).map Value.bool)/\aF w w',?_,?_⟩
 ·refine (JC (hn.ext x1)).mono λr w2 ⟨hr,x2⟩=>?_;subst hr;refine kN.2 (aD (λhge=>?_) λhlt=>?_)
  ·have hge':0<=n.df:=hge;refine stO gT kP (x2.own ho) hge' hd rfl λw3 ho3 hg=>?_;rw [nN] at ho3;refine ⟨?_,(x1.trans x2).grown hg λk hk=>((x2.own ho).lt k hk).1⟩;unfold zZ;rw [if_pos hge'];exact ho3
  ·refine ⟨?_,x1.trans x2⟩;unfold zZ;rw [if_neg (by simpa using hlt)];exact x2.own ho
 rintro w2 ⟨ho2,x2⟩ _;refine (HM (hn.ext x2) hl).mono λul w3 ⟨hus,x3⟩=>?_;have hlen:=aDm n;have hov:∀ k,ov.ownBlock=some k->k < w2.heap.size:=λk hk=>(ho2.lt k hk).2;refine gD aQ (aA.of_own hus) ?_
 refine ⟨λv w'=>∃ j:Nat,v=i64 j/\j<=n.us.length/\aF w w'/\w'.ownsRow w2.heap.size 3 1 ul n.us.length (n.us.map i64)/\w'.ownsRow w.heap.size 4 1 ov bs.length (((n.us.take j).foldl (λa r=>a.set r.toNat true) (zZ n.df bs)).map Value.bool),
  λv _=>n.us.length - (RowKit.intOf v).toNat,⟨0,rfl,by omega,x2.trans x3,hus,by simpa using x3.own ho2⟩,?_⟩
 rintro _ w4 ⟨j,rfl,hj,x4,hus4,ho4⟩ _;refine aY.2 (aD (λhlt=>?_) λhge=>?_)
 ·have hlt':j < n.us.length:=by omega
  obtain ⟨u,hu'⟩:=bC hlt';obtain ⟨hu0,hu1⟩:=hu u (List.mem_of_getElem? hu');refine IJ aQ aH hus4 (by omega) (by omega) (cG hu') ?_;refine stO gT kP ho4 hu0 (by omega) rfl λw5 ho5 hg=>?_;refine aU.2 ?_;rw [aC (by omega) (by omega),aR];rw [nN] at ho5;refine ⟨⟨j+1,rfl,by omega,x4.grown hg λk hk=>(ho4.lt k hk).1,hus4.kept hg (RT hus4 hov),?_⟩,by simp only [aL];omega⟩;rw [List.take_add_one,hu'];simpa using ho5
 ·have hju:j=n.us.length:=by omega
  subst hju;rw [List.take_length] at ho4;exact ⟨ho4,x4⟩
def eY.at' (p:eY) (k:Nat):aJ:=p.nodes.getD k .tick
inductive nQ (p:eY):Nat->Nat->Prop
 | use {k to r:Nat}:(to:Int)∈(p.at' k).nx k->(r:Int)∈(p.at' to).us->nQ p k r
 | pass {k to r:Nat}:(to:Int)∈(p.at' k).nx k->(r:Int)≠(p.at' to).df->nQ p to r->nQ p k r
def uJ (p:eY) (m:Nat->Nat->Prop) (to r:Nat):Prop:=(r:Int)∈(p.at' to).us\/((r:Int)≠(p.at' to).df/\m to r)
abbrev Mx:=Nat->Nat->Bool
def sL (m:Mx) (k r:Nat) (b:Bool):Mx:=λk' r'=>if k'=k/\r'=r then b else m k' r'
theorem aAm (m:Mx) (k r:Nat):sL m k r (m k r)=m:=by
 funext k' r';unfold sL;split
 ·rename_i h;rw [h.1,h.2]
 ·rfl
def mN (m:Mx) (k R:Nat):List Bool:=(List.range R).map (m k)
theorem gI (m:Mx) (k R:Nat):(mN m k R).length=R:=by simp [mN]
theorem lS {m:Mx} (h:r < R):(mN m k R)[r]?=some (m k r):=by simp [mN,h]
theorem KF (m:Mx) (k r R:Nat) (b:Bool):mN (sL m k r b) k R=(mN m k R).set r b:=by
 apply List.ext_getElem?;intro j;by_cases hj:j < R
 ·rw [lS hj,List.getElem?_set];by_cases hr:r=j
  ·subst hr;simp [sL,mN,hj]
  ·have:¬ j=r:=λh=>hr h.symm;simp [sL,this,hr,lS hj]
 ·simp [mN,hj]
theorem CE {m:Mx} {k':Nat} {b:Bool} (h:k'≠k):mN (sL m k r b) k' R=mN m k' R:=by
 unfold mN;apply List.map_congr_left;intro j _;simp [sL,h]
def DZ (f:Nat->Bool):Nat->Nat
 | 0=>0
 | n+1=>DZ f n+if f n then 0 else 1
def vX (m:Mx) (R:Nat):Nat->Nat
 | 0=>0
 | n+1=>vX m R n+DZ (m n) R
theorem BF {f g:Nat->Bool} (h:∀ j,f j=true->g j=true):∀ n,DZ g n<=DZ f n
 | 0=>Nat.le_refl _
 | n+1=>by
  have:=BF h n;unfold DZ;have hj:=h n;cases hf:f n<;>cases hg:g n<;>simp [hf,hg] at hj ⊢<;>omega
theorem WN {f g:Nat->Bool} (h:∀ j,f j=true->g j=true) {i:Nat} (hf:f i=false) (hg:g i=true):∀ n,i < n->DZ g n < DZ f n
 | 0,hi=>by omega
 | n+1,hi=>by
  unfold DZ;by_cases he:i=n
  ·subst he;have:=BF h i;simp [hf,hg];omega
  ·have:=WN h hf hg n (by omega);have hj:=h n;cases h1:f n<;>cases h2:g n<;>simp [h1,h2] at hj ⊢<;>omega
theorem JD {m m':Mx} (h:∀ k r,m k r=true->m' k r=true) (R:Nat):∀ n,vX m' R n<=vX m R n
 | 0=>Nat.le_refl _
 | n+1=>by
  have h1:=JD h R n;have h2:=BF (h n) R;unfold vX;omega
theorem WO {m m':Mx} (h:∀ k r,m k r=true->m' k r=true) {R k r:Nat} (hr:r < R) (hf:m k r=false) (hg:m' k r=true):∀ n,k < n->vX m' R n < vX m R n
 | 0,hi=>by omega
 | n+1,hi=>by
  unfold vX;have h2:=BF (h n) R;by_cases he:k=n
  ·subst he;have h1:=JD h R k;have:=WN (h k) hf hg R hr;omega
  ·have:=WO h hr hf hg n (by omega);omega
theorem LZ (l:List Int):∀ (bs:List Bool) (r:Nat),r < bs.length->(∀ x∈l,0<=x)->(l.foldl (λa r=>a.set r.toNat true) bs)[r]?=some (decide ((r:Int)∈l)||bs.getD r false):=by
 induction l with
 | nil=>intro bs r h _;simp [h]
 | cons x l ih=>
  intro bs r h h0;rw [List.foldl_cons,ih (bs.set x.toNat true) r (by simpa using h) (λy hy=>h0 y (by simp [hy]))];have hx:=h0 x (by simp);by_cases hr:x.toNat=r
  ·have:(r:Int)=x:=by omega
   simp [hr,this,h]
  ·have:¬ (r:Int)=x:=by omega
   simp [List.getD_eq_getElem?_getD,hr,this]
theorem EF {n:aJ} (h:r < bs.length) (h0:∀ x∈n.us,0<=x) :
  (uE n bs)[r]?=some (decide ((r:Int)∈n.us)||(decide ((r:Int)≠n.df)&&bs.getD r false)):=by
 unfold uE;rw [LZ _ _ _ (by rw [GJ];exact h) h0]
 congr 2
 unfold zZ;split
 ·rename_i hd
  by_cases hr:n.df.toNat=r
  ·have:(r:Int)=n.df:=by omega
   simp [hr,this,h]
  ·have:¬ (r:Int)=n.df:=by omega
   simp [List.getD_eq_getElem?_getD,hr,this]
 ·rename_i hd
  have:¬ (r:Int)=n.df:=by omega
  simp [this]
def sl (R g:Nat):Value:=.slice (some ⟨g,0,none⟩) R R
structure St (w0 w:World) (b:Nat) (cs:List Value) (g0:Nat) (gs:List Nat) (R:Nat) (m:Mx):Prop where
 x:aF w0 w
 box:bG w b cs
 lo:w0.heap.size<=g0
 bg:b < g0
 gg:∀ g∈gs,g0 < g
 nd:gs.Nodup
 out:bO w g0 (gs.map (sl R)) 95
 rows:∀ (k g:Nat),gs[k]?=some g->bO w g ((mN m k R).map Value.bool) 4
theorem St.ext {w0 w w':World} {b g0 R:Nat} {cs:List Value} {gs:List Nat} {m:Mx} (h:St w0 w b cs g0 gs R m) (hx:aF w w'):St w0 w' b cs g0 gs R m:=
 ⟨h.x.trans hx,h.box.ext hx,h.lo,h.bg,h.gg,h.nd,h.out.ext hx,λk g hk=>(h.rows k g hk).ext hx⟩
theorem aFm (h:gs.Nodup) {i j g:Nat} (hi:gs[i]?=some g) (hj:gs[j]?=some g):i=j:=by
 obtain ⟨hi',hi2⟩:=List.getElem?_eq_some_iff.1 hi;obtain ⟨hj',hj2⟩:=List.getElem?_eq_some_iff.1 hj;have hp:=List.pairwise_iff_getElem.1 h;rcases Nat.lt_trichotomy i j with hlt|he|hgt
 ·exact absurd (hi2.trans hj2.symm) (hp i j hi' hj' hlt)
 ·exact he
 ·exact absurd (hj2.trans hi2.symm) (hp j i hj' hi' hgt)
theorem St.set {w0 w:World} {b g0 R:Nat} {cs:List Value} {gs:List Nat} {m:Mx} (h:St w0 w b cs g0 gs R m) {k g:Nat} (hk:gs[k]?=some g) (r:Nat) (v:Bool) :
  St w0 (w.setCell ⟨g,r,none⟩ (.bool v)) b cs g0 gs R (sL m k r v):=by
 have hgm:=List.mem_of_getElem? hk;have hg:=h.gg g hgm;refine ⟨h.x.setCell (by have:=h.lo;omega) _,h.box.other (by have:=h.bg;omega),h.lo,h.bg,h.gg,h.nd,h.out.other (by omega),λk' g' hk'=>?_⟩;by_cases he:k'=k
 ·subst he;rw [hk] at hk';cases hk';rw [KF,<- nN];exact (h.rows _ _ hk).set r _
 ·rw [CE he];exact (h.rows k' g' hk').other λhgg=>he (aFm h.nd hk' (hgg▸hk))
def FQ (gs:List Nat) (w:World):Mx:=λk r=>
 match gs[k]? with
 | some g=>(match w.cell? ⟨g,r,none⟩ with|some (.bool b)=>b|_=>false)
 | none=>false
theorem St.read {b:Nat} {m:Mx} (h:St w0 w b cs g0 gs R m) (hk:k < gs.length) (hr:r < R):FQ gs w k r=m k r:=by
 obtain ⟨g,hg⟩:=bC hk;unfold FQ;rw [hg];have:=(h.rows k g hg).cell r;rw [List.getElem?_map,lS hr] at this;simp [this]
theorem DY {f g:Nat->Bool}:∀ n,(∀ j,j < n->f j=g j)->DZ f n=DZ g n
 | 0,_=>rfl
 | n+1,h=>by unfold DZ;rw [DY n λj hj=>h j (by omega),h n (by omega)]
theorem EA {m m':Mx} {R:Nat}:∀ n,(∀ k r,k < n->r < R->m k r=m' k r)->vX m R n=vX m' R n
 | 0,_=>rfl
 | n+1,h=>by unfold vX;rw [EA n λk r hk hr=>h k r (by omega) hr,DY R λr hr=>h n r (by omega) hr]
theorem St.cnt {b:Nat} {m:Mx} (h:St w0 w b cs g0 gs R m):vX (FQ gs w) R gs.length=vX m R gs.length:=
 EA _ λ_ _ hk hr=>h.read hk hr
def bGh (p:eY) (R:Nat) (m:Mx) (k:Nat):Prop:=∀ to:Nat,(to:Int)∈(p.at' k).nx k->∀ r < R,uJ p (λa b=>m a b=true) to r->m k r=true
def Snd (p:eY) (m:Mx):Prop:=∀ k r,m k r=true->nQ p k r
structure Swp (p:eY) (N R:Nat) (m0 m:Mx) (f:Bool):Prop where
 le:∀ k r,m0 k r=true->m k r=true
 snd:Snd p m
 no:f=false->m=m0
 yes:f=true->∃ k r,k < N/\r < R/\m0 k r=false/\m k r=true
theorem Swp.step {p:eY} {m0 m:Mx} (h:Swp p N R m0 m f) (hk:k < N) (hr:r < R) (a:Bool) (ha:a=true->nQ p k r) :
  Swp p N R m0 (sL m k r (m k r||a)) (f||(a&&!m k r)):=by
 have hle:∀ k' r',m k' r'=true->sL m k r (m k r||a) k' r'=true:=by
  intro k' r' h';unfold sL;split
  ·rename_i he;rw [he.1,he.2] at h';simp [h']
  ·exact h'
 refine ⟨λk' r' h'=>hle _ _ (h.le _ _ h'),?_,?_,?_⟩
 ·intro k' r' h';unfold sL at h';split at h'
  ·rename_i he
   rw [he.1,he.2];rcases Bool.or_eq_true_iff.1 h' with h1|h1
   ·exact h.snd _ _ h1
   ·exact ha h1
  ·exact h.snd _ _ h'
 ·intro hf;have hf':=Bool.or_eq_false_iff.1 hf
  have:(m k r||a)=m k r:=by
   have:=hf'.2;cases hm:m k r<;>cases a<;>simp_all
  rw [this,aAm];exact h.no hf'.1
 ·intro hf;rcases Bool.or_eq_true_iff.1 hf with h1|h1
  ·obtain ⟨k',r',h2,h3,h4,h5⟩:=h.yes h1;exact ⟨k',r',h2,h3,h4,hle _ _ h5⟩
  ·have h2:a=true/\m k r=false:=by simpa using h1
   refine ⟨k,r,hk,hr,?_,by simp [sL,h2.1]⟩;cases h0:m0 k r with
   | false=>rfl
   | true=>have:=h.le _ _ h0;rw [h2.2] at this;cases this
theorem FD {p:eY} {m:Mx} (hN:N=p.nodes.length) (hv:∀ (i:Nat) n,p.nodes[i]?=some n->pC n i R N) (h:∀ k < N,bGh p R m k):∀ {k r:Nat},nQ p k r->k < N->r < R->m k r=true:=by
 intro k r ha
 have hat:∀ k < N,p.nodes[k]?=some (p.at' k):=λk hk=>by
  unfold eY.at';rw [List.getD_eq_getElem?_getD];obtain ⟨n,hn⟩:=bC (l:=p.nodes) (j:=k) (by omega);simp [hn]
 induction ha with
 | use h1 h2=>intro hk hr;exact h _ hk _ h1 _ hr (.inl h2)
 | @pass k to r h1 h2 h3 ih=>
  intro hk hr;have hto:to < N:=by have:=(hv _ _ (hat _ hk)).t _ h1;omega
  exact h _ hk _ h1 _ hr (.inr ⟨h2,ih hto hr⟩)
theorem CF (k R:Nat):(mN (λ_ _=>false) k R).map Value.bool=List.replicate R (.bool false):=by
 apply List.ext_getElem?;intro j;by_cases hj:j < R
 ·simp [lS hj,hj]
 ·simp [mN,hj]
theorem kJ.at {p:eY} (hv:kJ p) (hk:k < p.nodes.length):p.nodes[k]?=some (p.at' k)/\pC (p.at' k) k p.regs p.nodes.length:=by
 obtain ⟨n,hn⟩:=bC hk;have:p.at' k=n:=by unfold eY.at';rw [List.getD_eq_getElem?_getD,hn];rfl
 rw [this];exact ⟨hn,hv.nodes k n hn⟩
theorem aZq {p:eY} {b:Nat} {m0:Mx} (hN:gs.length=N) (hN2:N<=250) (hR1:R<=40)
  {g:Nat} (hkN:k < N) (hg:gs[k]?=some g) {av:Value} {A:List Bool} {B:Nat} (hA:A.length=R) (hgB:∀ g∈gs,g < B)
  (hal:∀ r,A[r]?=some true->nQ p k r) {Q:Value->World->Prop} {m:Mx} (hst:St w0 w b cs g0 gs R m) (hsw:Swp p N R m0 m f)
  (ha:w.ownsRow B 4 1 av R (A.map Value.bool))
  (hQ:∀ (f':Bool) (m':Mx) w',St w0 w' b cs g0 gs R m'->Swp p N R m0 m' f'->(f=true->f'=true)->(f'=false->∀ r,A[r]?=some true->m0 k r=true)->aF w0 w'->(∀ B' e size n v xs,w.ownsRow B' e size n v xs->(∀ g∈gs,g < B')->w'.ownsRow B' e size n v xs)->Q (.bool f') w') :
  ∃ (I5:NP 2) (μ5:NF 2),I5 (.bool f) (Value.int IntKind.i64 0) w /\
   ∀ (t5_3:Value) (t62:Value),∀ w37:World,I5 t5_3 t62 w37->∀ _f:bN,
   V prog (binOp .lss 3 t62 (i64 R)) w37 λt63 w38=>
   aI t63 (
   V prog (Instr.indexAt 95 av t62) w38 λt65 w39=>
   V prog (Instr.loadAt 4 t65) w39 λt66 w40=>
   gd t5_3 false (λK=>K t66 w40) w40 λt69 w41=>
   gd t5_3 false (λK=>K t69 w41) w41 λt70 w42=>
   gd t70 true (λK=>K (.slice (some ⟨g0,0,none⟩) N N) w42) w42 λt71 w43=>
   gd t70 true (λK=>K (i64 k) w43) w43 λt72 w44=>
   gd t70 true (λK=>V prog (Instr.indexAt 139 t71 t72) w44 K) w44 λt73 w45=>
   gd t70 true (λK=>V prog (Instr.loadAt 95 t73) w45 K) w45 λt74 w46=>
   gd t70 true (λK=>K t62 w46) w46 λt75 w47=>
   gd t70 true (λK=>V prog (Instr.indexAt 95 t74 t75) w47 K) w47 λt76 w48=>
   gd t70 true (λK=>V prog (Instr.loadAt 4 t76) w48 K) w48 λt77 w49=>
   gd t70 true (λK=>V prog (Op.unary UnOp.not t77) w49 K) w49 λt78 w50=>
   gd t5_3 false (λK=>aG t70 t78 (Value.bool false) λv=>K v w50) w50 λt79 w51=>
   aG t5_3 (Value.bool true) t79 λt80=>
   aM w51 λS22 w53=>
   aE prog S22 (Instr.indexAt 139 (.slice (some ⟨g0,0,none⟩) N N) (i64 k)) λt83=>
   aE prog S22 (Instr.loadAt 95 t83) λt84=>
   aE prog S22 (Instr.indexAt 139 (.slice (some ⟨g0,0,none⟩) N N) (i64 k)) λt88=>
   aE prog S22 (Instr.loadAt 95 t88) λt89=>
   aE prog S22 (Instr.indexAt 95 t89 t62) λt91=>
   aE prog S22 (Instr.loadAt 4 t91) λt92=>
   EY t92 false (λK=>K t66) λt94=>
   aG t92 (Value.bool true) t94 λt95=>
   aE prog S22 (Instr.indexAt 95 t84 t62) λt96=>
   U prog (Instr.storeAt 4 t96 t95) w53 λ_ w54=>
   V prog (binOp .add 3 t62 (Value.int IntKind.i64 1)) w54 λt97 w55=>
   I5 t80 t97 w55/\μ5 t80 t97 w55 < μ5 t5_3 t62 w37) (
   Q t5_3 w38):=by
 have hgm:=List.mem_of_getElem? hg
 refine ⟨λv1 v2 w'=>∃ (f':Bool) (r:Nat) (m':Mx),v1=.bool f'/\v2=i64 r/\r<=R/\St w0 w' b cs g0 gs R m'/\Swp p N R m0 m' f'/\(f=true->f'=true)/\(f'=false->∀ j,j < r->A[j]?=some true->m0 k j=true) /\
   w'.ownsRow B 4 1 av R (A.map Value.bool)/\(∀ B' e size n v xs,w.ownsRow B' e size n v xs->(∀ g∈gs,g < B')->w'.ownsRow B' e size n v xs),λ_ v2 _=>R - (RowKit.intOf v2).toNat,
  ⟨f,0,m,rfl,rfl,Nat.zero_le _,hst,hsw,id,λ_ j hj=>by omega,ha,λ_ _ _ _ _ _ h _=>h⟩,?_⟩
 rintro _ _ w1 ⟨f',r,m',rfl,rfl,hr,hst',hsw',hff,hcl,ha',hkeep⟩ _;refine aY.2 (aD (λhlt=>?_) λhge=>?_)
 ·have hr':r < R:=by omega
  obtain ⟨a,haa⟩:=bC (l:=A) (j:=r) (by omega);refine IJ gT oD ha' (by omega) (by omega) (LX haa) ?_;have hrow:=hst'.rows k g hg;have hslO:aA w1 (.slice (some ⟨g0,0,none⟩) N N) 1 N (gs.map (sl R)):=hst'.out.slice (by simpa using hN) (by unfold maxLen;omega);have hslR:aA w1 (sl R g) 1 R ((mN m' k R).map Value.bool):=hrow.slice (by simp [gI]) (by unfold maxLen;omega);have hgk:(gs.map (sl R))[((k:Nat):Int).toNat]?=some (sl R g):=by simp [hg]
  have hmk:((mN m' k R).map Value.bool)[((r:Nat):Int).toNat]?=some (.bool (m' k r)):=by simp [lS hr']
  have flag:∀ {Z:Value->World->Prop},Z (.bool (f'||(a&&!m' k r))) w1 ->
    (gd (.bool f') false (λK=>K (.bool a) w1) w1 λt69 w41=>
   gd (.bool f') false (λK=>K t69 w41) w41 λt70 w42=>
   gd t70 true (λK=>K (.slice (some ⟨g0,0,none⟩) N N) w42) w42 λt71 w43=>
   gd t70 true (λK=>K (i64 k) w43) w43 λt72 w44=>
   gd t70 true (λK=>V prog (Instr.indexAt 139 t71 t72) w44 K) w44 λt73 w45=>
   gd t70 true (λK=>V prog (Instr.loadAt 95 t73) w45 K) w45 λt74 w46=>
   gd t70 true (λK=>K (i64 r) w46) w46 λt75 w47=>
   gd t70 true (λK=>V prog (Instr.indexAt 95 t74 t75) w47 K) w47 λt76 w48=>
   gd t70 true (λK=>V prog (Instr.loadAt 4 t76) w48 K) w48 λt77 w49=>
   gd t70 true (λK=>V prog (Op.unary UnOp.not t77) w49 K) w49 λt78 w50=>
   gd (.bool f') false (λK=>aG t70 t78 (Value.bool false) λv=>K v w50) w50 λt79 w51=>
   aG (.bool f') (Value.bool true) t79 λt80=>Z t80 w51):=by
   intro Z hZ;cases f' with
   | true=>simp only [tI,qV,aW,reduceIte];simpa using hZ
   | false=>
    cases a with
    | false=>simp only [oV,lI,aW,Bool.false_eq_true,reduceIte];simpa using hZ
    | true=>
     simp only [oV,lU];refine lV rL oC hslO (by omega) (by omega) hgk ?_;refine lV gT oD hslR (by omega) (by omega) hmk ?_;simp only [dK,aW,Bool.false_eq_true,reduceIte];simpa using hZ
  refine flag ?_;refine aM.mk' (λw'=>w'=w1.drew) rfl ?_;have hx:∀ w',w'=w1.drew->aF w1 w':=λw' h=>h▸(aF.refl _).drew;refine nR rL oC hslO hx (by omega) (by omega) hgk ?_;refine nR rL oC hslO hx (by omega) (by omega) hgk ?_;refine nR gT oD hslR hx (by omega) (by omega) hmk ?_
  have val:∀ {Z:Value->Prop},Z (.bool (m' k r||a))->EY (.bool (m' k r)) false (λK=>K (.bool a)) λt94=>aG (.bool (m' k r)) (Value.bool true) t94 Z:=by
   intro Z hZ;cases hm:m' k r with
   | true=>simp only [SY,aW,reduceIte];simpa [hm] using hZ
   | false=>simp only [WD,aW,Bool.false_eq_true,reduceIte];simpa [hm] using hZ
  refine val ?_;refine aE.ok (λw' _=>UW (by omega) (by omega)) ?_;refine U.ok (mO kP rfl (u:=.bool (m' k r)) ?_ ?_) ?_
  ·have:=hrow.cell r;rw [List.getElem?_map,lS hr'] at this;simpa using this
  ·exact hrow.frozen _
  ·refine aU.2 ?_;rw [aC (by omega) (by omega),aR];have hset:=(hst'.ext (aF.refl _).drew).set hg r (m' k r||a)
   have hk':∀ {B' e size n v xs},w1.ownsRow B' e size v n xs->(∀ g∈gs,g < B')->(w1.drew.setCell ⟨g,0+(r:Int).toNat*1,none⟩ (.bool (m' k r||a))).ownsRow B' e size v n xs:=by
    intro B' e size n v xs h hB;have h':w1.drew.ownsRow B' e size v n xs:=h;refine h'.kept (row:=some g) ⟨rfl,rfl,rfl,by simp,λi _ hi=>heap_setCell_other _ _ _ _ (λhe=>hi (by simp [he]))⟩ (RT h' λx hx=>?_);cases hx;exact hB g hgm
   refine ⟨⟨f'||(a&&!m' k r),r+1,sL m' k r (m' k r||a),rfl,rfl,by omega,by simpa using hset,hsw'.step hkN hr' a (λh=>hal r (by rw [haa,h])),λh=>by simp [hff h],?_,hk' ha' hgB,λB' e size n v xs h hB=>hk' (hkeep B' e size n v xs h hB) hB⟩,by simp only [aL];omega⟩;intro hf j hj hAj;have hf':=Bool.or_eq_false_iff.1 hf;by_cases hjr:j=r
   ·subst hjr;rw [haa] at hAj;cases hAj;have:m' k j=true:=by simpa using hf'.2
    rw [<- hsw'.no hf'.1];exact this
   ·exact hcl hf'.1 j (by omega) hAj
 ·refine hQ f' m' w1 hst' hsw' hff (λhf r' hr'=>hcl hf r' ?_ hr') hst'.x hkeep;have:=(List.getElem?_eq_some_iff.1 hr').1;omega
def yL (w:World) (v:Value) (N R:Nat) (m:Mx):Prop:=∃ (g0:Nat) (gs:List Nat),v=.slice (some ⟨g0,0,none⟩) N N/\gs.length=N/\bO w g0 (gs.map (sl R)) 95/\∀ (k g:Nat),gs[k]?=some g->bO w g ((mN m k R).map Value.bool) 4
theorem yL.ext {w w':World} {v:Value} {N R:Nat} {m:Mx} (h:yL w v N R m) (hx:aF w w'):yL w' v N R m:=by
 obtain ⟨g0,gs,h1,h2,h3,h4⟩:=h;exact ⟨g0,gs,h1,h2,h3.ext hx,λk g hk=>(h4 k g hk).ext hx⟩
theorem KC (R g:Nat) (gs:List Nat) (n:Nat) (h:gs.length < n) :
  ((gs.map (sl R))++List.replicate (n - gs.length) (Value.slice none 0 0)).set gs.length (sl R g)=(gs++[g]).map (sl R)++List.replicate (n - (gs++[g]).length) (Value.slice none 0 0):=by
 obtain ⟨k,hk⟩:∃ k,n - gs.length=k+1:=⟨n - gs.length - 1,by omega⟩;have hk2:n - (gs++[g]).length=k:=by simp;omega
 rw [hk,hk2,List.set_append_right _ _ (by simp)];simp [List.replicate_succ]
def aIq (w0 w:World) (v:Value) (N R:Nat) (m:Mx):Prop:=∃ (g0:Nat) (gs:List Nat),v=.slice (some ⟨g0,0,none⟩) N N/\gs.length=N/\bO w g0 (gs.map (sl R)) 95/\(∀ (k g:Nat),gs[k]?=some g->bO w g ((mN m k R).map Value.bool) 4)/\w0.heap.size<=g0/\∀ g∈gs,w0.heap.size<=g
theorem aIq.is {v:Value} {m:Mx} (h:aIq w0 w v N R m):yL w v N R m:=by
 obtain ⟨g0,gs,h1,h2,h3,h4,_⟩:=h;exact ⟨g0,gs,h1,h2,h3,h4⟩
theorem EC {p:eY} (hp:pD w pv p) (hv:kJ p) (hR:p.regs=R) :
  aB prog 84 #[pv] w λr w'=>(∃ m,aIq w w' r p.nodes.length R m/\∀ k r,k < p.nodes.length->r < R->(m k r=true↔nQ p k r))/\aF w w':=by
 have hp0:=hp;obtain ⟨ns,rfl,hns,hargs⟩:=hp;have hns0:=hns;obtain ⟨vs,hs,hvs⟩:=hns;have hl1:=hv.l1;have hl2:=hv.l2;have hr1:=hv.r1;have hr2:=hv.r2;have hat:=λ{k:Nat} (hk:k < p.nodes.length)=>hv.at hk;generalize hN:p.nodes.length=N at *;apply bEa;unfold YC;refine bx λb w1 hb x1=>?_;refine iO hb qC rfl ?_;refine (uC (p:=p) (hp0.ext x1) hv).mono λr w2 ⟨hr,x2⟩=>?_;subst hr;refine dK.2 (aP.2 ?_);have hb2:=hb.ext x2;have X2:=x1.trans x2;refine bF hb2 eG kD rfl (gD mW (hs.ext X2) ?_);refine mkB underlying139 rE rfl (n:=N) (by omega) (by omega) λw3 ho x3 hsz3=>?_;refine aIl.2 ?_
 have hbB:b < w2.heap.size:=by
  have:=hb2 0 (i64 p.params) rfl;exact World.block_lt_of_cell? _ _ this
 have hlo:w.heap.size<=w2.heap.size:=X2.size;generalize w2.heap.size=g0 at *;have X3:=X2.trans x3
 refine ⟨λv w'=>∃ gs:List Nat,v=i64 gs.length/\gs.length<=N/\aF w w'/\bG w' b [i64 p.params,i64 p.regs,ns]/\(∀ g∈gs,g0 < g)/\gs.Nodup/\(∀ g∈gs,g < w'.heap.size) /\
   bO w' g0 (gs.map (sl R)++List.replicate (N - gs.length) (.slice none 0 0)) 95/\∀ g∈gs,bO w' g (List.replicate R (.bool false)) 4,
  λv _=>N - (RowKit.intOf v).toNat,⟨[],rfl,Nat.zero_le _,X3,hb2.ext x3,by simp,List.nodup_nil,by simp,by simpa using ho,by simp⟩,?_⟩
 rintro _ w4 ⟨gs,rfl,hle,x4,hb4,hgg,hnd,hlt4,ho4,hrows4⟩ _;refine aY.2 (aD (λhlt=>?_) λhge=>?_)
 ·refine bF hb4 gA aH rfl ?_;refine xG hR underlying95 kP rfl (n:=R) (by omega) (by omega) λw5 hrow x5 hsz5=>?_;refine UN rL rE (ho4.ext x5) (by simp;omega) (by omega) (by omega) rfl ?_;refine aU.2 ?_;rw [aC (by omega) (by omega),aR];simp only [Int.toNat_natCast];have hset:=(ho4.ext x5).set gs.length (sl R w4.heap.size);rw [KC R _ gs N (by omega)] at hset;have hg0:=ho4.lt;refine ⟨⟨gs++[w4.heap.size],by simp,by simp;omega,(x4.trans x5).setCell hlo _,bG.other (g:=g0) (hb4.ext x5) (by omega),?_,?_,?_,hset,?_⟩,by simp only [aL];omega⟩
  ·intro g hg;rcases List.mem_append.1 hg with h|h
   ·exact hgg g h
   ·have:g=w4.heap.size:=by simpa using h
    omega
  ·refine List.nodup_append.2 ⟨hnd,by simp,?_⟩;intro a ha c hc;have:c=w4.heap.size:=by simpa using hc
   have:=hlt4 a ha;omega
  ·intro g hg;simp only [World.size_setCell];rcases List.mem_append.1 hg with h|h
   ·have:=hlt4 g h;omega
   ·have:g=w4.heap.size:=by simpa using h
    omega
  ·intro g hg;rcases List.mem_append.1 hg with h|h
   ·exact ((hrows4 g h).ext x5).other (by have:=hgg g h;omega)
   ·have he:g=w4.heap.size:=by simpa using h
    subst he;exact hrow.other (by omega)
 have hgl:gs.length=N:=by omega
 rw [hgl,Nat.sub_self] at ho4;simp only [List.replicate_zero,List.append_nil] at ho4
 have hst0:St w w4 b [i64 p.params,i64 p.regs,ns] g0 gs R (λ_ _=>false):=
  ⟨x4,hb4,hlo,hbB,hgg,hnd,ho4,λk g hk=>by rw [CF];exact hrows4 g (List.mem_of_getElem? hk)⟩
 clear hrows4 ho4 hlt4 hle hge hb4 x4;have hslO:∀ {w' m},St w w' b [i64 p.params,i64 p.regs,ns] g0 gs R m->aA w' (.slice (some ⟨g0,0,none⟩) N N) 1 N (gs.map (sl R)):=λh=>h.out.slice (by simpa using hgl) (by unfold maxLen;omega);have hslR:∀ {w' m k g},St w w' b [i64 p.params,i64 p.regs,ns] g0 gs R m->gs[k]?=some g->aA w' (sl R g) 1 R ((mN m k R).map Value.bool):=λh hk=>(h.rows _ _ hk).slice (by simp [gI]) (by unfold maxLen;omega)
 have hglt:∀ {w' m},St w w' b [i64 p.params,i64 p.regs,ns] g0 gs R m->∀ g∈gs,g < w'.heap.size:=λh g hg=>by
  obtain ⟨k,hk⟩:=List.getElem?_of_mem hg;exact (h.rows k g hk).lt
 refine ⟨λv w'=>∃ (f:Bool) (m:Mx),v=.bool f/\St w w' b [i64 p.params,i64 p.regs,ns] g0 gs R m/\Snd p m/\(f=false->∀ k < N,bGh p R m k),
  λv w'=>2*vX (FQ gs w') R gs.length+(match v with|.bool true=>1|_=>0),⟨true,_,rfl,hst0,(λ_ _ h=>by cases h),(λh=>by cases h)⟩,?_⟩
 rintro _ w5 ⟨f0,m0,rfl,hst,hsnd,hcl⟩ _;refine aI.mk (λhf=>?_) λhf=>?_
 rotate_left
 ·refine ⟨⟨m0,⟨g0,gs,rfl,hgl,hst.out,hst.rows,hst.lo,λg hg=>Nat.le_of_lt (Nat.lt_of_le_of_lt hst.lo (hst.gg g hg))⟩,λk r hk hr=>⟨hsnd k r,λh=>?_⟩⟩,hst.x⟩;exact FD hN.symm (λi n hn=>hR▸hN▸hv.nodes i n hn) (hcl hf) h hk hr
 subst hf;refine bF hst.box eG kD rfl (gD mW (hs.ext hst.x) (fQ.2 ?_));rw [aC (by omega) (by omega)]
 refine ⟨λv1 v2 w'=>∃ (f:Bool) (kk:Int) (m:Mx),v1=.bool f/\v2=i64 kk/\-1<=kk/\kk < N/\St w w' b [i64 p.params,i64 p.regs,ns] g0 gs R m/\Swp p N R m0 m f/\(f=false->∀ k:Nat,kk < k->k < N->bGh p R m0 k),
  λ_ v2 _=>(RowKit.intOf v2+1).toNat,⟨false,_,m0,rfl,rfl,by omega,by omega,hst,⟨λ_ _ h=>h,hsnd,λ_=>rfl,(λh=>by cases h)⟩,λ_ k h1 h2=>by omega⟩,?_⟩
 rintro _ _ w6 ⟨f,kk,m,rfl,rfl,hk1,hk2,hst6,hsw6,hcl6⟩ _;refine kN.2 (aD (λhge=>?_) λhlt=>?_)
 rotate_left
 ·-- the sweep is over
  have hkk:kk=-1:=by have:¬ 0<=kk:=hlt;omega
  refine ⟨⟨f,m,rfl,hst6,hsw6.snd,λhf k hk=>?_⟩,?_⟩
  ·rw [hsw6.no hf];exact hcl6 hf k (by omega) hk
  ·show 2*vX (FQ gs w6) R gs.length+_ < 2*vX (FQ gs w5) R gs.length+1;rw [hst6.cnt,hst.cnt];cases f with
   | false=>
    have:=JD hsw6.le R gs.length;show 2*_+0 < _;omega
   | true=>
    obtain ⟨k,r,h1,h2,h3,h4⟩:=hsw6.yes rfl;have:=WO hsw6.le h2 h3 h4 gs.length (by omega);show 2*_+1 < _;omega
 have hge':0<=kk:=hge;obtain ⟨k,rfl⟩:=Int.eq_ofNat_of_zero_le hge';have hk:k < N:=by omega
 obtain ⟨g,hg⟩:=bC (l:=gs) (j:=k) (by omega);obtain ⟨hpk,hrk⟩:=hat hk;obtain ⟨u,hu,hnu⟩:=hvs k _ hpk;refine bF hst6.box eG kD rfl ?_;refine lV mW CZ (hs.ext hst6.x) (by omega) (by omega) (by simpa using hu) ?_;refine (VN (hnu.ext hst6.x) (by omega) (by omega)).mono λtl w7 ⟨htl,x7⟩=>?_;refine gD aQ (aA.of_own htl) ?_;have hst7:=hst6.ext x7;have hlen:=aFk (p.at' k) k
 refine ⟨λv1 v2 w'=>∃ (f':Bool) (j:Nat) (m':Mx),v1=.bool f'/\v2=i64 j/\j<=((p.at' k).nx k).length/\St w w' b [i64 p.params,i64 p.regs,ns] g0 gs R m'/\Swp p N R m0 m' f'/\(f=true->f'=true) /\
   (f'=false->∀ (i:Nat) (to:Nat),i < j->((p.at' k).nx k)[i]?=some (to:Int)->∀ r < R,uJ p (λa b=>m0 a b=true) to r->m0 k r=true)/\w'.ownsRow w6.heap.size 3 1 tl ((p.at' k).nx k).length (((p.at' k).nx k).map i64),
  λ_ v2 _=>((p.at' k).nx k).length - (RowKit.intOf v2).toNat,⟨f,0,m,rfl,rfl,Nat.zero_le _,hst7,hsw6,id,λ_ i to hi=>by omega,htl⟩,?_⟩
 rintro _ _ w8 ⟨f',j,m',rfl,rfl,hj,hst8,hsw8,hff,hcl8,htl8⟩ _;refine aY.2 (aD (λhjlt=>?_) λhjge=>?_)
 rotate_left
 ·refine fQ.2 ?_;rw [aC (by omega) (by omega)];refine ⟨⟨f',(k:Int) - 1,m',rfl,rfl,by omega,by omega,hst8,hsw8,λhf k' hk' hkN=>?_⟩,by simp only [aL];omega⟩;by_cases he:k'=k
  ·subst he;intro to hto r hr ha;obtain ⟨i,hi⟩:=List.getElem?_of_mem hto;have hi':=(List.getElem?_eq_some_iff.1 hi).1;exact hcl8 hf i to (by omega) hi r hr ha
  ·have hf0:f=false:=by cases f with|false=>rfl|true=>rw [hff rfl] at hf;cases hf
   exact hcl6 hf0 k' (by omega) hkN
 obtain ⟨to,hto⟩:=bC (l:=(p.at' k).nx k) (j:=j) (by omega);have htor:=hrk.t to (List.mem_of_getElem? hto);obtain ⟨to,rfl⟩:=Int.eq_ofNat_of_zero_le htor.1;have htoN:to < N:=by omega
 obtain ⟨hpt,hrt⟩:=hat htoN;obtain ⟨ut,hut,hnut⟩:=hvs to _ hpt;obtain ⟨gt,hgt⟩:=bC (l:=gs) (j:=to) (by omega);refine IJ aQ aH htl8 (by omega) (by omega) (cG hto) ?_;refine aM.mk' (λw'=>aF w8 w') (aF.refl _).drew ?_;refine jM (λw' hw=>hst8.box.ext hw) eG kD rfl ?_;refine nR mW CZ (hs.ext hst8.x) (λ_ h=>h) (by omega) (by omega) (by simpa using hut) ?_;refine nR rL oC (hslO hst8) (λ_ h=>h) (by omega) (by omega) (by simp [hgt]:(gs.map (sl R))[((to:Nat):Int).toNat]?=some (sl R gt)) ?_;have hrl:=gI m' to R;have hdf:(p.at' to).df < R:=by rcases hrt.d with h|h<;>omega
 have hus:∀ r∈(p.at' to).us,0<=r/\r < ((mN m' to R).length:Int):=λr hr=>by have:=hrt.u r hr;rw [hrl];omega
 have hrow8:fX w8.drew (sl R gt) (mN m' to R):=by
  have:=(hslR hst8 hgt).ext (aF.refl _).drew;unfold fX;rw [hrl];exact this
 refine (MP (hnut.ext (hst8.x.trans (aF.refl _).drew)) hrow8 (hargs _ (List.mem_of_getElem? hpt)) (by omega) (by rw [hrl];exact hdf) hus).mono λav w9 ⟨hav,x9⟩=>?_;have x9':aF w8 w9:=aF.trans (aF.refl _).drew x9;refine ⟨x9',?_⟩;rw [hrl] at hav;refine rA gT (aA.of_own hav) ?_;have hst9:=hst8.ext x9'
 have hag:∀ r,r < R->(uE (p.at' to) (mN m' to R))[r]?=some (decide ((r:Int)∈(p.at' to).us)||(decide ((r:Int)≠(p.at' to).df)&&m' to r)):=λr hr=>by
  rw [EF (by rw [hrl];exact hr) (λx hx=>(hus x hx).1)]
  congr 3
  rw [List.getD_eq_getElem?_getD,lS hr];rfl
 have hagT:∀ r,r < R->((uE (p.at' to) (mN m' to R))[r]?=some true↔uJ p (λa b=>m' a b=true) to r):=λr hr=>by
  rw [hag r hr];simp [uJ]
 refine aZq hgl hl2 (by omega) hk hg (A:=uE (p.at' to) (mN m' to R)) (by rw [wH,hrl]) (hglt hst8) (λr hr=>?_) hst9 hsw8 hav ?_
 ·have hrR:r < R:=by have:=(List.getElem?_eq_some_iff.1 hr).1;rw [wH,hrl] at this;exact this
  rw [hagT r hrR] at hr;rcases hr with h|⟨h1,h2⟩
  ·exact .use (List.mem_of_getElem? hto) h
  ·exact .pass (List.mem_of_getElem? hto) h1 (hsw8.snd _ _ h2)
 ·intro f'' m'' w10 hst10 hsw10 hff10 hcl10 _ hkeep;refine aU.2 ?_;rw [aC (by omega) (by omega),aR];refine ⟨⟨f'',j+1,m'',rfl,rfl,by omega,hst10,hsw10,λh=>hff10 (hff h),λhf i to' hi hto' r hr ha=>?_,hkeep _ _ _ _ _ _ (x9'.own htl8) (λg hg=>hglt hst6 g hg)⟩,by simp only [aL];omega⟩;by_cases hij:i=j
  ·subst hij;rw [hto] at hto';have:(to:Int)=to':=by simpa using hto'
   have:to=to':=by omega
   subst this;have hf':f'=false:=by cases f' with|false=>rfl|true=>rw [hff10 rfl] at hf;cases hf
   refine hcl10 hf r ?_;rw [hagT r hr,hsw8.no hf'];exact ha
  ·have hf':f'=false:=by cases f' with|false=>rfl|true=>rw [hff10 rfl] at hf;cases hf
   exact hcl8 hf' i to' (by omega) hto' r hr ha
theorem aCs {p:eY} (hp:pD w pv p) (hv:kJ p) (hR:p.regs=R) :
  aB prog 84 #[pv] w λr w'=>(∃ m,yL w' r p.nodes.length R m/\∀ k r,k < p.nodes.length->r < R->(m k r=true↔nQ p k r))/\aF w w':=
 (EC hp hv hR).mono λ_ _ ⟨⟨m,h1,h2⟩,hx⟩=>⟨⟨m,h1.is,h2⟩,hx⟩
theorem yL.row {v:Value} {m:Mx} (h:yL w v N R m) (hN:N<=250) (hR:R<=40):∃ cs,aA w v 1 N cs/\∀ k,k < N->∃ u,cs[k]?=some u/\fX w u (mN m k R):=by
 obtain ⟨g0,gs,rfl,hl,h1,h2⟩:=h;refine ⟨_,h1.slice (by simpa using hl) (by unfold maxLen;omega),λk hk=>?_⟩;obtain ⟨g,hg⟩:=bC (l:=gs) (j:=k) (by omega);refine ⟨sl R g,by simp [hg],?_⟩;have:=(h2 k g hg).slice (n:=R) (by simp [gI]) (by unfold maxLen;omega);unfold fX;rw [gI];exact this
def bKl (p:eY) (R:Nat) (m:Mx):Bool:=
 (List.range p.nodes.length).all λk=>((p.at' k).nx k).all λto=>(List.range R).all λr=>!((p.at' to.toNat).us.contains (r:Int)||(decide ((r:Int)≠(p.at' to.toNat).df)&&m to.toNat r))||m k r
structure gZ where
 op:Int
 d:Int
 n:Int
 m:Int
 imm:Int
 cond:Int
inductive cF where
 | one (i:gZ)
 | place (l:Int)
 | jump (c l:Int)
 | load (r n:Int)
def cF.cells:cF->List Value
 | .one i=>[i64 1,i64 i.op,i64 i.d,i64 i.n,i64 i.m,i64 i.imm,i64 i.cond,i64 0,i64 0,i64 0,i32 0]
 | .place l=>[i64 2,i64 0,i64 0,i64 0,i64 0,i64 0,i64 0,i64 l,i64 0,i64 0,i32 0]
 | .jump c l=>[i64 3,i64 0,i64 0,i64 0,i64 0,i64 0,i64 0,i64 l,i64 c,i64 0,i32 0]
 | .load r n=>[i64 4,i64 0,i64 0,i64 0,i64 0,i64 0,i64 0,i64 0,i64 0,i64 r,i32 n]
theorem cF.len (x:cF):x.cells.length=11:=by cases x<;>rfl
def itC (l:List cF):List Value:=l.flatMap cF.cells
def iB (op d m:Int):cF:=.one ⟨op,d,0,m,0,0⟩
def iW (op d n:Int):cF:=.one ⟨op,d,0,0,n,0⟩
def eLd (of:List Int) (reg r:Int):cF:=let a:=of.getD r.toNat 0;if a < 16 then iB 28 reg a else iW 35 reg (4*(a - 16))
def eSt (of:List Int) (r reg:Int):cF:=let a:=of.getD r.toNat 0;if a < 16 then iB 28 a reg else iW 36 reg (4*(a - 16))
def mL (l:Int):List cF:=[iW 9 7 0,.jump 1 l,.one ⟨44,0,0,0,0,0⟩,.place l,iW 11 7 1]
def qX:List cF:=[iW 8 0 0,iB 17 0 0]
def lB:List cF:=[iB 22 0 1,iB 18 0 0,iB 21 0 0]
def qW:List cF:=iB 21 0 0::qX
def oW (op:Int):List cF:=[iW 8 2 31,iB 12 1 2,iB op 0 1]
def oI (op:Int):List cF:=
 if op=6 then [.one ⟨4,0,0,1,0,0⟩] else if op=7 then [.one ⟨5,0,0,1,0,0⟩] else if op=8 then [iB 25 0 1] else if op=9 then [iB 12 0 1] else if op=10 then [iB 24 0 1]
 else if op=11 then [iB 13 0 1] else if op=12 then oW 14 else if op=13 then oW 15 else if op=14 then oW 16 else if op=19 then .one ⟨5,0,0,1,0,0⟩::qW
 else if op=20 then .load 2 (-2147483648)::iB 13 0 2::iB 13 1 2::lB else lB
def eUn (op:Int):List cF:=if op=15 then [iB 21 0 0] else if op=16 then [iB 27 0 0] else qW
def kL:List cF:=[iB 21 0 0,iB 18 0 0,iB 13 1 2,iB 12 0 1,iB 13 0 2]
def tA (applet:Int):cF:=.load 1 (IntKind.i32.wrap (131072+64*applet))
def jG (of:List Int) (l:List Int):List cF:=(List.range l.length).map λ(k:Nat)=>eLd of (k:Int) (l.getD k 0)
def uV (of:List Int) (n:aJ):List cF:=if n.df>=0 then [eSt of n.df 0] else []
def aJ.srvB:aJ->Bool
 | .serve ..|.call ..|.callX ..|.ret _=>true
 | _=>false
def aJ.tkB:aJ->Bool
 | .tick=>true
 | _=>false
def oM (of:List Int) (N applet:Int) (tl:Nat) (n:aJ) (at':Int):List cF:=
 (match n with
 | .const _ k=>[.load 0 k]
 | .move _ _=>jG of n.us
 | .bin op _ _ _=>jG of n.us++oI op
 | .un op _ _=>jG of n.us++eUn op
 | .choose _ _ _ _=>jG of n.us++kL
 | .tick=>mL (N+at')
 | .goto t=>[.jump 14 t]
 | .branch _ t=>jG of n.us++[iW 9 0 0,.jump 1 t]
 | .getField _ f=>[tA applet,.one ⟨31,0,1,0,4*f,0⟩]
 | .putField f _=>jG of n.us++[tA applet,.one ⟨32,0,1,0,4*f,0⟩]
 | _=>jG of n.us++[.one ⟨44,0,0,0,(tl:Int)+1,0⟩])++uV of n
def fW (p:eY) (of:List Int) (applet:Int):Nat->List cF × List aJ
 | 0=>((List.range p.params.toNat).map λ(k:Nat)=>eSt of (k:Int) (k:Int),[])
 | k+1=>
  let s:=fW p of applet k
  (s.1++.place k::oM of p.nodes.length applet s.2.length (p.at' k) k,if (p.at' k).srvB then s.2++[p.at' k] else s.2)
def yY (x:Int):Prop:=0<=x/\x<=7
def gZ.okT (i:gZ):Prop:=
 (i.op=28/\(0<=i.d/\i.d < 15/\i.d≠13)/\(0<=i.m/\i.m < 15)/\i.n=0/\i.imm=0/\i.cond=0)
 \/ ((i.op=35\/i.op=36)/\yY i.d/\i.n=0/\i.m=0/\(0<=i.imm/\i.imm<=1020/\i.imm % 4=0)/\i.cond=0)
 \/ ((8<=i.op/\i.op<=11)/\yY i.d/\i.n=0/\i.m=0/\(0<=i.imm/\i.imm<=255)/\i.cond=0)
 \/ ((12<=i.op/\i.op<=27)/\yY i.d/\i.n=0/\yY i.m/\i.imm=0/\i.cond=0)
 \/ ((i.op=4\/i.op=5)/\yY i.d/\yY i.n/\yY i.m/\i.imm=0/\i.cond=0)
 \/ ((i.op=31\/i.op=32)/\yY i.d/\yY i.n/\i.m=0/\(0<=i.imm/\i.imm<=124/\i.imm % 4=0)/\i.cond=0)
 \/ (i.op=44/\i.d=0/\i.n=0/\i.m=0/\(0<=i.imm/\i.imm<=255)/\i.cond=0)
def cF.okI:cF->Prop
 | .one i=>i.okT
 | .place l=>0<=l/\l<=2000
 | .jump c l=>(0<=l/\l<=2000)/\(0<=c/\c<=14)
 | .load r _=>yY r
def cF.pl:cF->List Int
 | .place l=>[l]
 | _=>[]
def cF.jl:cF->List Int
 | .jump _ l=>[l]
 | _=>[]
def jU (l:List cF):List Int:=l.flatMap cF.pl
def sT (l:List cF):List Int:=l.flatMap cF.jl
def MS (of:List Int) (R:Nat):Prop:=∀ r:Int,0<=r->r < R->of.getD r.toNat 0=5\/of.getD r.toNat 0=6\/(16<=of.getD r.toNat 0/\of.getD r.toNat 0 < 56)
theorem aZn (h:12<=op/\op<=27) (hd:yY d) (hm:yY m):(iB op d m).okI:=.inr (.inr (.inr (.inl ⟨h,hd,rfl,hm,rfl,rfl⟩)))
theorem BX (h:8<=op/\op<=11) (hd:yY d) (hn:0<=n/\n<=255):(iW op d n).okI:=.inr (.inr (.inl ⟨h,hd,rfl,rfl,hn,rfl⟩))
theorem jV:yY 0:=⟨by decide,by decide⟩
theorem qR:yY 1:=⟨by decide,by decide⟩
theorem CO:yY 2:=⟨by decide,by decide⟩
theorem bCc {of:List Int} {r:Int} (ho:MS of R) (hg:yY reg) (h0:0<=r) (h1:r < R):(eLd of reg r).okI/\(eLd of reg r).pl=[]/\(eLd of reg r).jl=[]:=by
 have hr:=ho r h0 h1;unfold eLd;obtain ⟨g0,g7⟩:=hg;by_cases h:of.getD r.toNat 0 < 16
 ·simp only [h,if_true];refine ⟨.inl ⟨rfl,⟨g0,?_,?_⟩,⟨?_,?_⟩,rfl,rfl,rfl⟩,rfl,rfl⟩<;>dsimp only<;>omega
 ·simp only [h,if_false];refine ⟨.inr (.inl ⟨.inl rfl,⟨g0,g7⟩,rfl,rfl,⟨?_,?_,?_⟩,rfl⟩),rfl,rfl⟩<;>dsimp only<;>omega
theorem aHm {of:List Int} {r:Int} (ho:MS of R) (hg:yY reg) (h0:0<=r) (h1:r < R):(eSt of r reg).okI/\(eSt of r reg).pl=[]/\(eSt of r reg).jl=[]:=by
 have hr:=ho r h0 h1;unfold eSt;obtain ⟨g0,g7⟩:=hg;by_cases h:of.getD r.toNat 0 < 16
 ·simp only [h,if_true];refine ⟨.inl ⟨rfl,⟨?_,?_,?_⟩,⟨g0,?_⟩,rfl,rfl,rfl⟩,rfl,rfl⟩<;>dsimp only<;>omega
 ·simp only [h,if_false];refine ⟨.inr (.inl ⟨.inr rfl,⟨g0,g7⟩,rfl,rfl,⟨?_,?_,?_⟩,rfl⟩),rfl,rfl⟩<;>dsimp only<;>omega
structure kQ (l:List cF) (n:Nat):Prop where
 ok:∀ x∈l,x.okI
 pl:jU l=[]
 jl:sT l=[]
 len:l.length<=n
theorem kQ.nil:kQ [] 0:=⟨λx h=>(by cases h),rfl,rfl,Nat.le_refl _⟩
theorem kQ.cons {x:cF} {l:List cF} {n:Nat} (hx:x.okI/\x.pl=[]/\x.jl=[]) (h:kQ l n):kQ (x::l) (n+1):=by
 refine ⟨λy hy=>?_,?_,?_,Nat.succ_le_succ h.len⟩
 ·rcases List.mem_cons.1 hy with rfl|hy
  ·exact hx.1
  ·exact h.ok y hy
 ·show x.pl++jU l=[];rw [hx.2.1,h.pl];rfl
 ·show x.jl++sT l=[];rw [hx.2.2,h.jl];rfl
theorem kQ.app {l l':List cF} {n:Nat} (h:kQ l n) (h':kQ l' n'):kQ (l++l') (n+n'):=by
 refine ⟨λy hy=>?_,?_,?_,by rw [List.length_append];have:=h.len;have:=h'.len;omega⟩
 ·rcases List.mem_append.1 hy with hy|hy
  ·exact h.ok y hy
  ·exact h'.ok y hy
 ·show jU (l++l')=[];unfold jU;rw [List.flatMap_append];show jU l++jU l'=[];rw [h.pl,h'.pl];rfl
 ·show sT (l++l')=[];unfold sT;rw [List.flatMap_append];show sT l++sT l'=[];rw [h.jl,h'.jl];rfl
theorem kQ.mono {l:List cF} {n:Nat} (h:kQ l n) (hn:n<=n'):kQ l n':=⟨h.ok,h.pl,h.jl,Nat.le_trans h.len hn⟩
theorem sG (h:12<=op/\op<=27) (hd:yY d) (hm:yY m):(iB op d m).okI/\(iB op d m).pl=[]/\(iB op d m).jl=[]:=⟨aZn h hd hm,rfl,rfl⟩
theorem TC (h:8<=op/\op<=11) (hd:yY d) (hn:0<=n/\n<=255):(iW op d n).okI/\(iW op d n).pl=[]/\(iW op d n).jl=[]:=⟨BX h hd hn,rfl,rfl⟩
theorem bBz (h:op=4\/op=5):(cF.one ⟨op,0,0,1,0,0⟩).okI/\(cF.one ⟨op,0,0,1,0,0⟩).pl=[]/\(cF.one ⟨op,0,0,1,0,0⟩).jl=[]:=⟨.inr (.inr (.inr (.inr (.inl ⟨h,jV,jV,qR,rfl,rfl⟩)))),rfl,rfl⟩
theorem WI {r:Int} (h:yY r):(cF.load r n).okI/\(cF.load r n).pl=[]/\(cF.load r n).jl=[]:=⟨h,rfl,rfl⟩
theorem ME:kQ lB 3:=kQ.nil.cons (sG (by decide) jV jV) |>.cons (sG (by decide) jV jV) |>.cons (sG (by decide) jV qR)
theorem aHr:kQ qX 2:=kQ.nil.cons (sG (by decide) jV jV) |>.cons (TC (by decide) jV (by decide))
theorem WK:kQ qW 3:=aHr.cons (sG (by decide) jV jV)
theorem DV (h:12<=op/\op<=27):kQ (oW op) 3:=kQ.nil.cons (sG h jV qR) |>.cons (sG (by decide) qR CO) |>.cons (TC (by decide) CO (by decide))
theorem TE (op:Int):kQ (oI op) 6:=by
 unfold oI;have one:∀ {x:cF},(x.okI/\x.pl=[]/\x.jl=[])->kQ [x] 6:=λh=>(kQ.nil.cons h).mono (by decide);split;· exact one (bBz (.inl rfl))
 split;· exact one (bBz (.inr rfl))
 split;· exact one (sG (by decide) jV qR)
 split;· exact one (sG (by decide) jV qR)
 split;· exact one (sG (by decide) jV qR)
 split;· exact one (sG (by decide) jV qR)
 split;· exact (DV (by decide)).mono (by decide)
 split;· exact (DV (by decide)).mono (by decide)
 split;· exact (DV (by decide)).mono (by decide)
 split;· exact (WK.cons (bBz (.inr rfl))).mono (by decide)
 split
 ·exact (ME.cons (sG (by decide) qR CO)).cons (sG (by decide) jV CO) |>.cons (WI CO)
 ·exact ME.mono (by decide)
theorem aHl (op:Int):kQ (eUn op) 3:=by
 unfold eUn;split;· exact (kQ.nil.cons (sG (by decide) jV jV)).mono (by decide)
 split;· exact (kQ.nil.cons (sG (by decide) jV jV)).mono (by decide)
 exact WK
theorem aCh:kQ kL 5:=kQ.nil.cons (sG (by decide) jV CO) |>.cons (sG (by decide) jV qR) |>.cons (sG (by decide) qR CO) |>.cons (sG (by decide) jV jV) |>.cons (sG (by decide) jV jV)
theorem bCb {of:List Int} {l:List Int} (ho:MS of R) (hl:∀ r∈l,0<=r/\r < R) (h5:l.length<=5):kQ (jG of l) 5:=by
 have each:∀ x∈jG of l,x.okI/\x.pl=[]/\x.jl=[]:=λx hx=>by
  simp only [jG,List.mem_map,List.mem_range] at hx;obtain ⟨k,hk,rfl⟩:=hx;have hm:l.getD k 0∈l:=by rw [List.getD_eq_getElem?_getD,List.getElem?_eq_getElem hk];exact List.getElem_mem hk
  obtain ⟨a,b⟩:=hl _ hm;exact bCc ho ⟨by omega,by omega⟩ a b
 have fl:∀ m:List cF,(∀ x∈m,x.okI/\x.pl=[]/\x.jl=[])->kQ m m.length:=λm=>by
  induction m with
  | nil=>exact λ_=>kQ.nil
  | cons x m ih=>exact λh=>(ih λy hy=>h y (List.mem_cons_of_mem _ hy)).cons (h x List.mem_cons_self)
 exact (fl _ each).mono (by simpa [jG] using h5)
theorem pC.us5 {n:aJ} {k r c:Int} (h:pC n k r c):n.us.length<=5:=by
 have hf:=h.f;cases n with
 | serve op a b d l=>
  have hf:qP op=l.length:=hf;unfold qP at hf;show l.length<=5;split at hf
  ·omega
  ·split at hf
   ·omega
   ·split at hf
    ·omega
    ·split at hf<;>omega
 | call m d l=>have:=hf.2;show l.length<=5;omega
 | callX m d l=>have:=hf.2;show l.length<=5;omega
 | ret s=>simp only [aJ.us];split<;>simp
 | _=>simp [aJ.us]
theorem qS (l l':List cF):jU (l++l')=jU l++jU l':=by unfold jU;rw [List.flatMap_append]
theorem LJ (l l':List cF):sT (l++l')=sT l++sT l':=by unfold sT;rw [List.flatMap_append]
theorem bCd {of:List Int} {n:aJ} {k c:Int} (ho:MS of R) (hn:pC n k R c):kQ (uV of n) 1:=by
 unfold uV;split
 ·rename_i h
  rcases hn.d with h1|h1
  ·exact kQ.nil.cons (aHm ho jV h1.1 h1.2)
  ·omega
 ·exact kQ.nil.mono (by decide)
structure NOk (n:aJ) (N:Nat) (k:Nat) (l:List cF):Prop where
 ok:∀ x∈l,x.okI
 pl:jU l=if n.tkB then [(N:Int)+k] else []
 jl:∀ q∈sT l,(0<=q/\q < N)\/(n.tkB=true/\q=(N:Int)+k)
 len:l.length<=13
theorem NOk.of_flat {n:aJ} {m:Nat} {l:List cF} (hn:n.tkB=false) (h:kQ l m) (hm:m<=13):NOk n N k l:=⟨h.ok,(by rw [hn,h.pl];rfl),λq hq=>(by rw [h.jl] at hq;cases hq),Nat.le_trans h.len hm⟩
theorem aHn {of:List Int} {tl:Nat} {n:aJ} (ho:MS of R) (hn:pC n k R N) (hN:N<=250) (hk:k < N) (ht:tl<=k):NOk n N k (oM of N applet tl n k):=by
 have h5:=hn.us5;have hl:kQ (jG of n.us) 5:=bCb ho hn.u h5;have hd:=bCd ho hn;have hd0:∀ {n:aJ},n.df=-1->uV of n=[]:=λh=>by unfold uV;rw [if_neg (by omega)]
 have jump:∀ {c t:Int} {l:List cF} {m:Nat},kQ l m->m<=12->(0<=t/\t < N)->0<=c/\c<=14->n.tkB=false->NOk n N k (l++[.jump c t]):=λ{c t l m} hf hm h2 hc hne=>⟨λx hx=>by
   rcases List.mem_append.1 hx with hx|hx
   ·exact hf.ok x hx
   ·rw [List.mem_singleton] at hx;subst hx;exact ⟨⟨h2.1,by omega⟩,hc⟩,by rw [qS,hf.pl,hne];rfl,λq hq=>by
   rw [LJ,hf.jl] at hq;have:q=t:=by simpa [sT,cF.jl] using hq
   subst this;exact .inl h2,by rw [List.length_append];have:=hf.len;simp;omega⟩
 cases n with
 | const d v=>exact .of_flat rfl ((kQ.nil.cons (WI (n:=v) jV)).app hd) (by decide)
 | move d s=>exact .of_flat rfl (hl.app hd) (by decide)
 | bin op d a b=>exact .of_flat rfl ((hl.app (TE op)).app hd) (by decide)
 | un op d a=>exact .of_flat rfl ((hl.app (aHl op)).app hd) (by decide)
 | choose d c a b=>exact .of_flat rfl ((hl.app aCh).app hd) (by decide)
 | tick=>
  show NOk .tick N k (mL ((N:Int)+k)++uV of .tick);rw [hd0 rfl,List.append_nil];refine ⟨λx hx=>?_,by simp [mL,jU,cF.pl,iW,aJ.tkB],λq hq=>.inr ⟨rfl,by simpa [mL,sT,cF.jl,iW] using hq⟩,by simp [mL]⟩;simp only [mL,List.mem_cons,List.not_mem_nil,or_false] at hx;rcases hx with rfl|rfl|rfl|rfl|rfl
  ·exact BX (by decide) ⟨by decide,by decide⟩ (by decide)
  ·exact ⟨⟨by omega,by omega⟩,by decide⟩
  ·exact .inr (.inr (.inr (.inr (.inr (.inr ⟨rfl,rfl,rfl,rfl,by decide,rfl⟩)))))
  ·exact ⟨by omega,by omega⟩
  ·exact BX (by decide) ⟨by decide,by decide⟩ (by decide)
 | goto t=>
  show NOk (.goto t) N k ([.jump 14 t]++uV of (.goto t));rw [hd0 rfl,List.append_nil];exact jump (l:=[]) kQ.nil (by decide) (hn.t t (by simp [aJ.nx])) (by decide) rfl
 | branch c t=>
  show NOk (.branch c t) N k ((jG of _++[iW 9 0 0,.jump 1 t])++uV of (.branch c t));rw [hd0 rfl,List.append_nil,show [iW 9 0 0,cF.jump 1 t]=[iW 9 0 0]++[.jump 1 t] from rfl,<- List.append_assoc]
  have h2:0<=t/\t < N:=by
   refine hn.t t ?_;simp only [aJ.nx];split
   ·rename_i h;rw [h];exact List.mem_singleton.2 rfl
   ·simp
  exact jump (hl.app (kQ.nil.cons (TC (by decide) jV (by decide)))) (by decide) h2 (by decide) rfl
 | getField d f=>
  have hf:0<=f/\f < 8:=hn.f;refine .of_flat rfl (((kQ.nil.cons (x:=.one ⟨31,0,1,0,4*f,0⟩) ⟨.inr (.inr (.inr (.inr (.inr (.inl ⟨.inl rfl,jV,qR,rfl,⟨?_,?_,?_⟩,rfl⟩))))),rfl,rfl⟩).cons (WI qR)).app hd) (by decide)<;>dsimp only<;>omega
 | putField f s=>
  have hf:0<=f/\f < 8:=hn.f;refine .of_flat rfl ((hl.app ((kQ.nil.cons (x:=.one ⟨32,0,1,0,4*f,0⟩) ⟨.inr (.inr (.inr (.inr (.inr (.inl ⟨.inr rfl,jV,qR,rfl,⟨?_,?_,?_⟩,rfl⟩))))),rfl,rfl⟩).cons (WI qR))).app hd) (by decide)<;>dsimp only<;>omega
 | serve op a b d l=>exact .of_flat rfl ((hl.app (kQ.nil.cons (x:=.one ⟨44,0,0,0,(tl:Int)+1,0⟩) ⟨.inr (.inr (.inr (.inr (.inr (.inr ⟨rfl,rfl,rfl,rfl,⟨by dsimp only;omega,by dsimp only;omega⟩,rfl⟩))))),rfl,rfl⟩)).app hd) (by decide)
 | call m d l=>exact .of_flat rfl ((hl.app (kQ.nil.cons (x:=.one ⟨44,0,0,0,(tl:Int)+1,0⟩) ⟨.inr (.inr (.inr (.inr (.inr (.inr ⟨rfl,rfl,rfl,rfl,⟨by dsimp only;omega,by dsimp only;omega⟩,rfl⟩))))),rfl,rfl⟩)).app hd) (by decide)
 | callX m d l=>exact .of_flat rfl ((hl.app (kQ.nil.cons (x:=.one ⟨44,0,0,0,(tl:Int)+1,0⟩) ⟨.inr (.inr (.inr (.inr (.inr (.inr ⟨rfl,rfl,rfl,rfl,⟨by dsimp only;omega,by dsimp only;omega⟩,rfl⟩))))),rfl,rfl⟩)).app hd) (by decide)
 | ret s=>exact .of_flat rfl ((hl.app (kQ.nil.cons (x:=.one ⟨44,0,0,0,(tl:Int)+1,0⟩) ⟨.inr (.inr (.inr (.inr (.inr (.inr ⟨rfl,rfl,rfl,rfl,⟨by dsimp only;omega,by dsimp only;omega⟩,rfl⟩))))),rfl,rfl⟩)).app hd) (by decide)
structure EOk (p:eY) (N k:Nat) (l:List cF) (tab:List aJ):Prop where
 ok:∀ x∈l,x.okI
 pl:∀ q∈jU l,(∃ i:Nat,i < k/\q=i)\/∃ i:Nat,i < k/\q=(N:Int)+i/\(p.at' i).tkB=true
 nd:(jU l).Nodup
 mem:∀ i:Nat,i < k->(i:Int)∈jU l
 jl:∀ q∈sT l,(0<=q/\q < N)\/q∈jU l
 len:l.length<=4+14*k
 tab:tab=((List.range k).map p.at').filter aJ.srvB
theorem DU {p:eY} {of:List Int} {R N:Nat} {applet:Int} (hv:kJ p) (hR:p.regs=R) (hN:p.nodes.length=N) (ho:MS of R):∀ k,k<=N->EOk p N k (fW p of applet k).1 (fW p of applet k).2
 | 0,_=>by
  have hp1:=hv.p1;have hp2:=hv.p2;have hp3:=hv.p3
  have each:∀ x∈(fW p of applet 0).1,x.okI/\x.pl=[]/\x.jl=[]:=λx hx=>by
   simp only [fW,List.mem_map,List.mem_range] at hx;obtain ⟨k,hk,rfl⟩:=hx;exact aHm ho ⟨by omega,by omega⟩ (by omega) (by omega)
  have h1:jU (fW p of applet 0).1=[]:=List.flatMap_eq_nil_iff.2 λx hx=>(each x hx).2.1;have h2:sT (fW p of applet 0).1=[]:=List.flatMap_eq_nil_iff.2 λx hx=>(each x hx).2.2;exact ⟨λx hx=>(each x hx).1,λq hq=>(by rw [h1] at hq;cases hq),(by rw [h1];exact List.nodup_nil),λi hi=>(by omega),λq hq=>(by rw [h2] at hq;cases hq),by simp [fW];omega,rfl⟩
 | k+1,hk=>by
  have ih:=DU (applet:=applet) hv hR hN ho k (by omega);have l2:=hv.l2;obtain ⟨hpk,hrk⟩:=hv.at (k:=k) (by omega);rw [hR,hN] at hrk;have htl:(fW p of applet k).2.length<=k:=by rw [ih.tab];exact Nat.le_trans (List.length_filter_le _ _) (by simp)
  have hn:=aHn (applet:=applet) (tl:=(fW p of applet k).2.length) ho hrk (by omega) (by omega) htl;have e1:(fW p of applet (k+1)).1=(fW p of applet k).1++.place k::oM of N applet (fW p of applet k).2.length (p.at' k) k:=by rw [<- hN];rfl
  have e2:(fW p of applet (k+1)).2=if (p.at' k).srvB then (fW p of applet k).2++[p.at' k] else (fW p of applet k).2:=rfl
  generalize fW p of applet k=s at *;rw [e1,e2]
  have epl:jU (s.1++.place k::oM of N applet s.2.length (p.at' k) k)=jU s.1++((k:Int)::if (p.at' k).tkB then [(N:Int)+k] else []):=by
   rw [qS,show jU (.place k::oM of N applet s.2.length (p.at' k) k)=(k:Int)::jU (oM of N applet s.2.length (p.at' k) k) from rfl,hn.pl]
  refine ⟨λx hx=>?_,λq hq=>?_,?_,λi hi=>?_,λq hq=>?_,?_,?_⟩
  ·rcases List.mem_append.1 hx with hx|hx
   ·exact ih.ok x hx
   ·rcases List.mem_cons.1 hx with rfl|hx
    ·exact ⟨by omega,by omega⟩
    ·exact hn.ok x hx
  ·rw [epl] at hq;rcases List.mem_append.1 hq with hq|hq
   ·rcases ih.pl q hq with ⟨i,h1,h2⟩|⟨i,h1,h2⟩
    ·exact .inl ⟨i,by omega,h2⟩
    ·exact .inr ⟨i,by omega,h2⟩
   ·rcases List.mem_cons.1 hq with rfl|hq
    ·exact .inl ⟨k,by omega,rfl⟩
    ·split at hq
     ·rename_i ht
      rw [List.mem_singleton] at hq;exact .inr ⟨k,by omega,hq,ht⟩
     ·cases hq
  ·rw [epl];refine List.nodup_append.2 ⟨ih.nd,?_,λa ha b hb he=>?_⟩
   ·split
    ·refine List.nodup_cons.2 ⟨λh=>?_,by simp⟩;rw [List.mem_singleton] at h;omega
    ·simp
   ·subst he
    have hb2:a=(k:Int)\/a=(N:Int)+k:=by
     rcases List.mem_cons.1 hb with hb|hb
     ·exact .inl hb
     ·split at hb
      ·exact .inr (by simpa using hb)
      ·cases hb
    rcases ih.pl a ha with ⟨i,h1,h2⟩|⟨i,h1,h2,_⟩<;>omega
  ·rw [epl];by_cases hik:i=k
   ·subst hik;exact List.mem_append_right _ List.mem_cons_self
   ·exact List.mem_append_left _ (ih.mem i (by omega))
  ·rw [epl];rw [LJ,show sT (.place k::oM of N applet s.2.length (p.at' k) k)=sT (oM of N applet s.2.length (p.at' k) k) from rfl] at hq;rcases List.mem_append.1 hq with hq|hq
   ·rcases ih.jl q hq with h1|h1
    ·exact .inl h1
    ·exact .inr (List.mem_append_left _ h1)
   ·rcases hn.jl q hq with h1|⟨h1,h2⟩
    ·exact .inl h1
    ·right;rw [if_pos h1];exact List.mem_append_right _ (by rw [h2];simp)
  ·have:=ih.len;have:=hn.len;rw [List.length_append,List.length_cons];omega
  ·rw [List.range_succ,List.map_append,List.filter_append,<- ih.tab];simp only [List.map_cons,List.map_nil,List.filter_cons,List.filter_nil];split<;>simp
structure tL (l:List cF):Prop where
 len:l.length<=6000
 ok:∀ x∈l,x.okI
 nd:(jU l).Nodup
 jl:∀ q∈sT l,q∈jU l
def mK (p:eY) (of:List Int) (applet:Int):List cF:=(fW p of applet p.nodes.length).1
def hO (p:eY):List aJ:=p.nodes.filter aJ.srvB
theorem aEo {p:eY}:(List.range p.nodes.length).map p.at'=p.nodes:=by
 apply List.ext_getElem?;intro i;by_cases hi:i < p.nodes.length
 ·rw [List.getElem?_map,List.getElem?_range hi,List.getElem?_eq_getElem hi];show some (p.nodes.getD i _)=_;rw [List.getD_eq_getElem?_getD,List.getElem?_eq_getElem hi];rfl
 ·rw [List.getElem?_eq_none (by simp;omega),List.getElem?_eq_none (by omega)]
theorem xS {p:eY} {of:List Int} (hv:kJ p) (hR:p.regs=R) (ho:MS of R):tL (mK p of applet)/\(fW p of applet p.nodes.length).2=hO p:=by
 have h:=DU (applet:=applet) hv hR rfl ho p.nodes.length (Nat.le_refl _);have l2:=hv.l2;refine ⟨⟨by have:=h.len;unfold mK;omega,h.ok,h.nd,λq hq=>?_⟩,by rw [h.tab,aEo];rfl⟩;rcases h.jl q hq with ⟨h1,h2⟩|h1
 ·obtain ⟨k,rfl⟩:∃ k:Nat,q=k:=⟨q.toNat,by omega⟩;exact h.mem k (by omega)
 ·exact h1
def aJ.pk:aJ->Int
 | .const _ _=>1|.move _ _=>2|.bin _ _ _ _=>3|.un _ _ _=>4|.choose _ _ _ _=>5|.tick=>6|.goto _=>7|.branch _ _=>8
 | .getField _ _=>9|.putField _ _=>10|.serve _ _ _ _ _=>11|.call _ _ _=>12|.callX _ _ _=>13|.ret _=>14
def aJ.pop:aJ->Int
 | .bin op _ _ _|.un op _ _|.serve op _ _ _ _=>op
 | _=>0
def aJ.pN (_:Int):aJ->Int
 | .const _ n=>IntKind.i64.wrap n
 | .getField _ f|.putField f _=>f
 | .call k _ _|.callX k _ _=>k
 | _=>0
def aJ.pA:aJ->Int
 | .serve _ a _ _ _=>a
 | _=>0
def aJ.pB:aJ->Int
 | .serve _ _ b _ _=>b
 | _=>0
def aJ.pT:aJ->Int
 | .goto t|.branch _ t=>t
 | _=>0
def aJ.pcs (g:aJ) (m:Int) (sv:Value):List Value:=[i64 g.pk,i64 g.df,i64 g.pop,i64 (g.pN m),i64 g.pA,i64 g.pB,i64 g.pT,sv]
def bJd (w:World) (v:Value) (g:aJ):Prop:=∃ m sv,v=.agg (g.pcs m sv).toArray/\aN w sv g.us
def bKb (v0:Value) (w w':World) (v:Value) (g:aJ):Prop:=∃ m sv,v=.agg (g.pcs m sv).toArray/\((∀ w0,iX w0 v0 g->aN w0 sv g.us)\/w'.ownsRow w.heap.size 3 1 sv g.us.length (g.us.map i64))
def aJ.wr:aJ->Int
 | .const _ _|.move _ _|.bin _ _ _ _|.un _ _ _|.choose _ _ _ _|.getField _ _=>1
 | .serve _ _ _ _ _|.call _ _ _|.callX _ _ _=>0
 | _=>-1
def bJe (w:World) (v:Value) (params regs:Int) (gs:List aJ):Prop:=∃ ns cs,v=.agg #[i64 params,i64 regs,ns]/\aA w ns 8 gs.length cs/\∀ (i:Nat) g,gs[i]?=some g->∃ m sv,(cs.drop (i*8)).take 8=g.pcs m sv/\aN w sv g.us
end Go.Proofs.YtjcmcfidblhnnaaGreatDoor
namespace Go.Vc
open Go.Proofs
section
variable {P:Program} {w:World}
theorem yZ {w:World} {B B' e e' s s' n n':Nat} {v v':Value} {xs xs':List Value} (h:w.ownsRow B e s v n xs) (h':w.ownsRow B' e' s' v' n' xs') (hne:e≠e'):v.ownBlock=none\/v.ownBlock≠v'.ownBlock:=by
 rcases h.2 with ⟨rfl,_⟩|⟨g,cap,cur,rfl,_,h1,_⟩
 ·exact .inl rfl
 ·refine .inr ?_;rcases h'.2 with ⟨rfl,_⟩|⟨g',cap',cur',rfl,_,h2,_⟩
  ·simp [Value.ownBlock]
  ·simp only [Value.ownBlock,ne_eq,Option.some.injEq];rintro rfl;rw [h1] at h2;cases h2;exact hne rfl
theorem aOp {w:World} {B e s n g:Nat} {v:Value} {xs:List Value} (h:w.ownsRow B e s v n xs) (hg:g < B):v.ownBlock≠some g:=λhe=>by have:=(h.lt g he).1;omega
theorem aAq {w:World} {g o:Nat} {u:Value}:w.grownBy (w.setCell ⟨g,o,none⟩ u) (some g):=⟨rfl,rfl,rfl,by simp,λ_ _ hne=>heap_setCell_other _ _ _ _ (λhe=>hne (by simp [he]))⟩
theorem lM {w:World} {B e s n g o:Nat} {v u:Value} {xs:List Value} (h:w.ownsRow B e s v n xs) (hg:g < B):(w.setCell ⟨g,o,none⟩ u).ownsRow B e s v n xs:=
 h.kept aAq (.inr (aOp h hg))
end
end Go.Vc
namespace Go.Proofs.YtjcmcfidblhnnaaGreatDoor
open Tryz
open Go.Vc
variable {w w' w0:World} {B R g0 k r sg ub:Nat} {m:Mx} {ov:Value} {gs:List Nat} {sb:List Bool} {o ord:List Int}
theorem nX {e s n:Nat} {v:Value} {xs:List Value} (h:w.ownsRow B e s v n xs):cO v=true:=by
 obtain ⟨a,c,rfl⟩:=(aA.of_own h).shape;rfl
def El (p:eY) (w0 w:World) (B i:Nat) (cs:List Value):Prop:=∀ j,j < i->∃ g m sv,p.nodes[j]?=some g/\(cs.drop (j*8)).take 8=g.pcs m sv/\(aN w0 sv g.us\/w.ownsRow B 3 1 sv g.us.length (g.us.map i64))
def bKt (l:List Bool) (of:List Int):Prop:=∀ (r s:Nat),s < r->l[r]?=some true->l[s]?=some true->of[r]?≠of[s]?
def wO (l:List Bool) (d:Int):List Bool:=if 0<=d then l.set d.toNat true else l
theorem aAl (l:List Bool) (d:Int):(wO l d).length=l.length:=by unfold wO;split<;>simp
theorem aNt {l:List Bool} {lv:Value} {d:Int} (hl:fX w lv l) (hb:l.length<=1000) (hd:d < l.length) :
  aB prog 85 #[lv,i64 d] w λr w'=>w'.ownsRow w.heap.size 4 1 r l.length ((wO l d).map Value.bool)/\aF w w':=by
 apply bDz;unfold YB;refine jS aDd [] rfl rfl (by simp) rfl λv0 w2 ho2 x2=>?_;refine TS aDd ho2 (hl.ext x2) (by simp [cO]) (by omega) (by unfold maxLen;omega) x2.size λov w3 ho3 hg3=>?_;have x3:aF w w3:=x2.grown hg3 λk hk=>(ho2.lt k hk).1;simp only [Nat.zero_add,List.nil_append] at ho3;refine kN.2 (aD (λhge=>?_) λhlt=>?_)
 ·have hge':0<=d:=hge;refine stO gT kP ho3 hge' hd rfl λw5 ho5 hg=>?_;rw [nN] at ho5;refine ⟨?_,x3.grown hg λk hk=>(ho3.lt k hk).1⟩;unfold wO;rw [if_pos hge'];exact ho5
 ·refine ⟨?_,x3⟩;unfold wO;rw [if_neg (by simpa using hlt)];exact ho3
def AQ (m:Mx) (sl:List Bool) (of:List Int) (r:Nat) (at':Int):Prop:=(sl[r]?=some true->16<=at')/\∀ (o:Nat) (y:Int),of[o]?=some y->m r o=true->y≠at'
theorem aFx {sl:List Bool} {of:List Int} {mv slv ofv:Value} {at':Int} (hR:R<=40) (hm:yL w mv R R m) (hs:fX w slv sl) (hsl:sl.length=R) (ho:aN w ofv of) (hof:of.length=R) (hr:r < R) :
  aB prog 41 #[.agg #[mv,slv,ov],i64 r,i64 at',ofv] w λq w'=>(∃ ok:Bool,q=.bool ok/\(ok=true↔AQ m sl of r at'))/\aF w w':=by
 apply bFk;unfold ZJ;obtain ⟨cs,hcs,hrow⟩:=hm.row (by omega) hR;obtain ⟨u,hu,hub⟩:=hrow r hr;obtain ⟨oa,oc,rfl⟩:=ho.shape;obtain ⟨s,hss⟩:=bC (l:=sl) (j:=r) (by omega);refine bx λb w1 hb1 x1=>?_;refine bF hb1 dR oC rfl ?_;refine lV gT oD (hs.ext x1) (by omega) (by omega) (LX hss) ?_;have key:∀ {X:Prop},((s=true/\at' < 16)->(∃ ok:Bool,Value.bool false=.bool ok/\(ok=true↔AQ m sl of r at'))/\aF w w1)/\(¬ (s=true/\at' < 16)->X)->True:=λ_=>trivial;have no:∀ {w'},aF w w'->¬ AQ m sl of r at'->(∃ ok:Bool,Value.bool false=.bool ok/\(ok=true↔AQ m sl of r at'))/\aF w w':=λhx hn=>⟨⟨false,rfl,λh=>(by cases h),λh=>absurd h hn⟩,hx⟩
 have rest:(s=true->16<=at')->∃ (I1:NP 1) (μ1:NF 1),I1 (Value.int IntKind.i64 0) w1 /\
   ∀ (t22:Value),∀ w10:World,I1 t22 w10->∀ _f:bN,
   V prog (binOp .lss 3 t22 (i64 of.length)) w10 λt23 w11=>
   aI t23 (
   V prog (Instr.indexAt 23 (.slice oa of.length oc) t22) w11 λt25 w12=>
   V prog (Instr.loadAt 3 t25) w12 λt26 w13=>
   V prog (Instr.fieldAt 141 (.pointer (some ⟨b,0,none⟩)) 0) w13 λt27 w14=>
   V prog (Instr.loadAt 139 t27) w14 λt28 w15=>
   V prog (Instr.indexAt 139 t28 (i64 r)) w15 λt30 w16=>
   V prog (Instr.loadAt 95 t30) w16 λt31 w17=>
   V prog (Instr.indexAt 95 t31 t22) w17 λt33 w18=>
   V prog (Instr.loadAt 4 t33) w18 λt34 w19=>
   gd t34 true (λK=>K t26 w19) w19 λt36 w20=>
   gd t34 true (λK=>K (i64 at') w20) w20 λt37 w21=>
   gd t34 true (λK=>V prog (do eqGuard .eql 3 (Operand.tmp 36) (Operand.tmp 37) t36 t37;binOp .eql 3 t36 t37) w21 K) w21 λt38 w22=>
   aG t34 t38 (Value.bool false) λt39=>
   aI t39 (
   (∃ ok:Bool,Value.bool false=.bool ok/\(ok=true↔AQ m sl of r at'))/\aF w w22) (
   V prog (binOp .add 3 t22 (Value.int IntKind.i64 1)) w22 λt40 w24=>
   I1 t40 w24/\μ1 t40 w24 < μ1 t22 w10)) (
   (∃ ok:Bool,Value.bool true=.bool ok/\(ok=true↔AQ m sl of r at'))/\aF w w11):=by
  intro hslot;refine ⟨λv w'=>∃ i:Nat,v=i64 i/\i<=of.length/\w1=w'/\∀ (o:Nat) (y:Int),o < i->of[o]?=some y->m r o=true->y≠at',λv _=>of.length - (RowKit.intOf v).toNat,⟨0,rfl,Nat.zero_le _,rfl,λo y h=>by omega⟩,?_⟩;rintro _ _ ⟨i,rfl,hi,rfl,hdone⟩ _;refine aY.2 (aD (λhlt=>?_) λhge=>?_)
  ·have hi':i < of.length:=by omega
   obtain ⟨y,hy⟩:=bC hi';refine lV aQ aH (ho.ext x1) (by omega) (by omega) (cG hy) ?_;refine bF hb1 dS gQ rfl ?_;refine lV rL oC (hcs.ext x1) (by omega) (by omega) (by simpa using hu) ?_;have hub':aA w u 1 R ((mN m r R).map Value.bool):=by have:=hub;unfold fX at this;rw [gI] at this;exact this
   refine lV gT oD (hub'.ext x1) (by omega) (by omega) (LX (lS (by omega))) ?_
   have go:(m r i=true->y≠at')->V prog (binOp .add 3 (i64 i) (Value.int IntKind.i64 1)) w1 λt40 w24=>(∃ i:Nat,t40=i64 i/\i<=of.length/\w1=w24/\∀ (o:Nat) (y:Int),o < i->of[o]?=some y->m r o=true->y≠at')/\of.length - (RowKit.intOf t40).toNat < of.length - (RowKit.intOf (i64 (i:Int))).toNat:=by
    intro h;refine aU.2 ?_;rw [aC (by omega) (by omega),aR];refine ⟨⟨i+1,rfl,by omega,rfl,λo y' ho1 ho2=>?_⟩,by simp only [aL];omega⟩;by_cases hoi:o=i
    ·subst hoi;rw [hy] at ho2;cases ho2;exact h
    ·exact hdone o y' (by omega) ho2
   cases hmi:m r i with
   | false=>
    simp only [lI,aW,Bool.false_eq_true,reduceIte,aP];exact go λh=>by rw [hmi] at h;cases h
   | true=>
    simp only [lU];refine aK.2 ?_;simp only [aW,reduceIte];refine aD (λheq=>?_) λhne=>?_
    ·exact no x1 λh=>h.2 i y hy hmi heq
    ·exact go λ_ h=>hne h
  ·have hil:i=of.length:=by omega
   refine ⟨⟨true,rfl,λ_=>⟨λh=>hslot (by rw [hss] at h;exact Option.some.inj h),λo y h1 h2=>hdone o y (by have:=(List.getElem?_eq_some_iff.1 h1).1;omega) h1 h2⟩,λ_=>rfl⟩,x1⟩
 clear key;cases s with
 | false=>
  simp only [lI,aW,Bool.false_eq_true,reduceIte,aP];refine XI.2 ?_;exact rest λh=>by cases h
 | true=>
  simp only [lU];refine aY.2 ?_;simp only [aW,reduceIte];refine aD (λhlt=>?_) λhge=>?_
  ·exact no x1 λh=>by have:=h.1 hss;omega
  ·refine XI.2 ?_;exact rest λ_=>by omega
def aJ.pureB:aJ->Bool
 | .const _ _|.move _ _|.bin _ _ _ _|.un _ _ _|.choose _ _ _ _|.tick|.goto _|.branch _ _=>true
 | _=>false
def aJ.leavesB:aJ->Bool
 | .getField _ _|.putField _ _=>true
 | g=>g.pureB
theorem aOi {g:aJ} {v:Value} (h:iX w v g):aB prog 137 #[v] w λr w'=>r=.bool g.pureB/\w'=w:=by
 obtain ⟨sv,rfl,hs⟩:=h;apply aWl;unfold PY;cases g<;>(dsimp only [aJ.val];(repeat (first|(with_reducible refine thK (by first|exact bM|exact fK|exact fY|exact hU|exact gE|exact gO|exact jJ|exact jI|exact lA|exact lE|exact lX|exact nI|exact tG|exact oL) ?_)|(with_reducible refine tmK (by first|exact bM|exact fK|exact fY|exact hU|exact gE|exact gO|exact jJ|exact jI|exact lA|exact lE|exact lX|exact nI|exact tG|exact oL) (by decide) λ_=>?_)));simp only [aW,bK,aP,Bool.false_eq_true,reduceIte];first|exact ⟨rfl,rfl⟩|exact ⟨trivial,rfl⟩|exact ⟨trivial,trivial⟩|exact ⟨rfl,trivial⟩)
theorem aBr {g:aJ} {v:Value} (h:iX w v g):aB prog 86 #[v] w λr w'=>r=.bool g.leavesB/\w'=w:=by
 have h0:=h;obtain ⟨sv,rfl,hs⟩:=h;apply bDy;unfold YA;have hp:=aOi h0;cases g<;>(dsimp only [aJ.val] at hp ⊢;(repeat (first|(with_reducible refine thK (by first|exact bM|exact fK|exact fY|exact hU|exact gE|exact gO|exact jJ|exact jI) ?_)|(with_reducible refine tmK (by first|exact bM|exact fK|exact fY|exact hU|exact gE|exact gO|exact jJ|exact jI) (by decide) λ_=>?_)));simp only [aW,bK,aP,Bool.false_eq_true,reduceIte];first|exact ⟨rfl,rfl⟩|exact ⟨trivial,rfl⟩|exact ⟨trivial,trivial⟩|exact ⟨rfl,trivial⟩|exact hp)
structure Ru (w0 w:World) (ub g0 sg:Nat) (ov:Value) (gs:List Nat) (R:Nat) (m:Mx) (sb:List Bool):Prop where
 x:aF w0 w
 u:bO w ub [.slice (some ⟨g0,0,none⟩) R R,.slice (some ⟨sg,0,none⟩) R R,ov] 141
 out:bO w g0 (gs.map (sl R)) 95
 slot:bO w sg (sb.map Value.bool) 4
 rows:∀ (k g:Nat),gs[k]?=some g->bO w g ((mN m k R).map Value.bool) 4
 lo:w0.heap.size<=ub/\w0.heap.size<=g0/\w0.heap.size<=sg/\∀ g∈gs,w0.heap.size<=g
 ne:ub≠g0/\ub≠sg/\g0≠sg/\∀ g∈gs,g≠ub/\g≠g0/\g≠sg
 nd:gs.Nodup
theorem Ru.setRow (h:Ru w0 w ub g0 sg ov gs R m sb) {g:Nat} (hk:gs[k]?=some g) (r:Nat) (v:Bool) :
  Ru w0 (w.setCell ⟨g,r,none⟩ (.bool v)) ub g0 sg ov gs R (sL m k r v) sb:=by
 have hgm:=List.mem_of_getElem? hk;obtain ⟨n1,n2,n3⟩:=h.ne.2.2.2 g hgm;refine ⟨h.x.setCell (h.lo.2.2.2 g hgm) _,h.u.other (Ne.symm n1),h.out.other (Ne.symm n2),h.slot.other (Ne.symm n3),λk' g' hk'=>?_,h.lo,h.ne,h.nd⟩;by_cases he:k'=k
 ·subst he;rw [hk] at hk';cases hk';rw [KF,<- nN];exact (h.rows _ _ hk).set r _
 ·rw [CE he];exact (h.rows k' g' hk').other λhgg=>he (aFm h.nd hk' (hgg▸hk))
theorem Ru.setSlot (h:Ru w0 w ub g0 sg ov gs R m sb) (r:Nat) (v:Bool) :
  Ru w0 (w.setCell ⟨sg,r,none⟩ (.bool v)) ub g0 sg ov gs R m (sb.set r v):=by
 refine ⟨h.x.setCell h.lo.2.2.1 _,h.u.other h.ne.2.1,h.out.other h.ne.2.2.1,?_,λk' g' hk'=>(h.rows k' g' hk').other ((h.ne.2.2.2 g' (List.mem_of_getElem? hk')).2.2),h.lo,h.ne,h.nd⟩;rw [<- nN];exact h.slot.set r _
theorem bDd {lv:Value} {l:List Bool} (hR:R<=40) (hgl:gs.length=R) (hl:l.length=R) (hu:Ru w0 w ub g0 sg ov gs R m sb)
  (ha:w.ownsRow B 4 1 lv R (l.map Value.bool)) (hgB:∀ k,lv.ownBlock=some k->¬ k∈gs) :
  aB prog 83 #[.pointer (some ⟨ub,0,none⟩),lv] w λ_ w'=>(∃ m',Ru w0 w' ub g0 sg ov gs R m' sb/\∀ a b,a < R->b < R->(m' a b=true↔m a b=true\/(a≠b/\l[a]?=some true/\l[b]?=some true)))/\Fr (λi=>i∈gs) w w':=by
 apply bEb;unfold YD;refine gD gT (aA.of_own ha) ?_
 refine ⟨λv w'=>∃ (i:Nat) (m1:Mx),v=i64 i/\i<=R/\Ru w0 w' ub g0 sg ov gs R m1 sb/\Fr (λi=>i∈gs) w w'/\∀ a b,a < R->b < R->(m1 a b=true↔m a b=true\/(a < i/\a≠b/\l[a]?=some true/\l[b]?=some true)),λv _=>R - (RowKit.intOf v).toNat,
  ⟨0,m,rfl,Nat.zero_le _,hu,Fr.refl _ _,λa b _ _=>by simp⟩,?_⟩
 rintro _ w1 ⟨i,m1,rfl,hi,hu1,hk1,hm1⟩ _;refine aY.2 (aD (λhlt=>?_) λhge=>?_)
 ·have hi':i < R:=by omega
  have ha1:=hk1.own ha hgB;obtain ⟨p,hp⟩:=bC (l:=l) (j:=i) (by omega);obtain ⟨g,hg⟩:=bC (l:=gs) (j:=i) (by omega);refine IJ gT oD ha1 (by omega) (by omega) (LX hp) ?_;refine gD gT (aA.of_own ha1) ?_
  refine ⟨λv w'=>∃ (j:Nat) (m2:Mx),v=i64 j/\j<=R/\Ru w0 w' ub g0 sg ov gs R m2 sb/\Fr (λi=>i∈gs) w w'/\∀ a b,a < R->b < R->(m2 a b=true↔m1 a b=true\/(a=i/\b < j/\a≠b/\l[a]?=some true/\l[b]?=some true)),λv _=>R - (RowKit.intOf v).toNat,
   ⟨0,m1,rfl,Nat.zero_le _,hu1,hk1,λa b _ _=>by simp⟩,?_⟩
  rintro _ w2 ⟨j,m2,rfl,hj,hu2,hk2,hm2⟩ _;refine aY.2 (aD (λhjl=>?_) λhjg=>?_)
  ·have hj':j < R:=by omega
   have ha2:=hk2.own ha hgB;obtain ⟨q,hq⟩:=bC (l:=l) (j:=j) (by omega);refine IJ gT oD ha2 (by omega) (by omega) (LX hq) ?_
   have stay:¬ (i≠j/\l[i]?=some true/\l[j]?=some true)->V prog (binOp .add 3 (i64 j) (Value.int IntKind.i64 1)) w2 λt40 w24=>(∃ (j:Nat) (m2:Mx),t40=i64 j/\j<=R/\Ru w0 w24 ub g0 sg ov gs R m2 sb/\Fr (λi=>i∈gs) w w24/\∀ a b,a < R->b < R->(m2 a b=true↔m1 a b=true\/(a=i/\b < j/\a≠b/\l[a]?=some true/\l[b]?=some true)))/\R - (RowKit.intOf t40).toNat < R - (RowKit.intOf (i64 (j:Int))).toNat:=by
    intro hn;refine aU.2 ?_;rw [aC (by omega) (by omega),aR];refine ⟨⟨j+1,m2,rfl,by omega,hu2,hk2,λa b h1 h2=>?_⟩,by simp only [aL];omega⟩;rw [hm2 a b h1 h2];constructor
    ·rintro (h|⟨h3,h4,h5⟩)
     ·exact .inl h
     ·exact .inr ⟨h3,by omega,h5⟩
    ·rintro (h|⟨h3,h4,h5⟩)
     ·exact .inl h
     ·by_cases hbj:b=j
      ·subst h3 hbj;exact absurd h5 hn
      ·exact .inr ⟨h3,by omega,h5⟩
   cases p with
   | false=>
    simp only [lI,aW,Bool.false_eq_true,reduceIte,aP];exact stay λh=>by rw [hp] at h;cases h.2.1
   | true=>
    simp only [lU,aW,reduceIte];cases q with
    | false=>
     simp only [lI,Bool.false_eq_true,reduceIte,aP];exact stay λh=>by rw [hq] at h;cases h.2.2
    | true=>
     simp only [lU,reduceIte];refine dB.2 ?_
     try simp only [aW,reduceIte]
     refine aD (λhne=>?_) λheq=>?_
     ·refine ⟨.inl ⟨_,rfl⟩,?_⟩;refine bF hu2.u.boxed dS gQ rfl ?_;refine lV rL oC (hu2.out.slice (n:=R) (by simpa using hgl) (by unfold maxLen;omega)) (by omega) (by omega) (by simp [hg]:(gs.map (sl R))[((i:Nat):Int).toNat]?=some (sl R g)) ?_;refine UN gT kP (hu2.rows i g hg) (by simp [gI]) (by omega) (by omega) rfl ?_;refine aU.2 ?_;rw [aC (by omega) (by omega),aR];have hij:i≠j:=λh=>hne (by rw [h]);refine ⟨⟨j+1,sL m2 i j true,rfl,by omega,hu2.setRow hg j true,hk2.set (List.mem_of_getElem? hg),λa b h1 h2=>?_⟩,by simp only [aL];omega⟩;have hm:=hm2 a b h1 h2;by_cases hab:a=i/\b=j
      ·obtain ⟨rfl,rfl⟩:=hab;simp [sL,hp,hq,hij]
      ·have:sL m2 i j true a b=m2 a b:=by unfold sL;rw [if_neg hab]
       rw [this,hm];constructor
       ·rintro (h|⟨h3,h4,h5⟩)
        ·exact .inl h
        ·exact .inr ⟨h3,by omega,h5⟩
       ·rintro (h|⟨h3,h4,h5⟩)
        ·exact .inl h
        ·exact .inr ⟨h3,by have:b≠j:=λh=>hab ⟨h3,h⟩;omega,h5⟩
     ·exact stay fun h => h.1 (by have : (i : Int) = j := by simpa using heq
                                  omega)
  ·have hjR:j=R:=by omega
   subst hjR;refine aU.2 ?_;rw [aC (by omega) (by omega),aR];refine ⟨⟨i+1,m2,rfl,by omega,hu2,hk2,λa b h1 h2=>?_⟩,by simp only [aL];omega⟩;rw [hm2 a b h1 h2,hm1 a b h1 h2];constructor
   ·rintro ((h|⟨h3,h4⟩)|⟨h3,_,h5⟩)
    ·exact .inl h
    ·exact .inr ⟨by omega,h4⟩
    ·exact .inr ⟨by omega,h5⟩
   ·rintro (h|⟨h3,h4⟩)
    ·exact .inl (.inl h)
    ·by_cases hai:a=i
     ·exact .inr ⟨hai,h2,h4⟩
     ·exact .inl (.inr ⟨by omega,h4⟩)
 ·have hiR:i=R:=by omega
  subst hiR;refine ⟨⟨m1,hu1,λa b h1 h2=>?_⟩,hk1⟩;rw [hm1 a b h1 h2];simp [h1]
def qD (x slots:Int):Prop:=x=5\/x=6\/(16<=x/\x < 16+slots)
def JK (p:eY) (k r:Nat):Prop:=nQ p k r\/(r:Int)=(p.at' k).df
def JJ (p:eY) (r:Nat):Prop:=uJ p (nQ p) 0 r\/(r:Int) < p.params
def EU (S:Nat->Prop) (R:Nat) (of:List Int):Prop:=∀ (r s:Nat),s < r->r < R->S r->S s->of[r]?≠of[s]?
structure oP (p:eY) (R:Nat) (of:List Int) (slots:Int):Prop where
 len:of.length=R
 s0:0<=slots
 s1:slots<=40
 val:∀ (r:Nat) (x:Int),of[r]?=some x->qD x slots
 sets:∀ k,k < p.nodes.length->EU (JK p k) R of
 slot:∀ k,k < p.nodes.length->(p.at' k).leavesB=false->∀ (r:Nat) (x:Int),nQ p k r->(r:Int)≠(p.at' k).df->of[r]?=some x->16<=x
 start:EU (JJ p) R of
theorem aAk {p:eY} (hm:∀ r,r < R->(m k r=true↔nQ p k r)) (_:(p.at' k).df < R):∀ r,r < R->((wO (mN m k R) (p.at' k).df)[r]?=some true↔JK p k r):=by
 intro r hr;unfold wO JK;split
 ·rename_i h0
  by_cases he:(p.at' k).df.toNat=r
  ·rw [he,List.getElem?_set_self (by rw [gI];exact hr)];simp;right;omega
  ·rw [List.getElem?_set_ne he,lS hr];simp only [Option.some.injEq];rw [hm r hr];constructor
   ·exact .inl
   ·rintro (h|h)
    ·exact h
    ·omega
 ·rename_i h0
  rw [lS hr];simp only [Option.some.injEq];rw [hm r hr];constructor
  ·exact .inl
  ·rintro (h|h)
   ·exact h
   ·omega
def rB (o:List Int) (r:Int):List Int:=if 0<=r/\r ∉ o then o++[r] else o
def eX (o l:List Int):List Int:=l.foldl rB o
theorem uF (o l:List Int) (r:Int):eX o (l++[r])=rB (eX o l) r:=by simp [eX]
theorem aIe (o:List Int) (r:Int):(rB o r).length<=o.length+1:=by unfold rB;split<;>simp
theorem tC (o l:List Int):(eX o l).length<=o.length+l.length:=by
 induction l generalizing o with
 | nil=>simp [eX]
 | cons a l ih=>
  have:=ih (rB o a);have h1:=aIe o a;simp only [eX,List.foldl_cons,List.length_cons] at this ⊢;omega
def wT (R:Nat) (o:List Int):List Bool:=(List.range R).map λr=>decide (((r:Nat):Int)∈o)
theorem qL (R:Nat) (o:List Int):(wT R o).length=R:=by simp [wT]
theorem yS (h:r < R):(wT R o)[r]?=some (decide ((r:Int)∈o)):=by simp [wT,h]
theorem aAu (h:r < R) (hn:(r:Int) ∉ o):(wT R o).set r true=wT R (rB o r):=by
 apply List.ext_getElem?;intro j;by_cases hj:j < R
 ·rw [yS hj];by_cases hr:r=j
  ·subst hr;rw [List.getElem?_set_self (by rw [qL];exact h)];simp [rB,hn]
  ·rw [List.getElem?_set_ne hr,yS hj]
   have:((j:Int)∈rB o r)↔(j:Int)∈o:=by
    unfold rB;rw [if_pos ⟨by omega,hn⟩];simp;omega
   simp only [this]
 ·rw [List.getElem?_eq_none (by simp [qL];omega),List.getElem?_eq_none (by rw [qL];omega)]
theorem aAt (R:Nat):(wT R []).map Value.bool=List.replicate R (.bool false):=by
 apply List.ext_getElem?;intro j;by_cases hj:j < R
 ·simp [wT,hj]
 ·rw [List.getElem?_eq_none (by simp [qL];omega),List.getElem?_eq_none (by simp;omega)]
structure RC where
 ub:Nat
 g0:Nat
 sg:Nat
 sx:Nat
 sn:Nat
 R:Nat
 L:Nat
 B:Nat
 gs:List Nat
def Mu (c:RC) (ov:Value) (i:Nat):Prop:=i=c.ub\/i=c.g0\/i=c.sg\/i=c.sx\/i=c.sn\/i∈c.gs\/ov.ownBlock=some i
structure Rx (w0 w:World) (c:RC) (ov:Value) (m:Mx) (sb:List Bool) (ord:List Int):Prop where
 ru:Ru w0 w c.ub c.g0 c.sg ov c.gs c.R m sb
 box:bO w c.sx [sl c.R c.sn] 95
 seen:bO w c.sn ((wT c.R ord).map Value.bool) 4
 ov:w.ownsRow c.B 3 1 ov ord.length (ord.map i64)
 lim:c.ub < c.L/\c.g0 < c.L/\c.sg < c.L/\∀ g∈c.gs,g < c.L
 ord':w0.heap.size<=c.L/\c.L<=c.sn/\c.sn < c.sx/\c.sx < c.B/\c.B<=w.heap.size
structure Mv (c:RC) (ov:Value) (w:World) (ov':Value) (w':World):Prop where
 fr:Fr (Mu c ov) w w'
 own:∀ k,ov'.ownBlock=some k->ov.ownBlock=some k\/w.heap.size<=k
theorem Mv.refl (c:RC) (ov:Value) (w:World):Mv c ov w ov w:=⟨Fr.refl _ _,λ_ h=>.inl h⟩
theorem Mv.trans {c:RC} {a b d:Value} {w1 w2 w3:World} (h:Mv c a w1 b w2) (k:Mv c b w2 d w3):Mv c a w1 d w3:=by
 refine ⟨h.fr.trans k.fr λi hi hm=>?_,λi hi=>?_⟩
 ·unfold Mu at hm ⊢;rcases hm with h1|h1|h1|h1|h1|h1|h1
  all_goals try (simp only [h1,true_or,or_true];done)
  rcases h.own i h1 with h2|h2
  ·simp only [h2,or_true]
  ·omega
 ·rcases k.own i hi with h1|h1
  ·exact h.own i h1
  ·exact .inr (Nat.le_trans h.fr.size h1)
theorem Mv.of_ext {c:RC} {ov:Value} {w w':World} (h:aF w w'):Mv c ov w ov w':=⟨Fr.of_ext h,λ_ h=>.inl h⟩
theorem Mv.far {c:RC} {a b:Value} (h:Mv c a w b w') {i:Nat} (hi:i < w.heap.size) (hn:¬ Mu c a i):¬ Mu c b i:=by
 intro hm;refine hn ?_;unfold Mu at hm ⊢;rcases hm with h1|h1|h1|h1|h1|h1|h1
 all_goals try (simp only [h1,true_or,or_true];done)
 rcases h.own i h1 with h2|h2
 ·simp only [h2,or_true]
 ·omega
theorem Rx.lo {w0 w:World} {c:RC} {ov:Value} {m:Mx} {sb:List Bool} {ord:List Int} (h:Rx w0 w c ov m sb ord):∀ i,Mu c ov i->w0.heap.size<=i:=by
 have h1:=h.ord';have h2:=h.ru.lo;intro i hm;unfold Mu at hm;rcases hm with rfl|rfl|rfl|rfl|rfl|hm|hm
 ·exact h2.1
 ·exact h2.2.1
 ·exact h2.2.2.1
 iterate 2
  ·omega
 ·exact h2.2.2.2 i hm
 ·have:=(h.ov.lt i hm).1;omega
theorem Rx.hi {c:RC} (h:Rx w0 w c ov m sb ord):∀ i,Mu c ov i->i < w.heap.size:=by
 have h1:=h.ord';have h2:=h.lim;intro i hm;unfold Mu at hm;rcases hm with rfl|rfl|rfl|rfl|rfl|hm|hm
 iterate 5
  ·omega
 ·have:=h2.2.2.2 i hm;omega
 ·exact (h.ov.lt i hm).2
theorem Rx.fr {c:RC} (h:Rx w0 w c ov m sb ord) {S:Nat->Prop} (hf:Fr S w w') (hS:∀ i,Mu c ov i->¬ S i) (hx:aF w0 w'):Rx w0 w' c ov m sb ord:=by
 have m1:∀ {i},Mu c ov i->¬ S i:=λh=>hS _ h
 refine ⟨⟨hx,hf.blk h.ru.u (m1 (.inl rfl)),hf.blk h.ru.out (m1 (.inr (.inl rfl))),hf.blk h.ru.slot (m1 (.inr (.inr (.inl rfl)))),λk g hk=>hf.blk (h.ru.rows k g hk) (m1 (.inr (.inr (.inr (.inr (.inr (.inl (List.mem_of_getElem? hk)))))))),h.ru.lo,h.ru.ne,h.ru.nd⟩,
  hf.blk h.box (m1 (.inr (.inr (.inr (.inl rfl))))),hf.blk h.seen (m1 (.inr (.inr (.inr (.inr (.inl rfl)))))),hf.own h.ov λk hk=>m1 (.inr (.inr (.inr (.inr (.inr (.inr hk)))))),h.lim,?_⟩
 have:=h.ord';have:=hf.size;omega
theorem Rx.ext {c:RC} (h:Rx w0 w c ov m sb ord) (hx:aF w w'):Rx w0 w' c ov m sb ord:=
 h.fr (S:=λ_=>False) (Fr.of_ext hx) (λ_ _ h=>h) (h.ru.x.trans hx)
theorem TT {c:RC} {r:Int} (h:Rx w0 w c ov m sb ord) (hr:r < c.R) (hR:c.R<=40) (hl:ord.length<=1000) :
  qY prog (.func (.func 82) #[] #[.pointer (some ⟨c.sx,0,none⟩),.pointer (some ⟨c.ub,0,none⟩)]) #[i64 r] w λ_ w'=>∃ ov',Rx w0 w' c ov' m sb (rB ord r)/\Mv c ov w ov' w':=by
 refine ⟨_,_,rfl,?_⟩;refine bEc (t0:=i64 r) (t1:=.pointer (some ⟨c.sx,0,none⟩)) (t2:=.pointer (some ⟨c.ub,0,none⟩)) ?_;unfold YE;have stay:rB ord r=ord->∃ ov',Rx w0 w c ov' m sb (rB ord r)/\Mv c ov w ov' w:=λhe=>⟨ov,by rw [he];exact h,Mv.refl _ _ _⟩;have hs0:=h.seen.slice (n:=c.R) (by simp [qL]) (by unfold maxLen;omega);refine kN.2 ?_;by_cases h0:r>=0
 ·simp only [h0,lU,aW,reduceIte,decide_true];obtain ⟨k,rfl⟩:∃ k:Nat,r=k:=⟨r.toNat,by omega⟩;have hk:k < c.R:=by omega
  refine ldV oC h.box ?_;refine lV gT oD hs0 (by omega) (by omega) (LX (yS hk)) ?_;by_cases hin:(k:Int)∈ord
  ·simp only [hin,dK,aP,Bool.not_true,decide_true];exact stay (by simp [rB,hin])
  ·simp only [hin,dK,bK,Bool.not_false,decide_false];refine ldV oC h.box ?_;refine UN gT kP h.seen (by simp [qL]) (by omega) (by omega) rfl ?_;have hne:=h.ru.ne;have hlim:=h.lim;have hord:=h.ord';have hlo:=h.ru.lo;have hsn:c.sn < w.heap.size:=h.seen.lt;have f1:Fr (λi=>i=c.sn) w (w.setCell ⟨c.sn,(k:Int).toNat,none⟩ (.bool true)):=Fr.of_set rfl;have hov1:=f1.own h.ov λi hi=>by have:=(h.ov.lt i hi).1;omega
   refine bF (f1.blk h.ru.u (by omega)).boxed dQ bD rfl ?_;refine jS bB [i64 (k:Int)] rfl rfl (by simp) rfl λv2 w2 ho2 x2=>?_;have hov2:=x2.own hov1;have hsz2:w.heap.size<=w2.heap.size:=by have:=x2.size;have:=f1.size;omega
   refine apL bB hov2 ho2 (by simp) (by simp [cO]) (by omega) (by unfold maxLen;omega) (by omega) λg cap w3 ho3 hg3 hlies=>?_;have f2:Fr (λi=>i=c.sn) w w2:=f1.trans (Fr.of_ext (S:=λi=>i=c.sn) x2) λ_ _ h=>h;have f3:Fr (λi=>i=c.sn\/ov.ownBlock=some i) w w3:=f2.or (Fr.of_grown (S:=λi=>ov.ownBlock=some i) hg3 λk hk=>hk);have far:∀ i,i < c.B->ov.ownBlock≠some i:=λi hi he=>by have:=(h.ov.lt i he).1;omega
   have hu3:=f3.blk h.ru.u (λh=>h.elim (by omega) (far c.ub (by omega)));refine FK dQ mI hu3 rfl (by simp) rfl ?_;have f4:Fr (λi=>(i=c.sn\/ov.ownBlock=some i)\/i=c.ub) w (w3.setCell ⟨c.ub,2,none⟩ (.slice (some ⟨g,0,none⟩) (ord.length+1) cap)):=f3.or (Fr.of_set rfl);have f34:Fr (λi=>i=c.ub) w3 (w3.setCell ⟨c.ub,2,none⟩ (.slice (some ⟨g,0,none⟩) (ord.length+1) cap)):=Fr.of_set rfl
   have f14:Fr (λi=>ov.ownBlock=some i\/i=c.ub) (w.setCell ⟨c.sn,(k:Int).toNat,none⟩ (.bool true)) (w3.setCell ⟨c.ub,2,none⟩ (.slice (some ⟨g,0,none⟩) (ord.length+1) cap)):=
    ((Fr.of_ext (S:=λ_=>False) x2).or (Fr.of_grown (S:=λi=>ov.ownBlock=some i) hg3 λk hk=>hk)).or f34 |>.mono λi hi=>by
     rcases hi with (hi|hi)|hi
     ·exact hi.elim
     ·exact .inl hi
     ·exact .inr hi
   have keep:∀ {i},i < c.B->i≠c.sn->i≠c.ub->¬ ((i=c.sn\/ov.ownBlock=some i)\/i=c.ub):=λ{i} h1 h2 h3 h4=>by
    rcases h4 with (h4|h4)|h4
    ·exact h2 h4
    ·exact far i h1 h4
    ·exact h3 h4
   have hord':rB ord (k:Int)=ord++[(k:Int)]:=by simp [rB,hin]
   have hMu:Fr (Mu c ov) w (w3.setCell ⟨c.ub,2,none⟩ (.slice (some ⟨g,0,none⟩) (ord.length+1) cap)):=f4.mono λi hi=>by
    unfold Mu;rcases hi with (hi|hi)|hi<;>simp only [hi,true_or,or_true]
   refine ⟨.slice (some ⟨g,0,none⟩) (ord.length+1) cap,⟨⟨hMu.ext h.ru.x h.lo,?_,f4.blk h.ru.out (keep (by omega) (by omega) (by omega)),f4.blk h.ru.slot (keep (by omega) (by omega) (by omega)),λq g' hq=>f4.blk (h.ru.rows q g' hq) (by have:=hlim.2.2.2 g' (List.mem_of_getElem? hq);have:=hne.2.2.2 g' (List.mem_of_getElem? hq);exact keep (by omega) (by omega) (by omega)),h.ru.lo,h.ru.ne,h.ru.nd⟩,
    f4.blk h.box (keep (by omega) (by omega) (by omega)),?_,?_,hlim,by have:=f4.size;omega⟩,hMu,λi hi=>?_⟩
   ·exact hu3.set 2 _
   ·rw [<- aAu hk hin,<- nN];have:=f14.blk (h.seen.set k (.bool true)) (λh=>h.elim (far c.sn (by omega)) (by omega));simpa using this
   ·rw [hord'];have:=f34.own ho3 λi hi hu=>by have:=(ho3.lt i hi).1;omega
    simpa using this
   ·have:g=i:=by simpa [Value.ownBlock] using hi
    subst this;rcases hlies with h1|h1
    ·exact .inl h1
    ·exact .inr (by omega)
 ·simp only [h0,lI,aW,aP,reduceIte,Bool.false_eq_true,decide_false];exact stay (by simp [rB];omega)
end Go.Proofs.YtjcmcfidblhnnaaGreatDoor
