/- An applet, made. -/
import Derived.Test.YtjcmcfidblhnnaaGreatDoorTf
set_option maxHeartbeats 4000000
namespace Go.Proofs.YtjcmcfidblhnnaaGreatDoor
open Tryz
open Go.Vc Go.Tc
variable {w:O} {K:Y->O->Prop}
variable {lv3 mv p1 p2:Y} {w':O} {g4 gi j:Nat}
def uL (code:Nat->List lT):List jR:=[⟨[],0,[1,2,3,4],code 0⟩,⟨[1,2],2,[1,2,3,4],code 1⟩,⟨[4,3],3,[1,2],code 2⟩]
def KN (n1 n2:ByteArray):List IM:=[⟨n1,0,[1,2],2⟩,⟨n2,1,[4,3],3⟩]
def apC (lv p1 p2 lv3:Y) (c:Nat->Y):List Y:=[bC,i64 0,lv,c 0,p1,i64 2,lv,c 1,p2,i64 3,lv3,c 2]
theorem aKd {lv:Y} {c:Nat->Y} {code:Nat->List lT} (h:aA w mv 4 3 (apC lv p1 p2 lv3 c)) (hl:aO w lv [1,2,3,4]) (h1:aO w p1 [1,2]) (h2:aO w p2 [4,3]) (h3:aO w lv3 [1,2]) (hc:∀ k,k < 3->oC w (c k) (code k)):sN w mv (uL code):=by
 refine ⟨_,h,λk x hk=>?_⟩
 match k,hk with
 | 0,hk=>cases hk;exact ⟨_,rfl,bC,lv,c 0,rfl,aA.nil _ _,hl,hc 0 (by decide)⟩
 | 1,hk=>cases hk;exact ⟨_,rfl,p1,lv,c 1,rfl,h1,hl,hc 1 (by decide)⟩
 | 2,hk=>cases hk;exact ⟨_,rfl,p2,lv3,c 2,rfl,h2,h3,hc 2 (by decide)⟩
 | k+3,hk=>simp [uL] at hk
theorem bGe {iv q1 q2:Y} {n1 n2:ByteArray} (h:aA w iv 4 2 [.string n1,i64 0,q1,i64 2,.string n2,i64 1,q2,i64 3]) (h1:aO w q1 [1,2]) (h2:aO w q2 [4,3]):sO w iv (KN n1 n2):=by
 refine ⟨_,h,λk x hk=>?_⟩
 match k,hk with
 | 0,hk=>cases hk;exact ⟨_,rfl,q1,rfl,h1⟩
 | 1,hk=>cases hk;exact ⟨_,rfl,q2,rfl,h2⟩
 | k+2,hk=>simp [KN] at hk
theorem pR {g:Nat} (h:LF w g w'):Fr (λk=>k=g) w w':=Fr.of_grown h.grown λk hk=>by cases hk;rfl
structure OL (g4 gi:Nat) (w:O) (v:Y) (l:List Int):Prop where
 own:w.ownsRow (g4+1) 3 1 v l.length (l.map i64)
 ne:∀ k,v.ownBlock=some k->k≠gi
theorem OL.ext {v:Y} {l:List Int} (h:OL g4 gi w v l) (hx:aG w w'):OL g4 gi w' v l:=⟨hx.own h.own,h.ne⟩
theorem OL.fr {N:Nat} {v:Y} {l:List Int} (h:OL g4 gi w v l) (f:Fr (λk=>k=gi\/k<=g4\/N<=k) w w') (hN:w.heap.size<=N):OL g4 gi w' v l:=
 ⟨f.own h.own λk hk hS=>by have:=h.own.lt k hk;have:=h.ne k hk;omega,h.ne⟩
theorem OL.ints {v:Y} {l:List Int} (h:OL g4 gi w v l):aO w v l:=aA.of_own h.own
theorem rR (n:Int):bX (i64 n)=true:=rfl
theorem MM (s:ByteArray):bX (.string s)=true:=rfl
theorem bBn (a:Option Addr) (n c:Nat):bX (.slice a n c)=true:=rfl
theorem aEu {code:Nat->List lT} {m:jR} (h:(uL code)[j]?=some m):m.params.length<=4/\m.locals.length<=4:=by
 match j,h with
 | 0,hm=>cases hm;exact ⟨by simp,by simp⟩
 | 1,hm=>cases hm;exact ⟨by simp,by simp⟩
 | 2,hm=>cases hm;exact ⟨by simp,by simp⟩
 | k+3,hm=>simp [uL] at hm
theorem aSr {lv v:Y} {c:Nat->Y} (h:j < 3):(apC lv p1 p2 lv3 c).set (j*4+3) v=apC lv p1 p2 lv3 (λk=>if k=j then v else c k):=by
 match j,h with
 | 0,_=>rfl
 | 1,_=>rfl
 | 2,_=>rfl
theorem aSq {lv:Y} {c:Nat->Y} {code:Nat->List lT} (h:aA w mv 4 3 (apC lv p1 p2 lv3 c)) (hl:aO w lv [1,2,3,4]) (h1:aO w p1 [1,2]) (h2:aO w p2 [4,3]) (h3:aO w lv3 [1,2]) (hc:∀ k,k < 3->oC w (c k) (code k)) :
  aA w mv 4 3 (apC lv p1 p2 lv3 c)/\∀ (k:Nat) (x:jR),(uL code)[k]?=some x->mF w (((apC lv p1 p2 lv3 c).drop (k*4)).take 4) x:=by
 refine ⟨h,λk x hk=>?_⟩
 match k,hk with
 | 0,hk=>cases hk;exact ⟨bC,lv,c 0,rfl,aA.nil _ _,hl,hc 0 (by decide)⟩
 | 1,hk=>cases hk;exact ⟨p1,lv,c 1,rfl,h1,hl,hc 1 (by decide)⟩
 | 2,hk=>cases hk;exact ⟨p2,lv3,c 2,rfl,h2,h3,hc 2 (by decide)⟩
 | k+3,hk=>simp [uL] at hk
theorem aSp {n:Int} {rv:Y} {rl:List Rw} (hr:jQ w rv rl) (hb:qV w) (hT:sW w) (rn:rl.length<=5000000000000)
  (hk:∀ p i w',kF w' p i->lO w' i->i.rg->i.methods.length=3->(∀ m∈i.methods,m.code.length<=700000)->(∀ w'',Fr (λk=>k < w.heap.size) w' w''->sW w''->kF w'' p i/\lO w'' i)->(∃ cs:List Y,∀ w'',Fr (λk=>k < w.heap.size) w' w''->aA w'' p.mv 4 i.methods.length cs/\∀ (k:Nat) (x:jR),i.methods[k]?=some x->mF w'' ((cs.drop (k*4)).take 4) x)->aG w w'->K (p.val i) w'):aB prog 20 #[i64 n,rv] w K:=by
 apply bJn;unfold aBu;refine zU rU λw1 hB4 x1=>?_;have hlt4:=hB4.lt;have hg4:w.heap.size<=w.heap.size:=Nat.le_refl _;generalize hgg4:w.heap.size=g4 at hB4 hg4 hlt4;refine jG bB [i64 1,i64 2,i64 3,i64 4] rfl rfl (by simp) rfl λlv w2 hol x2=>?_;refine TU λnm hnm=>?_;refine jG bB [i64 1,i64 2,i64 3,i64 4] rfl rfl (by simp) rfl λfv w3 hof x3=>?_;refine jG bB [i64 1,i64 2] rfl rfl (by simp) rfl λxv w4 hox x4=>?_;have o1:=fV hof;have o2:=fV hox;refine lF bCd [(0,.string nm),(1,fv),(4,xv)] rfl (by simp [o1,o2,MM]) ?_;refine tH bBg rfl (show ([.string nm,fv,bC,bC,xv]:List Y).all bX=true by simp [o1,o2,MM,bBn]) λw5 hBi x5=>?_;have hBi:bO w5 w4.heap.size [.string nm,fv,bC,bC,xv] 27:=hBi;have s1:=x1.size;have s2:=x2.size;have s3:=x3.size;have s4:=x4.size;have s5:=x5.size;have R0:∀ {v:Y} {l:List Int} {wa wb:O},wb.ownsRow wa.heap.size 3 1 v l.length (l.map i64)->w1.heap.size<=wa.heap.size->wb.heap.size<=w4.heap.size->OL g4 w4.heap.size wb v l:=λho h1 h2=>⟨aU ho (by omega),λk hk=>by have:=(ho.lt k hk).2;omega⟩;have rl5:OL g4 w4.heap.size w5 lv [1,2,3,4]:=(R0 (l:=[1,2,3,4]) hol (by omega) (by omega)).ext ((x3.trans x4).trans x5);have rf5:OL g4 w4.heap.size w5 fv [1,2,3,4]:=(R0 (l:=[1,2,3,4]) hof (by omega) (by omega)).ext (x4.trans x5);have rx5:OL g4 w4.heap.size w5 xv [1,2]:=(R0 (l:=[1,2]) hox (by omega) (by omega)).ext x5
 clear R0 hol hof hox;have x15:=(((x2.trans x3).trans x4).trans x5);have hB4:=hB4.ext x15;have hgi4:g4≠w4.heap.size:=by omega
 have hiw:w4.heap.size < w5.heap.size:=hBi.lt;have hiw0:w.heap.size<=w4.heap.size:=by omega
 have x05:=x1.trans x15;have hr0:=hr;have hr:=hr.ext x05;generalize w4.heap.size=gi at *;have R1:∀ {v:Y} {l:List Int} {wa wb:O},wb.ownsRow wa.heap.size 3 1 v l.length (l.map i64)->w5.heap.size<=wa.heap.size->OL g4 gi wb v l:=λho h1=>⟨aU ho (by omega),λk hk=>by have:=(ho.lt k hk).1;omega⟩;refine bJ.2 (TU λn1 hn1=>?_);refine jG bB [i64 1,i64 2] rfl rfl (by simp) rfl λq1 w6 hq1 x6=>?_;have s6:=x6.size;have rq1:OL g4 gi w6 q1 [1,2]:=R1 (l:=[1,2]) hq1 (by omega);have oq1:=fV hq1;refine lF aKa [(0,.string n1),(1,i64 0),(2,q1),(3,i64 2)] rfl (by simp [oq1,rR,MM]) ?_;refine bJ.2 (lnR xU (hr.ext x6) ?_);refine iR (by decide) (by decide) λ_ _ _=>bJ.2 (TU λn2 hn2=>?_);refine jG bB [i64 4,i64 3] rfl rfl (by simp) rfl λq2 w7 hq2 x7=>?_;have s7:=x7.size;have rq2:OL g4 gi w7 q2 [4,3]:=R1 (l:=[4,3]) hq2 (by omega);have oq2:=fV hq2;refine lF aKa [(0,.string n2),(1,i64 1),(2,q2),(3,i64 3)] rfl (by simp [oq2,rR,MM]) ?_;refine xM underlying24 EJ rfl (by decide) [.agg #[.string n1,i64 0,q1,i64 2],.agg #[.string n2,i64 1,q2,i64 3]] rfl rfl (by intro v hv;simp only [List.mem_cons,List.not_mem_nil,or_false] at hv;rcases hv with rfl|rfl<;>rfl) (by decide) (by decide) λiv w8 hoi x8=>?_;have s8:=x8.size;have hoi:w8.ownsRow w7.heap.size 146 4 iv 2 [.string n1,i64 0,q1,i64 2,.string n2,i64 1,q2,i64 3]:=hoi
 have x58:=(x6.trans x7).trans x8;refine FZ fP bBt (hBi.ext x58) (n:=5) rfl (by decide) (fV hoi) ?_;have hB9:bO (w8.setCell ⟨gi,2,none⟩ iv) gi [.string nm,fv,iv,bC,xv] 27:=(hBi.ext x58).set 2 iv;have f9:Fr (λk=>k=gi\/k<=g4\/w8.heap.size<=k) w8 (w8.setCell ⟨gi,2,none⟩ iv):=Fr.of_set (.inl rfl);have rl9:=(rl5.ext x58).fr f9 (Nat.le_refl _);have rf9:=(rf5.ext x58).fr f9 (Nat.le_refl _);have rx9:=(rx5.ext x58).fr f9 (Nat.le_refl _);have rq19:=(rq1.ext (x7.trans x8)).fr f9 (Nat.le_refl _);have rq29:=(rq2.ext x8).fr f9 (Nat.le_refl _);have hoi9:=f9.own hoi λk hk hS=>by have:=hoi.lt k hk;omega
 have hB49:bO (w8.setCell ⟨gi,2,none⟩ iv) g4 _ _:=(hB4.ext x58).other hgi4;have f59:aG w (w8.setCell ⟨gi,2,none⟩ iv):=(x05.trans x58).setCell hiw0 iv;have xr9:∀ {w'},Fr (λk=>k=gi\/k=g4\/w8.heap.size<=k) (w8.setCell ⟨gi,2,none⟩ iv) w'->aG w w':=λf=>f.ext f59 λk hk=>by omega
 have sz9:(w8.setCell ⟨gi,2,none⟩ iv).heap.size=w8.heap.size:=by simp
 generalize w8.setCell ⟨gi,2,none⟩ iv=w9 at *;have hoi0:=hoi;clear rl5 rf5 rx5 rq1 rq2 hoi hB4 hBi hq1 hq2 f9;have ol:=fV rl9.own;refine lF YS [(2,lv)] rfl (by simp [ol]) ?_;refine jG bB [i64 1,i64 2] rfl rfl (by simp) rfl λp1 w10 hp1 x10=>?_;have s10:=x10.size;have rp1:OL g4 gi w10 p1 [1,2]:=R1 (l:=[1,2]) hp1 (by omega);have op1:=fV hp1;refine lF YS [(0,p1),(1,i64 2),(2,lv)] rfl (by simp [ol,op1,rR]) ?_;refine jG bB [i64 4,i64 3] rfl rfl (by simp) rfl λp2 w11 hp2 x11=>?_;have s11:=x11.size;have rp2:OL g4 gi w11 p2 [4,3]:=R1 (l:=[4,3]) hp2 (by omega);have op2:=fV hp2;obtain ⟨lv3,urun,usl⟩:=aCz underlying23 bT rl9.ints (lo:=none) (hi':=some (.int .i64 ((2:Nat):Int))) (a:=0) (b:=2) (.inl ⟨rfl,rfl⟩) (.inr rfl) (by decide) (by decide);refine V.ok (urun _) ?_;have ol3:bX lv3=true:=by obtain ⟨a,c,rfl⟩:=(usl _ rl9.ints).shape;rfl
 refine lF YS [(0,p2),(1,i64 3),(2,lv3)] rfl (by simp [ol3,op2,rR]) ?_;refine xM underlying25 yY rfl (by decide) [.agg #[bC,i64 0,lv,bC],.agg #[p1,i64 2,lv,bC],.agg #[p2,i64 3,lv3,bC]] rfl rfl (by intro v hv;simp only [List.mem_cons,List.not_mem_nil,or_false] at hv;rcases hv with rfl|rfl|rfl<;>rfl) (by decide) (by decide) λmv w12 hom x12=>?_;have s12:=x12.size;have hom:w12.ownsRow w11.heap.size 38 4 mv 3 (apC lv p1 p2 lv3 λ_=>bC):=hom
 obtain ⟨gm,cap,rfl⟩:∃ gm cap,mv=.slice (some ⟨gm,0,none⟩) 3 cap:=by
  rcases hom.2 with ⟨_,e⟩|⟨gm,cap,cur,rfl,_⟩
  ·cases e
  ·exact ⟨gm,cap,rfl⟩
 have hgm:=hom.lt gm rfl;have x9b:=x10.trans x11;have x9c:=x9b.trans x12;refine FZ bP bBs (hB9.ext x9c) (n:=5) rfl (by decide) rfl ?_;have hBC:bO (w12.setCell ⟨gi,3,none⟩ (.slice (some ⟨gm,0,none⟩) 3 cap)) gi [.string nm,fv,iv,.slice (some ⟨gm,0,none⟩) 3 cap,xv] 27:=(hB9.ext x9c).set 3 _;have fC:Fr (λk=>k=gi\/k=g4\/w11.heap.size<=k) w11 (w12.setCell ⟨gi,3,none⟩ (.slice (some ⟨gm,0,none⟩) 3 cap)):=(Fr.of_ext x12).set (.inl rfl);have homC:(w12.setCell ⟨gi,3,none⟩ (.slice (some ⟨gm,0,none⟩) 3 cap)).ownsRow w11.heap.size 38 4 (.slice (some ⟨gm,0,none⟩) 3 cap) 3 (apC lv p1 p2 lv3 λ_=>bC):=(Fr.of_set (S:=λk=>k=gi) rfl).own hom λk hk hS=>by have:=hom.lt k hk;omega
 have hB4C:bO (w12.setCell ⟨gi,3,none⟩ (.slice (some ⟨gm,0,none⟩) 3 cap)) g4 _ _:=(hB49.ext x9c).other hgi4;have szC:(w12.setCell ⟨gi,3,none⟩ (.slice (some ⟨gm,0,none⟩) 3 cap)).heap.size=w12.heap.size:=by simp
 generalize w12.setCell ⟨gi,3,none⟩ (.slice (some ⟨gm,0,none⟩) 3 cap)=wC at *;have hb11:aG w w11:=(aG.refl w).trans (f59.trans x9b);have hr0:∀ {w'},aG w w'->jQ w' rv rl:=λhx=>(hr0:jQ w rv rl).ext hx
 have hall:∀ {w'},Fr (λk=>k=gi\/k<=g4\/w11.heap.size<=k) w11 w'->aO w' fv [1,2,3,4]/\aO w' xv [1,2]/\aO w' lv [1,2,3,4]/\aO w' p1 [1,2]/\aO w' p2 [4,3]/\aO w' lv3 [1,2]/\sO w' iv (KN n1 n2):=by
  intro w' f;have hN:=Nat.le_refl w11.heap.size;have hl:=((rl9.ext x9b).fr f hN).ints;refine ⟨((rf9.ext x9b).fr f hN).ints,((rx9.ext x9b).fr f hN).ints,hl,((rp1.ext x11).fr f hN).ints,(rp2.fr f hN).ints,usl w' hl,bGe (aA.of_own (f.own (x9b.own hoi9) λk hk hS=>?_)) ((rq19.ext x9b).fr f hN).ints ((rq29.ext x9b).fr f hN).ints⟩;have:=(x9b.own hoi9).lt k hk;omega
 have hallX:∀ {w'},Fr (λk=>k=gi\/k=g4\/w11.heap.size<=k) w11 w'->aG w w':=λf=>f.ext hb11 λk hS=>by omega
 have hS:∀ {w'},Fr (λk=>k=gi\/k=g4\/w11.heap.size<=k) w11 w'->Fr (λk=>k=gi\/k<=g4\/w11.heap.size<=k) w11 w':=λf=>f.mono λk hk=>by omega
 clear rl9 rf9 rx9 rq19 rq29 hoi9 rp1 rp2 hB9 hB49 hom usl urun hp1 hp2;refine lnR xU (hr0 (hallX fC)) ?_;have hgmC:gm < wC.heap.size:=by omega
 refine ⟨λv w'=>∃ (j:Nat) (c:Nat->Y) (code:Nat->List lT),v=i64 j/\j<=3/\Fr (λk=>k=gi\/k=g4\/w11.heap.size<=k) w11 w'/\wC.heap.size<=w'.heap.size/\bO w' gi [.string nm,fv,iv,.slice (some ⟨gm,0,none⟩) 3 cap,xv] 27/\bO w' g4 [.string ByteArray.empty,bC,bC,bC,bC] 27/\w'.ownsRow w11.heap.size 38 4 (.slice (some ⟨gm,0,none⟩) 3 cap) 3 (apC lv p1 p2 lv3 c)/\∀ k,w'.ownsRow (gm+1) 88 3 (c k) (code k).length (oN (code k))/\(∀ x∈code k,x.rg)/\(code k).length<=700000,
  λv _=>3 - (RowKit.intOf v).toNat,⟨0,λ_=>bC,λ_=>[],rfl,Nat.zero_le _,fC,Nat.le_refl _,hBC,hB4C,homC,λk=>⟨World.ownsRow_nil _ _ _ _,λ_ h=>by simp at h,Nat.zero_le _⟩⟩,?_⟩
 clear hBC hB4C homC fC;rintro _ wD ⟨j,c,code,rfl,hj,f,hsz,hBi,hB4,hom,hcs⟩ _;obtain ⟨rf,rx,rl',rp1,rp2,rl3,rim⟩:=hall (hS f);have xw:=hallX f;have hms:sN wD (.slice (some ⟨gm,0,none⟩) 3 cap) (uL code):=aKd (aA.of_own hom) rl' rp1 rp2 rl3 λk _=>aA.of_own (hcs k).1;refine aZ.2 (aC (λhlt=>?_) λhge=>?_)
 ·have hrD:=hr0 xw;have e1:∀ m:Nat,m<=3->V prog (binOp .mul 3 (i64 m) (i64 rl.length)) wD=V prog (binOp .mul 3 (i64 m) (i64 rl.length)) wD:=λ_ _=>rfl
  have e2:∀ m:Nat,m<=3->IntKind.i64.wrap ((m:Int)*(rl.length:Int))=((m*rl.length:Nat):Int):=λm hm=>by
   have:m*rl.length<=3*rl.length:=Nat.mul_le_mul_right _ hm;rw [<- Int.natCast_mul];exact aQ (by omega)
  have e3:∀ (m d:Nat),m<=15000000000000->IntKind.i64.wrap (((m:Nat):Int).tdiv ((d:Nat):Int))=((m / d:Nat):Int):=λm d hm=>by
   have h1:((m:Nat):Int).tdiv ((d:Nat):Int)=((m / d:Nat):Int):=by
    rw [Int.tdiv_eq_ediv_of_nonneg (by omega)];rfl
   have h2:m / d<=m:=Nat.div_le_self _ _;rw [h1];clear h1;generalize m / d=q at *;exact aQ (by omega)
  have e4:∀ a b:Nat,min ((a:Nat):Int) ((b:Nat):Int)=((min a b:Nat):Int):=λa b=>by omega
  have hj3:j*rl.length<=3*rl.length:=Nat.mul_le_mul_right _ hj;have hj4:(j+1)*rl.length<=3*rl.length:=Nat.mul_le_mul_right _ (by omega);refine qP.2 ?_;rw [e2 j hj];refine (YY (by decide)).2 ?_;rw [show (3:Int)=((3:Nat):Int) from rfl,e3 _ 3 (by omega)];refine V.ok WN (bJ.2 ?_);rw [e4,lI (n:=(j:Int)+1) (by omega) (by omega),bK];refine qP.2 ?_;rw [e2 (j+1) (by omega)];refine (YY (by decide)).2 ?_;rw [e3 _ 3 (by omega)];refine V.ok WN ?_;rw [e4];have hd1:j*rl.length / 3<=(j+1)*rl.length / 3:=Nat.div_le_div_right (Nat.mul_le_mul_right _ (by omega));obtain ⟨v1,r1,hs1⟩:=jQ.part underlying22 EI hrD (lo:=some (.int .i64 ((min rl.length (j*rl.length / 3):Nat):Int))) (hi':=some (.int .i64 ((min rl.length ((j+1)*rl.length / 3):Nat):Int))) (.inr rfl) (.inr rfl) (by omega) (by omega);refine V.ok (r1 _) ?_;refine ⟨λv w'=>∃ l,jQ wD v l/\l.length<=5000000000000/\w'=wD,aJ.2 (aC (λhz=>?_) λhz=>⟨_,hs1,by simp;omega,rfl⟩),?_⟩
  ·refine (YY (by decide)).2 ?_;rw [show (2:Int)=((2:Nat):Int) from rfl,e3 _ 2 (by omega)];refine V.ok WN ?_;rw [e4];obtain ⟨v2,r2,hs2⟩:=jQ.part underlying22 EI hrD (lo:=none) (hi':=some (.int .i64 ((min rl.length (rl.length / 2):Nat):Int))) (a:=0) (.inl ⟨rfl,rfl⟩) (.inr rfl) (by omega) (by omega);exact V.ok (r2 _) ⟨_,hs2,by simp;omega,rfl⟩
  rintro v3 wD' ⟨l,hl,hll,hwD⟩ _;have hwD:=hwD.symm;subst hwD;have D1:aG wD wD.drew:=(aG.refl _).drew;have hBid:=hBi.ext D1;obtain ⟨m,hm⟩:=bI (l:=uL code) (j:=j) (by simp [uL];omega);refine aL.mk' (λw'=>aG wD.drew w') (aG.refl _) ?_;refine iB (λw' hx=>bO.boxed (hBid.ext hx)) bP dN rfl ?_;refine iB (λw' hx=>bO.boxed (hBid.ext hx)) bP dN rfl ?_;refine ySS iF nW (hms.ext D1) (λ_ h=>h) hm pX λrow hrow=>?_;refine iB (λw' hx=>bO.boxed (hBid.ext hx)) bP dN rfl ?_;refine iB (λw' hx=>bO.boxed (hBid.ext hx)) fP iT rfl ?_;have xwd:=xw.trans D1;have hmp:=aEu hm;refine bFl (hl.ext D1) hrow (hms.ext D1) (rim.ext D1) (λq hq=>?_) hll (by omega) (by omega) ⟨by simp [uL],by simp [uL]⟩ (by simp [uL]) (by simp [KN]) (by simp [KN]) λv4 code4 wE ho4 hrg4 hlen4 xE=>⟨xE,?_⟩
  ·obtain ⟨z,hz⟩:=hb q hq;exact ⟨z,xwd.cell hz⟩
  have x3E:=D1.trans xE;refine aF.ok (λw' _=>jZ underlying25 yY (by omega) (by omega)) ?_;refine aF.ok (λw' _=>FA.ex cC w' _ _) ?_;rw [Int.toNat_natCast];refine bNe underlying25 yY cC NH (x3E.own hom) (by omega) (by decide) (fV ho4) λwF hwF hoF fF=>bJ.2 ?_;rw [aQ (by omega),bK];have sE:=x3E.size;have sD:=D1.size;have sF:=fF.size;rw [aSr (by omega)] at hoF;refine ⟨⟨j+1,λk=>if k=j then v4 else c k,λk=>if k=j then code4 else code k,rfl,by omega,(f.trans (Fr.of_ext x3E) λ_ _ h=>h).trans fF λk _ hk=>by omega,by omega,fF.blk (hBi.ext x3E) (by omega),fF.blk (hB4.ext x3E) (by omega),hoF,λk=>?_⟩,by simp only [aK];omega⟩;by_cases hkj:k=j
  ·simp only [hkj,if_true];exact ⟨aU (fF.own ho4 λq hq hS=>by have:=(ho4.lt q hq).1;omega) (by omega),hrg4,hlen4⟩
  ·simp only [hkj,if_false];obtain ⟨c1,c2,c3⟩:=hcs k;exact ⟨fF.own (x3E.own c1) λq hq hS=>by have:=(c1.lt q hq).1;omega,c2,c3⟩
 ·refine iC (bO.boxed hBi) kJ rfl ?_;refine wR rU hB4 (l:=[.string nm,fv,iv,.slice (some ⟨gm,0,none⟩) 3 cap,xv]) rfl rfl rfl (by simp [o1,o2,fV hoi0,MM,bBn]) λwE hBE hc=>?_;refine ⟨_,oF underlying27 rfl rU hBE rfl,⟨_,rfl⟩,?_⟩;have fE:Fr (λk=>k=gi\/k=g4\/w11.heap.size<=k) w11 wE:=f.trans ((pR hc).mono λk hk=>.inr (.inl hk)) λ_ _ h=>h;have xw:=hallX fE;have hg4m:g4 < gm:=by omega
  have homE:=(pR hc).own hom λk hk hS=>by have:=(hom.lt k hk).1;omega
  have hcsE:∀ k,wE.ownsRow (gm+1) 88 3 (c k) (code k).length (oN (code k)):=λk=>(pR hc).own (hcs k).1 λq hq hS=>by have:=((hcs k).1.lt q hq).1;omega
  have stay:∀ w'',Fr (λk=>k < g4) wE w''->sW w''->kF w'' ⟨fv,iv,.slice (some ⟨gm,0,none⟩) 3 cap,xv⟩ ⟨nm,[1,2,3,4],KN n1 n2,uL code,[1,2]⟩/\lO w'' ⟨nm,[1,2,3,4],KN n1 n2,uL code,[1,2]⟩:=by
   intro w'' f'' hT'';have f3:Fr (λk=>k=gi\/k<=g4\/w11.heap.size<=k) w11 w'':=(hS fE).trans f'' λk _ hk=>by omega
   obtain ⟨rf,rx,rl',rp1,rp2,rl3,rim⟩:=hall f3;refine ⟨⟨rf,rim,aKd (aA.of_own (f''.own homE λk hk hS=>by have:=(homE.lt k hk).1;omega)) rl' rp1 rp2 rl3 λk _=>aA.of_own (f''.own (hcsE k) λq hq hS=>by have:=((hcsE k).lt q hq).1;omega),rx⟩,TT hnm hT'',λx hx=>?_⟩;simp only [KN,List.mem_cons,List.not_mem_nil,or_false] at hx;rcases hx with rfl|rfl
   ·exact TT hn1 hT''
   ·exact TT hn2 hT''
  have stayM:∃ cs:List Y,∀ w'',Fr (λk=>k < g4) wE w''->aA w'' (.slice (some ⟨gm,0,none⟩) 3 cap) 4 3 cs/\∀ (k:Nat) (x:jR),(uL code)[k]?=some x->mF w'' ((cs.drop (k*4)).take 4) x:=by
   refine ⟨apC lv p1 p2 lv3 c,λw'' f''=>?_⟩;have f3:Fr (λk=>k=gi\/k<=g4\/w11.heap.size<=k) w11 w'':=(hS fE).trans f'' λk _ hk=>by omega
   obtain ⟨rf,rx,rl',rp1,rp2,rl3,rim⟩:=hall f3;exact aSq (w:=w'') (aA.of_own (f''.own homE λk hk hS=>by have:=(homE.lt k hk).1;omega)) rl' rp1 rp2 rl3 λk _=>aA.of_own (f''.own (hcsE k) λq hq hS=>by have:=((hcsE k).lt q hq).1;omega)
  have hTE:=hT.ext xw;obtain ⟨hat,hnmE⟩:=stay wE (Fr.refl _ _) hTE;refine hk ⟨fv,iv,.slice (some ⟨gm,0,none⟩) 3 cap,xv⟩ ⟨nm,[1,2,3,4],KN n1 n2,uL code,[1,2]⟩ wE hat hnmE (λm hm x hx=>?_) rfl (λm hm=>?_) (by rw [hgg4];exact stay) (by rw [hgg4];exact stayM) xw
  ·simp only [uL,List.mem_cons,List.not_mem_nil,or_false] at hm;rcases hm with rfl|rfl|rfl
   ·exact (hcs 0).2.1 x hx
   ·exact (hcs 1).2.1 x hx
   ·exact (hcs 2).2.1 x hx
  ·simp only [uL,List.mem_cons,List.not_mem_nil,or_false] at hm;rcases hm with rfl|rfl|rfl
   ·exact (hcs 0).2.2
   ·exact (hcs 1).2.2
   ·exact (hcs 2).2.2
end Go.Proofs.YtjcmcfidblhnnaaGreatDoor
namespace Go.Vc
section
variable {P:Program} {w:O} {K:Y->O->Prop}
theorem slO {t e sz:Nat} {z:Y} {by_:Nat} (ht:P.underlying t=some (.slice e)) (hi:cZ P e z sz by_) (_:0 < sz) {B n g cap:Nat} {xs:List Y} (ho:w.ownsRow B e sz (.slice (some ⟨g,0,none⟩) n cap) n xs) {k:Nat} (hk:k<=n) (h0:0 < n)
  (hK:w.ownsRow B e sz (.slice (some ⟨g,0,none⟩) k cap) k (xs.take (k*sz))->K (.slice (some ⟨g,0,none⟩) k cap) w):V P (Instr.sliceAt t (.slice (some ⟨g,0,none⟩) n cap) none (some (i64 k)) none) w K:=by
 have hcap:n<=cap:=by
  rcases ho.2 with ⟨he,_⟩|⟨g',cap',cur,he,_,_,h3,_⟩
  ·cases he
  ·cases he;exact h3
 have hc0:¬ cap=0:=by omega
 have hkc:k<=cap:=by omega
 refine V.ok ?_ (hK (GZ ho hk));simp [Instr.sliceAt,Instr.slice,run_underlying ht,gW hi,Instr.sliceBounds,Instr.sliceBound,asIntOf,hkc,hc0,mA]
end
end Go.Vc
namespace Go.Proofs.YtjcmcfidblhnnaaGreatDoor
open Tryz
open Go.Vc Go.Tc
variable {w:O} {K:Y->O->Prop}
end Go.Proofs.YtjcmcfidblhnnaaGreatDoor
namespace Go.Tc
def iA.withCode (i:iA) (q:Nat) (code:List lT):iA:={ i with methods:=i.methods.set q { i.meth q with code:=code } }
end Go.Tc
namespace Go.Proofs.YtjcmcfidblhnnaaGreatDoor
open Tryz
open Go.Vc Go.Tc
variable {w:O} {K:Y->O->Prop}
variable {B B':Nat} {w':O} {i:iA} {n:aD} {k:Int} {x:lT}
structure Apl (w:O) (p:iE) (i:iA):Prop where
 at_:kF w p i
 nm:lO w i
 rg:i.rg
 ml:i.methods.length=3
 cl:∀ m∈i.methods,m.code.length<=2000000
theorem Apl.ext {w':O} {p:iE} {i:iA} (h:Apl w p i) (hx:aG w w'):Apl w' p i:=⟨h.at_.ext hx,h.nm.ext hx,h.rg,h.ml,h.cl⟩
def BJ (N0:Nat) (w0:O) (v:Y) (w':O):Prop:=∃ code':List lT,w'.ownsRow N0 88 3 v code'.length (oN code')/\(∀ x∈code',x.rg)/\code'.length<=2000000/\Fr (λk=>N0<=k) w0 w'
structure zN (B:Nat) (w:O) (p:iE) (i:iA):Prop where
 ap:∀ w'',Fr (λk=>k < B) w w''->sW w''->Apl w'' p i
 mt:∃ cs:List Y,∀ w'',Fr (λk=>k < B) w w''->aA w'' p.mv 4 i.methods.length cs/\∀ (k:Nat) (x:jR),i.methods[k]?=some x->mF w'' ((cs.drop (k*4)).take 4) x
theorem zN.by_ {p:iE} (h:zN B w p i) (hf:∀ w'',Fr (λk=>k < B') w' w''->Fr (λk=>k < B) w w''):zN B' w' p i:=by
 obtain ⟨h1,cs,h2⟩:=h;exact ⟨λw'' f hT=>h1 w'' (hf w'' f) hT,cs,λw'' f=>h2 w'' (hf w'' f)⟩
theorem zN.ext {p:iE} (h:zN B w p i) (hx:aG w w'):zN B w' p i:=h.by_ λ_ f=>(Fr.of_ext hx).trans f λ_ _ h=>h
theorem zN.now {p:iE} (h:zN B w p i) (hT:sW w):Apl w p i:=h.ap w (Fr.refl _ _) hT
theorem zN.chg {g:Nat} {p:iE} (h:zN B w p i) (f:Fr (λk=>k=g) w w') (hg:g < B) (hB:B'<=B):zN B' w' p i:=h.by_ λw'' f'=>((f.mono (T:=λk=>k < B) λk hk=>by omega)).trans f' λk _ hk=>by omega
def iE.cells (p:iE) (i:iA):List Y:=[.string i.name,p.fv,p.iv,p.mv,p.xv]
theorem Apl.one {p:iE} (h:Apl w p i):(p.cells i).all bX=true:=by
 obtain ⟨a1,c1,e1⟩:=aA.shape h.at_.fl;obtain ⟨_,hx1,_⟩:=h.at_.im;obtain ⟨a2,c2,e2⟩:=aA.shape hx1;obtain ⟨_,hx3,_⟩:=h.at_.mt;obtain ⟨a3,c3,e3⟩:=aA.shape hx3;obtain ⟨a4,c4,e4⟩:=aA.shape h.at_.ex;unfold iE.cells;rw [e1,e2,e3,e4];rfl
theorem bGd {n:Int} {rv:Y} {rl:List Rw} (hr:jQ w rv rl) (hb:qV w) (hT:sW w) (rn:rl.length<=5000000000000)
  (hk:∀ p i w',zN w.heap.size w' p i->(∀ m∈i.methods,m.code.length<=700000)->aG w w'->K (p.val i) w'):aB prog 20 #[i64 n,rv] w K:=
 aSp hr hb hT rn λp i w' _ _ h3 h4 h5 h7 h8 h6=>hk p i w' ⟨λw'' f hT''=>⟨(h7 w'' f hT'').1,(h7 w'' f hT'').2,h3,h4,λm hm=>Nat.le_trans (h5 m hm) (by decide)⟩,h8⟩ h5 h6
def NM (l:List (iE × iA)):List Y:=l.flatMap λx=>x.1.cells x.2
def aPp (w:O) (row:List Y) (x:iE × iA):Prop:=row=x.1.cells x.2/\Apl w x.1 x.2/\mE x.2
def CQ (w:O) (v:Y) (l:List (iE × iA)):Prop:=bR aPp 5 w v l
theorem CQ.ext {w':O} {v:Y} {l:List (iE × iA)} (h:CQ w v l) (hx:aG w w'):CQ w' v l:=bR.ext (λh k=>⟨h.1,h.2.1.ext k,h.2.2⟩) h hx
theorem NL:∀ {l:List (iE × iA)} {k:Nat} {x:iE × iA},l[k]?=some x->((NM l).drop (k*5)).take 5=x.1.cells x.2
 | [],_,_,h=>by simp at h
 | y::l,0,x,h=>by simp at h;subst h;simp [NM,iE.cells]
 | y::l,k+1,x,h=>by
  have:=NL (l:=l) (k:=k) (by simpa using h);simp only [NM,List.flatMap_cons] at this ⊢;rw [show (k+1)*5=5+k*5 by omega,<- List.drop_drop,List.drop_left' (by rfl)];exact this
theorem aKc (w:O) (row:List Y) (x:iE × iA) (h:aPp w row x):row.length=5:=by rw [h.1];rfl
def CO (w:O) (v:Y) (ll:List (List Rw)):Prop:=∃ vs:List Y,aA w v 1 ll.length vs/\∀ (k:Nat) (l:List Rw),ll[k]?=some l->∃ u,vs[k]?=some u/\jQ w u l/\l.length<=5000000000000
theorem CO.ext {w':O} {v:Y} {ll:List (List Rw)} (h:CO w v ll) (hx:aG w w'):CO w' v ll:=by
 obtain ⟨vs,h1,h2⟩:=h;refine ⟨vs,h1.ext hx,λk l hk=>?_⟩;obtain ⟨u,h3,h4,h5⟩:=h2 k l hk;exact ⟨u,h3,h4.ext hx,h5⟩
theorem aEt {v:Y} {ll:List (List Rw)} (h:CO w v ll) (hb:qV w) (hT:sW w) (hk:∀ v' l w',CQ w' v' l->l.length<=3->(∀ x∈l,∀ w'',Fr (λk=>k < w.heap.size) w' w''->sW w''->Apl w'' x.1 x.2)->aG w w'->K v' w'):aB prog 10 #[v] w K:=by
 apply bJw;unfold aCf;refine ⟨λt v w'=>∃ (j:Nat) (l:List (iE × iA)),v=i64 j/\j<=ll.length/\j<=3/\l.length<=j/\aG w w'/\w'.ownsRow w.heap.size 27 5 t l.length (NM l)/\∀ x∈l,(∀ w'',Fr (λk=>t.ownBlock=some k\/k < w.heap.size) w' w''->sW w''->Apl w'' x.1 x.2)/\mE x.2,λ_ v _=>3 - (RowKit.intOf v).toNat,⟨0,[],rfl,Nat.zero_le _,Nat.zero_le _,Nat.le_refl _,aG.refl _,World.ownsRow_nil _ _ _ _,λ_ h=>by simp at h⟩,?_⟩;rintro tv _ w1 ⟨j,l,rfl,hj,hj3,hlj,x1,ho,hl⟩ _;obtain ⟨vs,hvs,hvl⟩:=h.ext x1
 have hb1:∀ {w'},aG w w'->qV w':=λhx q hq=>by
  obtain ⟨z,hz⟩:=hb q hq;exact ⟨z,hx.cell hz⟩
 refine gE VW hvs (aZ.2 ?_);by_cases c0:(j:Int) < (ll.length:Int)/\(j:Int) < 3
 case neg=>
  have fin:K tv w1:=hk tv l w1 ⟨NM l,aA.of_own ho,λk x hx=>⟨_,NL hx,rfl,(hl x (List.mem_of_getElem? hx)).1 _ (Fr.refl _ _) (hT.ext x1),(hl x (List.mem_of_getElem? hx)).2⟩⟩ (by omega) (λx hx w'' f hT''=>(hl x hx).1 w'' (f.mono λk hk=>.inr hk) hT'') x1;by_cases c1:(j:Int) < (ll.length:Int)
  ·have c2:¬ (j:Int) < 3:=λhc=>c0 ⟨c1,hc⟩;simp only [c1,c2,aR];exact fin
  ·simp only [c1,aR];exact fin
 obtain ⟨c1,c2⟩:=c0;simp only [c1,c2,aR];obtain ⟨rl,hrl⟩:=bI (l:=ll) (j:=j) (by omega);obtain ⟨ru,hru,hrr,hrn⟩:=hvl j rl hrl;refine mH VW kZ hvs (by omega) (by omega) (by simpa using hru) ?_;refine bGd hrr (hb1 x1) (hT.ext x1) hrn λp2 i2 w2 ha2 hc2 x2=>?_;have hone:=(ha2.now (hT.ext (x1.trans x2))).one;refine tH bBg rfl hone λw3 hB3 x3=>?_;have hB3:bO w3 w2.heap.size (p2.cells i2) 27:=hB3;have s2:=x2.size;have x13:=x2.trans x3;have hg:w1.heap.size<=w2.heap.size:=s2;have ha3:=ha2.ext x3;generalize w2.heap.size=g at *;clear ha2 x2 x3 s2 hone hc2;have hT1:∀ {w'},aG w1 w'->sW w':=λhx=>hT.ext (x1.trans hx);refine ⟨λw'=>∃ p i,bO w' g (iE.cells p i) 27/\zN w1.heap.size w' p i/\aG w1 w',?_,?_⟩
 ·refine iC (bO.boxed hB3) kJ rfl ?_;have hA3:=ha3.now (hT1 x13);refine CT (p:=p2) (i:=i2) hA3.at_ hA3.nm λa b e w4 _ x4=>?_;refine gR.2 (gQ.2 ?_);refine sG LT rfl rfl λb5 w5 _ x5=>?_;have x45:=x4.trans x5;have hB5:=hB3.ext x45;have ha5:=ha3.ext x45;have x15:=x13.trans x45;refine cL.2 (aC (λhne=>?_) λheq=>⟨p2,i2,hB5,ha5,x15⟩);have D1:aG w5 w5.drew:=(aG.refl _).drew;have x1d:=x15.trans D1;have hrrd:=hrr.ext x1d;obtain ⟨u6,r6,hs6⟩:=jQ.part underlying22 EI hrrd (lo:=none) (hi':=some (.int .i64 ((rl.length / 2:Nat):Int))) (a:=0) (b:=rl.length / 2) (.inl ⟨rfl,rfl⟩) (.inr rfl) (by omega) (by omega);refine aL.mk' (λw'=>aG w5.drew w') (aG.refl _) ?_;refine nT VW kZ (hvs.ext x1d) (λ_ h=>h) (by omega) (by omega) (by simpa using hru) ?_;refine nT VW kZ (hvs.ext x1d) (λ_ h=>h) (by omega) (by omega) (by simpa using hru) ?_;refine bKi xU hrrd ?_;refine aF.ok (λw' _=>WM (by decide)) ?_
  have e2:IntKind.i64.wrap (((rl.length:Nat):Int).tdiv 2)=((rl.length / 2:Nat):Int):=by
   rw [Int.tdiv_eq_ediv_of_nonneg (by omega),aQ (by omega)];rfl
  rw [e2];refine aF.ok (λw' _=>r6 _) ?_;refine bGd hs6 (hb1 (x1.trans x1d)) (hT.ext (x1.trans x1d)) (by simp;omega) λp7 i7 w7 ha7 _ x7=>⟨x7,?_⟩;have x17:=x1d.trans x7;have hgd:g < w5.drew.heap.size:=(hB5.ext D1).lt;have s1d:=x1d.size;refine wR rU (hB5.ext (D1.trans x7)) (l:=p7.cells i7) rfl rfl rfl (ha7.now (hT1 x17)).one λw8 hB8 hc8=>?_;have x18:aG w1 w8:=hc8.ext _ x17 hg;have ha8:zN w1.heap.size w8 p7 i7:=ha7.chg (pR hc8) hgd s1d;refine iC (bO.boxed hB8) kJ rfl ?_;have hA8:=ha8.now (hT1 x18);refine CT (p:=p7) (i:=i7) hA8.at_ hA8.nm λa b e w9 _ x9=>?_;refine gR.2 (gQ.2 ?_);refine sG LT rfl rfl λb10 w10 _ x10=>?_;have x910:=x9.trans x10;refine cL.2 (aC (λhne2=>?_) λheq=>⟨p7,i7,hB8.ext x910,ha8.ext x910,x18.trans x910⟩);have x1A:=x18.trans x910;refine bGd (rl:=[]) ⟨⟨none,0,rfl⟩,λh=>by simp at h⟩ (hb1 (x1.trans x1A)) (hT.ext (x1.trans x1A)) (by simp) λp11 i11 w11 ha11 _ x11=>?_;have hgA:g < w10.heap.size:=(hB8.ext x910).lt;have s1A:=x1A.size;refine wR rU (hB8.ext (x910.trans x11)) (l:=p11.cells i11) rfl rfl rfl (ha11.now (hT1 (x1A.trans x11))).one λw12 hB12 hc12=>?_;exact ⟨p11,i11,hB12,ha11.chg (pR hc12) hgA s1A,hc12.ext _ (x1A.trans x11) hg⟩
 rintro w4 ⟨p,i,hB,ha,x14⟩ _;refine iC (bO.boxed hB) kJ rfl ?_;have hA:=ha.now (hT1 x14);refine CT (p:=p) (i:=i) hA.at_ hA.nm λa b e w5 he x5=>?_;refine gR.2 (gQ.2 ?_);refine sG LT rfl rfl λb6 w6 _ x6=>?_;have x46:=x5.trans x6;have x16:=x14.trans x46;refine aJ.2 (aC (λhz=>?_) λhz=>?_)
 ·have ht:=he.1 hz;refine iC (bO.boxed (hB.ext x46)) kJ rfl ?_;refine xM underlying45 rU rfl (by decide) [.agg (p.cells i).toArray] rfl rfl (by intro v hv;rw [List.mem_singleton] at hv;subst hv;rfl) (by decide) (by decide) λv7 w7 ho7 x7=>?_;have s7:=(x1.trans (x16.trans x7)).size;have hone7:([Value.agg (p.cells i).toArray].flatMap λv=>v.cells.toList).all bX=true:=by simpa [Value.cells] using hA.one
  refine apG underlying45 rU rfl (by decide) ((x16.trans x7).own ho) (aA.of_own ho7) hone7 (by omega) (by unfold maxLen;omega) s7 λv8 w8 ho8 hg8 hl8=>?_;have x18:aG w w8:=(x1.trans (x16.trans x7)).grown hg8 λk hk=>(ho.lt k hk).1;refine jS (by omega) ?_;refine ⟨⟨j+1,l++[(p,i)],rfl,by omega,by omega,by simp;omega,x18,?_,λx hx=>?_⟩,by simp only [aK];omega⟩
  ·have e1:NM (l++[(p,i)])=NM l++([Value.agg (p.cells i).toArray].flatMap λv=>v.cells.toList):=by simp [NM,Value.cells]
   rw [e1,List.length_append];exact ho8
  ·have f8:Fr (λk=>tv.ownBlock=some k) w7 w8:=Fr.of_grown hg8 λk hk=>hk;have x17:=x16.trans x7;have s17:=x17.size
   have f78:∀ {w''},Fr (λk=>v8.ownBlock=some k\/k < w.heap.size) w8 w''->Fr (λk=>tv.ownBlock=some k\/k < w.heap.size) w7 w'':=λf=>(f8.mono λk hk=>.inl hk).trans f λk hk hk'=>by
    rcases hk' with hk'|hk'
    ·rcases hl8 with h8|h8
     ·rw [h8] at hk';exact .inl hk'
     ·rw [h8] at hk';cases hk';omega
    ·exact .inr hk'
   rcases List.mem_append.1 hx with hx|hx
   ·exact ⟨λw'' f hT''=>(hl x hx).1 w'' ((Fr.of_ext x17).trans (f78 f) λ_ _ h=>h) hT'',(hl x hx).2⟩
   ·rw [List.mem_singleton] at hx;subst hx;refine ⟨λw'' f hT''=>ha.ap w'' ((Fr.of_ext (x46.trans x7)).trans ((f78 f).mono λk hk=>?_) λ_ _ h=>h) hT'',ht⟩;have:=x1.size;rcases hk with hk|hk
    ·exact (ho.lt k hk).2
    ·omega
 ·refine jS (by omega) ?_;exact ⟨⟨j+1,l,rfl,by omega,by omega,by omega,x1.trans x16,x16.own ho,λx hx=>⟨λw'' f hT''=>(hl x hx).1 w'' ((Fr.of_ext x16).trans f λ_ _ h=>h) hT'',(hl x hx).2⟩⟩,by simp only [aK];omega⟩
theorem qV.ext (hb:qV w) (hx:aG w w'):qV w':=λq hq=>by
 obtain ⟨z,hz⟩:=hb q hq;exact ⟨z,hx.cell hz⟩
theorem jQ.one {v:Y} {l:List Rw} (h:jQ w v l):bX v=true:=by
 obtain ⟨⟨a,c,rfl⟩,_⟩:=h;rfl
def mX (op:Int):Int × Bool:=if op=27\/op=28 then (1,true) else if op=17\/op=18\/op=29 then (2,true) else if op=30\/op=36 then (3,false) else if op=31 then (5,false) else if op=32 then (5,true) else (0,false)
def jV (h n:Nat):List Int:=(List.range n).map λk=>10+((h - n+k:Nat):Int)
def rN (r:Int) (k:Int):Int:=if r=0 then -1 else 10+k
def iH (i:iA) (m:jR) (x:lT) (h:Nat):Option aD:=
 if x.op=1 then some (.const (10+(h:Int)) (IntKind.i32.wrap x.a)) else if x.op=2 then some (.move (10+(h:Int)) x.a) else if x.op=3 then some (.move x.a (10+((h:Int) - 1))) else if x.op=4 then none
 else if x.op=5 then some (.move (10+(h:Int)) (10+((h:Int) - 1))) else if x.op=15\/x.op=16\/x.op=26 then some (.un x.op (10+((h:Int) - 1)) (10+((h:Int) - 1)))
 else if x.op=22 then some (.choose (10+((h:Int) - 3)) (10+((h:Int) - 3)) (10+((h:Int) - 2)) (10+((h:Int) - 1))) else if x.op=23 then some (.goto x.a) else if x.op=24 then some (.branch (10+((h:Int) - 1)) x.a)
 else if x.op=25 then some (.const (10+(h:Int)) 0) else if x.op=35 then some (.const (10+(h:Int)) (IntKind.i32.wrap x.a)) else if x.op=33 then some (.getField (10+(h:Int)) x.a) else if x.op=34 then some (.putField x.a (10+((h:Int) - 1)))
 else if x.op=37 then some (.call x.a (rN (i.meth x.a).result ((h:Int) - (i.meth x.a).params.length)) (jV h (i.meth x.a).params.length))
 else if x.op=38 then some (.callX x.a (rN (i.imp x.a).result ((h:Int) - (i.imp x.a).params.length)) (jV h (i.imp x.a).params.length))
 else if x.op=39 then some (.ret (rN m.result ((h:Int) - 1)))
 else if (mX x.op).1≠0 then some (.serve x.op x.a x.b (if (mX x.op).2 then 10+((h:Int) - (mX x.op).1) else -1) (jV h (mX x.op).1.toNat))
 else some (.bin x.op (10+((h:Int) - 2)) (10+((h:Int) - 2)) (10+((h:Int) - 1)))
def kE (B:Nat) (w:O) (v:Y) (n:aD):Prop:=∃ sv,v=n.val sv/\w.ownsRow B 3 1 sv n.args.length (n.args.map i64)
theorem kE.is {v:Y} (h:kE B w v n):iO w v n:=by
 obtain ⟨sv,h1,h2⟩:=h;exact ⟨sv,h1,aA.of_own h2⟩
theorem kE.fr {v:Y} {S:Nat->Prop} (h:kE B w v n) (f:Fr S w w') (hS:∀ k,B<=k->k < w.heap.size->¬ S k):kE B w' v n:=by
 obtain ⟨sv,h1,h2⟩:=h;exact ⟨sv,h1,f.own h2 λk hk=>hS k (h2.lt k hk).1 (h2.lt k hk).2⟩
def LN (B:Nat) (w:O) (v:Y):Option aD->Prop
 | none=>v=Value.nilIface
 | some n=>kE B w v n
theorem oP (h:-1000<=k/\k<=1000) (hk:K (i64 (10+k)) w):aB prog 52 #[i64 k] w K:=by
 apply bIk;unfold aAu;refine bJ.2 ?_;rw [aQ (by omega)];exact hk
theorem DK {r:Int} (h:-1000<=k/\k<=1000) (hk:K (i64 (rN r k)) w):aB prog 53 #[i64 r,i64 k] w K:=by
 apply bIj;unfold aAt;unfold rN at hk;refine aJ.2 (aC (λhe=>?_) λhe=>?_)
 ·rw [if_pos he] at hk;exact hk
 ·rw [if_neg he] at hk;exact oP h hk
theorem GR {h n j:Nat} (hj:j < n):(jV h n).take (j+1)=(jV h n).take j++[10+((h - n+j:Nat):Int)]:=by
 have hl:(jV h n).length=n:=by simp [jV]
 rw [List.take_add_one]
 congr 1
 simp [jV,hj]
theorem aGg {h n:Nat} (hn:n<=h) (hh:h<=500) (hk:∀ v w',w'.ownsRow w.heap.size 3 1 v (jV h n).length ((jV h n).map i64)->aG w w'->K v w'):aB prog 54 #[i64 h,i64 n] w K:=by
 have hl:(jV h n).length=n:=by simp [jV]
 apply bIi;unfold aAs;refine fT.2 ?_;rw [aQ (by omega)];refine ⟨λtv v w'=>∃ j:Nat,v=i64 ((h - n+j:Nat):Int)/\j<=n/\aG w w'/\w'.ownsRow w.heap.size 3 1 tv j (((jV h n).take j).map i64),λ_ v _=>h - (RowKit.intOf v).toNat,⟨0,by congr 1;omega,Nat.zero_le _,aG.refl _,World.ownsRow_nil _ _ _ _⟩,?_⟩;rintro tv _ w1 ⟨j,rfl,hj,x1,ho⟩ _;refine aZ.2 (aC (λhlt=>?_) λhge=>?_)
 ·refine oP (by omega) ?_;refine jG bB [i64 (10+((h - n+j:Nat):Int))] rfl rfl (by simp) rfl λv2 w2 ho2 x2=>?_;refine LD bB (x2.own ho) (aA.of_own ho2) rfl (by omega) (by unfold maxLen;omega) (x1.trans x2).size λv3 w3 ho3 hg3=>?_;refine jS (by omega) ?_;refine ⟨⟨j+1,rfl,by omega,(x1.trans x2).grown hg3 λq hq=>((x2.own ho).lt q hq).1,?_⟩,by simp only [aK];omega⟩;rw [GR (by omega),List.map_append];exact ho3
 ·have hjn:j=n:=by omega
  subst hjn;refine hk tv w1 ?_ x1;rw [hl];have:=ho;rw [List.take_of_length_le (by omega)] at this;exact this
theorem aCt {op:Int} (hk:K (.tuple #[i64 (mX op).1,.bool (mX op).2]) w):aB prog 105 #[i64 op] w K:=by
 apply bAp;unfold SU;by_cases c27:op=27
 ·subst c27;simp only [aR,Int.reduceEq];exact hk
 by_cases c28:op=28
 ·subst c28;simp only [aR,Int.reduceEq];exact hk
 by_cases c17:op=17
 ·subst c17;simp only [aR,Int.reduceEq];intros;exact hk
 by_cases c18:op=18
 ·subst c18;simp only [aR,Int.reduceEq];intros;exact hk
 by_cases c29:op=29
 ·subst c29;simp only [aR,Int.reduceEq];intros;exact hk
 by_cases c30:op=30
 ·subst c30;simp only [aR,Int.reduceEq];intros;exact hk
 by_cases c36:op=36
 ·subst c36;simp only [aR,Int.reduceEq];intros;exact hk
 by_cases c31:op=31
 ·subst c31;simp only [aR,Int.reduceEq];intros;exact hk
 by_cases c32:op=32
 ·subst c32;simp only [aR,Int.reduceEq];intros;exact hk
 simp only [c27,c28,c17,c18,c29,c30,c36,c31,c32,aR]
 intros
 simp only [mX,c27,c28,c17,c18,c29,c30,c36,c31,c32,or_self,if_false] at hk;exact hk
theorem jO {v:Y} (h:v=n.val bC) (ha:n.args=[]):kE B w v n:=⟨bC,h,by rw [ha];exact World.ownsRow_nil _ _ _ _⟩
theorem aQe (op:Int):0<=(mX op).1/\(mX op).1<=5:=by
 unfold mX;split
 ·exact ⟨by decide,by decide⟩
 split
 ·exact ⟨by decide,by decide⟩
 split
 ·exact ⟨by decide,by decide⟩
 split
 ·exact ⟨by decide,by decide⟩
 split
 iterate 2
  ·exact ⟨by decide,by decide⟩
theorem gV {h:Nat} (hn:(mX x.op).1.toNat<=h) (hh:h<=500) (hk:∀ v w',LN w.heap.size w' v (if (mX x.op).1=0 then none else some (.serve x.op x.a x.b (if (mX x.op).2 then 10+((h:Int) - (mX x.op).1) else -1) (jV h (mX x.op).1.toNat)))->aG w w'->K v w') :
  aB prog 55 #[.agg #[i64 x.op,i64 x.a,i64 x.b],i64 h] w K:=by
 have h0:=aQe x.op;apply bIh;unfold aAr;refine bx λb1 w1 hb1 x1=>?_;refine aV hb1 aS aE rfl (aCt (gR.2 (gQ.2 (aJ.2 ?_))));by_cases hz:(mX x.op).1=0
 ·simp only [hz,aR,Int.reduceNeg];exact hk _ _ (by rw [if_pos hz];rfl) x1
 simp only [hz,aR,Int.reduceNeg];rw [if_neg hz] at hk;obtain ⟨n,hn1⟩:∃ n:Nat,(mX x.op).1=n:=⟨(mX x.op).1.toNat,by omega⟩;rw [hn1] at hk hn h0 ⊢;rw [Int.toNat_natCast] at hk hn;refine ⟨λv w'=>v=i64 (if (mX x.op).2 then 10+((h:Int) - (n:Int)) else -1)/\w'=w1,?_,?_⟩
 ·cases h2:(mX x.op).2 with
  | true=>
   refine bH.2 (fT.2 ?_);rw [aQ (by omega)];exact oP (by omega) ⟨rfl,rfl⟩
  | false=>exact aM.2 ⟨rfl,rfl⟩
 rintro _ w9 ⟨rfl,hw⟩ _;have hw:=hw.symm;subst hw;have D1:aG w1 w1.drew:=(aG.refl _).drew;refine aL.mk' (λw'=>aG w1 w') D1 ?_;refine iB (λw' hw=>hb1.ext hw) aS aE rfl (iB (λw' hw=>hb1.ext hw) aX aE rfl (iB (λw' hw=>hb1.ext hw) lV aE rfl ?_));refine aGg hn hh λv w2 ho x2=>⟨D1.trans x2,?_⟩;refine mM bFw [(0,i64 x.op),(1,i64 x.a),(2,i64 x.b),(3,i64 _),(4,v)] rfl (by simp [fV ho,rR]) (qQ bDu ?_);refine hk _ _ ⟨v,rfl,aU ho (x1.trans D1).size⟩ ((x1.trans D1).trans x2)
theorem bDj {p:iE} {row:List Y} {m:jR} {h:Nat} (hA:kF w p i) (hm:mF w row m) (hx:xR i m x) (hh:h<=8) (ha:(aY i m x).length<=h) (hk:∀ v w',LN w.heap.size w' v (iH i m x h)->aG w w'->K v w') :
  aB prog 26 #[p.val i,.agg row.toArray,.agg #[i64 x.op,i64 x.a,i64 x.b],i64 h] w K:=by
 obtain ⟨op,a,b⟩:=x;obtain ⟨ir,mr,⟨ho,a1,a2,_⟩,hn⟩:=hx;obtain ⟨pv,lv,cv,rfl,hp,hl,hc⟩:=hm;have ho:1<=op/\op<=39:=ho;apply bJi;unfold aBp iE.val;refine bx λb4 w1 hb4 x1=>bx λb5 w2 hb5 x2=>bx λb6 w3 hb6 x3=>?_;have hb4:bF w3 b4 [.string i.name,p.fv,p.iv,p.mv,p.xv]:=(hb4.ext x2).ext x3;have hb5:bF w3 b5 [pv,i64 m.result,lv,cv]:=hb5.ext x3;have hb6:bF w3 b6 [i64 op,i64 a,i64 b]:=hb6;have xx:=(x1.trans x2).trans x3;have hA:=hA.ext xx;refine aV hb6 aS aE rfl ?_;have D1:aG w3 w3.drew:=(aG.refl _).drew;have xd:=xx.trans D1;rcases AD ho with rfl|rfl|rfl|rfl|rfl|rfl|rfl|rfl|rfl|rfl|rfl|rfl|rfl|rfl|rfl|rfl|rfl|rfl|rfl|rfl|rfl|rfl|rfl|rfl|rfl|rfl|rfl|rfl|rfl|rfl|rfl|rfl|rfl|rfl|rfl|rfl|rfl|rfl|rfl
 ·simp only [aR,Int.reduceEq]
  intros
  refine aL.mk' (λw'=>aG w3 w') D1 ?_;refine iB (λw' hw=>hb6.ext hw) aX aE rfl ?_;refine aF.ok (λw' _=>lU underlying3 underlying21) ?_;refine oP (by omega) ⟨D1,?_⟩;refine mM YR [(0,i64 (10+(h:Int))),(1,i32 (IntKind.i32.wrap a))] rfl rfl (qQ XJ ?_);exact hk _ _ (jO rfl rfl) xd
 ·simp only [aR,Int.reduceEq]
  intros
  refine aL.mk' (λw'=>aG w3 w') D1 ?_;refine iB (λw' hw=>hb6.ext hw) aX aE rfl ?_;refine oP (by omega) ⟨D1,?_⟩;refine mM VI [(0,i64 (10+(h:Int))),(1,i64 a)] rfl rfl (qQ JO ?_);exact hk _ _ (jO rfl rfl) xd
 ·simp only [aR,Int.reduceEq]
  intros
  refine aL.mk' (λw'=>aG w3 w') D1 ?_;refine iB (λw' hw=>hb6.ext hw) aX aE rfl ?_;refine aF.ok (λw' _=>fG) ?_;rw [aQ (by omega)];refine oP (by omega) ⟨D1,?_⟩;refine mM VI [(0,i64 a),(1,i64 (10+((h:Int) - 1)))] rfl rfl (qQ JO ?_);exact hk _ _ (jO rfl rfl) xd
 ·simp only [aR,Int.reduceEq]
  intros
  exact hk _ _ rfl xx
 ·simp only [aR,Int.reduceEq]
  intros
  refine oP (by omega) ?_;refine fT.2 ?_;rw [aQ (by omega)];refine oP (by omega) ?_;refine lF VI [(0,i64 (10+(h:Int))),(1,i64 (10+((h:Int) - 1)))] rfl rfl (TW JO ?_);exact hk _ _ (jO rfl rfl) xx
 ·simp only [aR,Int.reduceEq]
  intros
  refine iC hb6 gS rfl ?_;refine gV (x:=⟨6,a,b⟩) (show _<=h from Nat.zero_le _) (by omega) λv w4 hv x4=>?_;have hv:v=Value.nilIface:=hv;subst hv;refine V.ok (iG underlying43) (aM.2 ?_);have D4:aG w4 w4.drew:=(aG.refl _).drew;refine aL.mk' (λw'=>aG w4 w') D4 ?_;refine iB (λw' hw=>(hb6.ext x4).ext hw) aS aE rfl ?_;refine aF.ok (λw' _=>fG) ?_;rw [aQ (by omega)];refine aF.ok (λw' _=>fG) ?_;rw [aQ (by omega)];refine aF.ok (λw' _=>fG) ?_;rw [aQ (by omega)];refine oP (by omega) ⟨D4,?_⟩;refine oP (by omega) ⟨D4,?_⟩;refine oP (by omega) ⟨D4,?_⟩;refine mM qU [(0,i64 6),(1,i64 (10+((h:Int) - 2))),(2,i64 (10+((h:Int) - 2))),(3,i64 (10+((h:Int) - 1)))] rfl rfl (qQ pL ?_);exact hk _ _ (jO rfl rfl) ((xx.trans x4).trans D4)
 ·simp only [aR,Int.reduceEq]
  intros
  refine iC hb6 gS rfl ?_;refine gV (x:=⟨7,a,b⟩) (show _<=h from Nat.zero_le _) (by omega) λv w4 hv x4=>?_;have hv:v=Value.nilIface:=hv;subst hv;refine V.ok (iG underlying43) (aM.2 ?_);have D4:aG w4 w4.drew:=(aG.refl _).drew;refine aL.mk' (λw'=>aG w4 w') D4 ?_;refine iB (λw' hw=>(hb6.ext x4).ext hw) aS aE rfl ?_;refine aF.ok (λw' _=>fG) ?_;rw [aQ (by omega)];refine aF.ok (λw' _=>fG) ?_;rw [aQ (by omega)];refine aF.ok (λw' _=>fG) ?_;rw [aQ (by omega)];refine oP (by omega) ⟨D4,?_⟩;refine oP (by omega) ⟨D4,?_⟩;refine oP (by omega) ⟨D4,?_⟩;refine mM qU [(0,i64 7),(1,i64 (10+((h:Int) - 2))),(2,i64 (10+((h:Int) - 2))),(3,i64 (10+((h:Int) - 1)))] rfl rfl (qQ pL ?_);exact hk _ _ (jO rfl rfl) ((xx.trans x4).trans D4)
 ·simp only [aR,Int.reduceEq]
  intros
  refine iC hb6 gS rfl ?_;refine gV (x:=⟨8,a,b⟩) (show _<=h from Nat.zero_le _) (by omega) λv w4 hv x4=>?_;have hv:v=Value.nilIface:=hv;subst hv;refine V.ok (iG underlying43) (aM.2 ?_);have D4:aG w4 w4.drew:=(aG.refl _).drew;refine aL.mk' (λw'=>aG w4 w') D4 ?_;refine iB (λw' hw=>(hb6.ext x4).ext hw) aS aE rfl ?_;refine aF.ok (λw' _=>fG) ?_;rw [aQ (by omega)];refine aF.ok (λw' _=>fG) ?_;rw [aQ (by omega)];refine aF.ok (λw' _=>fG) ?_;rw [aQ (by omega)];refine oP (by omega) ⟨D4,?_⟩;refine oP (by omega) ⟨D4,?_⟩;refine oP (by omega) ⟨D4,?_⟩;refine mM qU [(0,i64 8),(1,i64 (10+((h:Int) - 2))),(2,i64 (10+((h:Int) - 2))),(3,i64 (10+((h:Int) - 1)))] rfl rfl (qQ pL ?_);exact hk _ _ (jO rfl rfl) ((xx.trans x4).trans D4)
 ·simp only [aR,Int.reduceEq]
  intros
  refine iC hb6 gS rfl ?_;refine gV (x:=⟨9,a,b⟩) (show _<=h from Nat.zero_le _) (by omega) λv w4 hv x4=>?_;have hv:v=Value.nilIface:=hv;subst hv;refine V.ok (iG underlying43) (aM.2 ?_);have D4:aG w4 w4.drew:=(aG.refl _).drew;refine aL.mk' (λw'=>aG w4 w') D4 ?_;refine iB (λw' hw=>(hb6.ext x4).ext hw) aS aE rfl ?_;refine aF.ok (λw' _=>fG) ?_;rw [aQ (by omega)];refine aF.ok (λw' _=>fG) ?_;rw [aQ (by omega)];refine aF.ok (λw' _=>fG) ?_;rw [aQ (by omega)];refine oP (by omega) ⟨D4,?_⟩;refine oP (by omega) ⟨D4,?_⟩;refine oP (by omega) ⟨D4,?_⟩;refine mM qU [(0,i64 9),(1,i64 (10+((h:Int) - 2))),(2,i64 (10+((h:Int) - 2))),(3,i64 (10+((h:Int) - 1)))] rfl rfl (qQ pL ?_);exact hk _ _ (jO rfl rfl) ((xx.trans x4).trans D4)
 ·simp only [aR,Int.reduceEq]
  intros
  refine iC hb6 gS rfl ?_;refine gV (x:=⟨10,a,b⟩) (show _<=h from Nat.zero_le _) (by omega) λv w4 hv x4=>?_;have hv:v=Value.nilIface:=hv;subst hv;refine V.ok (iG underlying43) (aM.2 ?_);have D4:aG w4 w4.drew:=(aG.refl _).drew;refine aL.mk' (λw'=>aG w4 w') D4 ?_;refine iB (λw' hw=>(hb6.ext x4).ext hw) aS aE rfl ?_;refine aF.ok (λw' _=>fG) ?_;rw [aQ (by omega)];refine aF.ok (λw' _=>fG) ?_;rw [aQ (by omega)];refine aF.ok (λw' _=>fG) ?_;rw [aQ (by omega)];refine oP (by omega) ⟨D4,?_⟩;refine oP (by omega) ⟨D4,?_⟩;refine oP (by omega) ⟨D4,?_⟩;refine mM qU [(0,i64 10),(1,i64 (10+((h:Int) - 2))),(2,i64 (10+((h:Int) - 2))),(3,i64 (10+((h:Int) - 1)))] rfl rfl (qQ pL ?_);exact hk _ _ (jO rfl rfl) ((xx.trans x4).trans D4)
 ·simp only [aR,Int.reduceEq]
  intros
  refine iC hb6 gS rfl ?_;refine gV (x:=⟨11,a,b⟩) (show _<=h from Nat.zero_le _) (by omega) λv w4 hv x4=>?_;have hv:v=Value.nilIface:=hv;subst hv;refine V.ok (iG underlying43) (aM.2 ?_);have D4:aG w4 w4.drew:=(aG.refl _).drew;refine aL.mk' (λw'=>aG w4 w') D4 ?_;refine iB (λw' hw=>(hb6.ext x4).ext hw) aS aE rfl ?_;refine aF.ok (λw' _=>fG) ?_;rw [aQ (by omega)];refine aF.ok (λw' _=>fG) ?_;rw [aQ (by omega)];refine aF.ok (λw' _=>fG) ?_;rw [aQ (by omega)];refine oP (by omega) ⟨D4,?_⟩;refine oP (by omega) ⟨D4,?_⟩;refine oP (by omega) ⟨D4,?_⟩;refine mM qU [(0,i64 11),(1,i64 (10+((h:Int) - 2))),(2,i64 (10+((h:Int) - 2))),(3,i64 (10+((h:Int) - 1)))] rfl rfl (qQ pL ?_);exact hk _ _ (jO rfl rfl) ((xx.trans x4).trans D4)
 ·simp only [aR,Int.reduceEq]
  intros
  refine iC hb6 gS rfl ?_;refine gV (x:=⟨12,a,b⟩) (show _<=h from Nat.zero_le _) (by omega) λv w4 hv x4=>?_;have hv:v=Value.nilIface:=hv;subst hv;refine V.ok (iG underlying43) (aM.2 ?_);have D4:aG w4 w4.drew:=(aG.refl _).drew;refine aL.mk' (λw'=>aG w4 w') D4 ?_;refine iB (λw' hw=>(hb6.ext x4).ext hw) aS aE rfl ?_;refine aF.ok (λw' _=>fG) ?_;rw [aQ (by omega)];refine aF.ok (λw' _=>fG) ?_;rw [aQ (by omega)];refine aF.ok (λw' _=>fG) ?_;rw [aQ (by omega)];refine oP (by omega) ⟨D4,?_⟩;refine oP (by omega) ⟨D4,?_⟩;refine oP (by omega) ⟨D4,?_⟩;refine mM qU [(0,i64 12),(1,i64 (10+((h:Int) - 2))),(2,i64 (10+((h:Int) - 2))),(3,i64 (10+((h:Int) - 1)))] rfl rfl (qQ pL ?_);exact hk _ _ (jO rfl rfl) ((xx.trans x4).trans D4)
 ·simp only [aR,Int.reduceEq]
  intros
  refine iC hb6 gS rfl ?_;refine gV (x:=⟨13,a,b⟩) (show _<=h from Nat.zero_le _) (by omega) λv w4 hv x4=>?_;have hv:v=Value.nilIface:=hv;subst hv;refine V.ok (iG underlying43) (aM.2 ?_);have D4:aG w4 w4.drew:=(aG.refl _).drew;refine aL.mk' (λw'=>aG w4 w') D4 ?_;refine iB (λw' hw=>(hb6.ext x4).ext hw) aS aE rfl ?_;refine aF.ok (λw' _=>fG) ?_;rw [aQ (by omega)];refine aF.ok (λw' _=>fG) ?_;rw [aQ (by omega)];refine aF.ok (λw' _=>fG) ?_;rw [aQ (by omega)];refine oP (by omega) ⟨D4,?_⟩;refine oP (by omega) ⟨D4,?_⟩;refine oP (by omega) ⟨D4,?_⟩;refine mM qU [(0,i64 13),(1,i64 (10+((h:Int) - 2))),(2,i64 (10+((h:Int) - 2))),(3,i64 (10+((h:Int) - 1)))] rfl rfl (qQ pL ?_);exact hk _ _ (jO rfl rfl) ((xx.trans x4).trans D4)
 ·simp only [aR,Int.reduceEq]
  intros
  refine iC hb6 gS rfl ?_;refine gV (x:=⟨14,a,b⟩) (show _<=h from Nat.zero_le _) (by omega) λv w4 hv x4=>?_;have hv:v=Value.nilIface:=hv;subst hv;refine V.ok (iG underlying43) (aM.2 ?_);have D4:aG w4 w4.drew:=(aG.refl _).drew;refine aL.mk' (λw'=>aG w4 w') D4 ?_;refine iB (λw' hw=>(hb6.ext x4).ext hw) aS aE rfl ?_;refine aF.ok (λw' _=>fG) ?_;rw [aQ (by omega)];refine aF.ok (λw' _=>fG) ?_;rw [aQ (by omega)];refine aF.ok (λw' _=>fG) ?_;rw [aQ (by omega)];refine oP (by omega) ⟨D4,?_⟩;refine oP (by omega) ⟨D4,?_⟩;refine oP (by omega) ⟨D4,?_⟩;refine mM qU [(0,i64 14),(1,i64 (10+((h:Int) - 2))),(2,i64 (10+((h:Int) - 2))),(3,i64 (10+((h:Int) - 1)))] rfl rfl (qQ pL ?_);exact hk _ _ (jO rfl rfl) ((xx.trans x4).trans D4)
 ·simp only [aR,Int.reduceEq]
  intros
  refine aL.mk' (λw'=>aG w3 w') D1 ?_;refine iB (λw' hw=>hb6.ext hw) aS aE rfl ?_;refine aF.ok (λw' _=>fG) ?_;rw [aQ (by omega)];refine aF.ok (λw' _=>fG) ?_;rw [aQ (by omega)];refine oP (by omega) ⟨D1,?_⟩;refine oP (by omega) ⟨D1,?_⟩;refine mM VH [(0,i64 15),(1,i64 (10+((h:Int) - 1))),(2,i64 (10+((h:Int) - 1)))] rfl rfl (qQ JN ?_);exact hk _ _ (jO rfl rfl) xd
 ·simp only [aR,Int.reduceEq]
  intros
  refine aL.mk' (λw'=>aG w3 w') D1 ?_;refine iB (λw' hw=>hb6.ext hw) aS aE rfl ?_;refine aF.ok (λw' _=>fG) ?_;rw [aQ (by omega)];refine aF.ok (λw' _=>fG) ?_;rw [aQ (by omega)];refine oP (by omega) ⟨D1,?_⟩;refine oP (by omega) ⟨D1,?_⟩;refine mM VH [(0,i64 16),(1,i64 (10+((h:Int) - 1))),(2,i64 (10+((h:Int) - 1)))] rfl rfl (qQ JN ?_);exact hk _ _ (jO rfl rfl) xd
 ·simp only [aR,Int.reduceEq]
  intros
  refine iC hb6 gS rfl ?_;refine gV (x:=⟨17,a,b⟩) (show _<=h from ha) (by omega) λv w4 hv x4=>?_;obtain ⟨sv,rfl,hsv⟩:=(hv:kE w3.heap.size w4 v _);refine V.ok (gY underlying43) (bH.2 ?_);exact hk _ _ ⟨sv,rfl,aU hsv xx.size⟩ (xx.trans x4)
 ·simp only [aR,Int.reduceEq]
  intros
  refine iC hb6 gS rfl ?_;refine gV (x:=⟨18,a,b⟩) (show _<=h from ha) (by omega) λv w4 hv x4=>?_;obtain ⟨sv,rfl,hsv⟩:=(hv:kE w3.heap.size w4 v _);refine V.ok (gY underlying43) (bH.2 ?_);exact hk _ _ ⟨sv,rfl,aU hsv xx.size⟩ (xx.trans x4)
 ·simp only [aR,Int.reduceEq]
  intros
  refine iC hb6 gS rfl ?_;refine gV (x:=⟨19,a,b⟩) (show _<=h from Nat.zero_le _) (by omega) λv w4 hv x4=>?_;have hv:v=Value.nilIface:=hv;subst hv;refine V.ok (iG underlying43) (aM.2 ?_);have D4:aG w4 w4.drew:=(aG.refl _).drew;refine aL.mk' (λw'=>aG w4 w') D4 ?_;refine iB (λw' hw=>(hb6.ext x4).ext hw) aS aE rfl ?_;refine aF.ok (λw' _=>fG) ?_;rw [aQ (by omega)];refine aF.ok (λw' _=>fG) ?_;rw [aQ (by omega)];refine aF.ok (λw' _=>fG) ?_;rw [aQ (by omega)];refine oP (by omega) ⟨D4,?_⟩;refine oP (by omega) ⟨D4,?_⟩;refine oP (by omega) ⟨D4,?_⟩;refine mM qU [(0,i64 19),(1,i64 (10+((h:Int) - 2))),(2,i64 (10+((h:Int) - 2))),(3,i64 (10+((h:Int) - 1)))] rfl rfl (qQ pL ?_);exact hk _ _ (jO rfl rfl) ((xx.trans x4).trans D4)
 ·simp only [aR,Int.reduceEq]
  intros
  refine iC hb6 gS rfl ?_;refine gV (x:=⟨20,a,b⟩) (show _<=h from Nat.zero_le _) (by omega) λv w4 hv x4=>?_;have hv:v=Value.nilIface:=hv;subst hv;refine V.ok (iG underlying43) (aM.2 ?_);have D4:aG w4 w4.drew:=(aG.refl _).drew;refine aL.mk' (λw'=>aG w4 w') D4 ?_;refine iB (λw' hw=>(hb6.ext x4).ext hw) aS aE rfl ?_;refine aF.ok (λw' _=>fG) ?_;rw [aQ (by omega)];refine aF.ok (λw' _=>fG) ?_;rw [aQ (by omega)];refine aF.ok (λw' _=>fG) ?_;rw [aQ (by omega)];refine oP (by omega) ⟨D4,?_⟩;refine oP (by omega) ⟨D4,?_⟩;refine oP (by omega) ⟨D4,?_⟩;refine mM qU [(0,i64 20),(1,i64 (10+((h:Int) - 2))),(2,i64 (10+((h:Int) - 2))),(3,i64 (10+((h:Int) - 1)))] rfl rfl (qQ pL ?_);exact hk _ _ (jO rfl rfl) ((xx.trans x4).trans D4)
 ·simp only [aR,Int.reduceEq]
  intros
  refine iC hb6 gS rfl ?_;refine gV (x:=⟨21,a,b⟩) (show _<=h from Nat.zero_le _) (by omega) λv w4 hv x4=>?_;have hv:v=Value.nilIface:=hv;subst hv;refine V.ok (iG underlying43) (aM.2 ?_);have D4:aG w4 w4.drew:=(aG.refl _).drew;refine aL.mk' (λw'=>aG w4 w') D4 ?_;refine iB (λw' hw=>(hb6.ext x4).ext hw) aS aE rfl ?_;refine aF.ok (λw' _=>fG) ?_;rw [aQ (by omega)];refine aF.ok (λw' _=>fG) ?_;rw [aQ (by omega)];refine aF.ok (λw' _=>fG) ?_;rw [aQ (by omega)];refine oP (by omega) ⟨D4,?_⟩;refine oP (by omega) ⟨D4,?_⟩;refine oP (by omega) ⟨D4,?_⟩;refine mM qU [(0,i64 21),(1,i64 (10+((h:Int) - 2))),(2,i64 (10+((h:Int) - 2))),(3,i64 (10+((h:Int) - 1)))] rfl rfl (qQ pL ?_);exact hk _ _ (jO rfl rfl) ((xx.trans x4).trans D4)
 ·simp only [aR,Int.reduceEq]
  intros
  refine fT.2 ?_;rw [aQ (by omega)];refine oP (by omega) ?_;refine fT.2 ?_;rw [aQ (by omega)];refine oP (by omega) ?_;refine fT.2 ?_;rw [aQ (by omega)];refine oP (by omega) ?_;refine fT.2 ?_;rw [aQ (by omega)];refine oP (by omega) ?_;refine lF bGb [(0,i64 (10+((h:Int) - 3))),(1,i64 (10+((h:Int) - 3))),(2,i64 (10+((h:Int) - 2))),(3,i64 (10+((h:Int) - 1)))] rfl rfl (TW aHu ?_);exact hk _ _ (jO rfl rfl) xx
 ·simp only [aR,Int.reduceEq]
  intros
  refine aV hb6 aX aE rfl ?_;refine lF bGa [(0,i64 a)] rfl rfl (TW aHt ?_);exact hk _ _ (jO rfl rfl) xx
 ·simp only [aR,Int.reduceEq]
  intros
  refine aL.mk' (λw'=>aG w3 w') D1 ?_;refine aF.ok (λw' _=>fG) ?_;rw [aQ (by omega)];refine iB (λw' hw=>hb6.ext hw) aX aE rfl ?_;refine oP (by omega) ⟨D1,?_⟩;refine mM bFz [(0,i64 (10+((h:Int) - 1))),(1,i64 a)] rfl rfl (qQ TX ?_);exact hk _ _ (jO rfl rfl) xd
 ·simp only [aR,Int.reduceEq]
  intros
  refine oP (by omega) ?_;refine lF YR [(0,i64 (10+(h:Int)))] rfl rfl (TW XJ ?_);exact hk _ _ (jO rfl rfl) xx
 ·simp only [aR,Int.reduceEq]
  intros
  refine aL.mk' (λw'=>aG w3 w') D1 ?_;refine iB (λw' hw=>hb6.ext hw) aS aE rfl ?_;refine aF.ok (λw' _=>fG) ?_;rw [aQ (by omega)];refine aF.ok (λw' _=>fG) ?_;rw [aQ (by omega)];refine oP (by omega) ⟨D1,?_⟩;refine oP (by omega) ⟨D1,?_⟩;refine mM VH [(0,i64 26),(1,i64 (10+((h:Int) - 1))),(2,i64 (10+((h:Int) - 1)))] rfl rfl (qQ JN ?_);exact hk _ _ (jO rfl rfl) xd
 ·simp only [aR,Int.reduceEq]
  intros
  refine iC hb6 gS rfl ?_;refine gV (x:=⟨27,a,b⟩) (show _<=h from ha) (by omega) λv w4 hv x4=>?_;obtain ⟨sv,rfl,hsv⟩:=(hv:kE w3.heap.size w4 v _);refine V.ok (gY underlying43) (bH.2 ?_);exact hk _ _ ⟨sv,rfl,aU hsv xx.size⟩ (xx.trans x4)
 ·simp only [aR,Int.reduceEq]
  intros
  refine iC hb6 gS rfl ?_;refine gV (x:=⟨28,a,b⟩) (show _<=h from ha) (by omega) λv w4 hv x4=>?_;obtain ⟨sv,rfl,hsv⟩:=(hv:kE w3.heap.size w4 v _);refine V.ok (gY underlying43) (bH.2 ?_);exact hk _ _ ⟨sv,rfl,aU hsv xx.size⟩ (xx.trans x4)
 ·simp only [aR,Int.reduceEq]
  intros
  refine iC hb6 gS rfl ?_;refine gV (x:=⟨29,a,b⟩) (show _<=h from ha) (by omega) λv w4 hv x4=>?_;obtain ⟨sv,rfl,hsv⟩:=(hv:kE w3.heap.size w4 v _);refine V.ok (gY underlying43) (bH.2 ?_);exact hk _ _ ⟨sv,rfl,aU hsv xx.size⟩ (xx.trans x4)
 ·simp only [aR,Int.reduceEq]
  intros
  refine iC hb6 gS rfl ?_;refine gV (x:=⟨30,a,b⟩) (show _<=h from ha) (by omega) λv w4 hv x4=>?_;obtain ⟨sv,rfl,hsv⟩:=(hv:kE w3.heap.size w4 v _);refine V.ok (gY underlying43) (bH.2 ?_);exact hk _ _ ⟨sv,rfl,aU hsv xx.size⟩ (xx.trans x4)
 ·simp only [aR,Int.reduceEq]
  intros
  refine iC hb6 gS rfl ?_;refine gV (x:=⟨31,a,b⟩) (show _<=h from ha) (by omega) λv w4 hv x4=>?_;obtain ⟨sv,rfl,hsv⟩:=(hv:kE w3.heap.size w4 v _);refine V.ok (gY underlying43) (bH.2 ?_);exact hk _ _ ⟨sv,rfl,aU hsv xx.size⟩ (xx.trans x4)
 ·simp only [aR,Int.reduceEq]
  intros
  refine iC hb6 gS rfl ?_;refine gV (x:=⟨32,a,b⟩) (show _<=h from ha) (by omega) λv w4 hv x4=>?_;obtain ⟨sv,rfl,hsv⟩:=(hv:kE w3.heap.size w4 v _);refine V.ok (gY underlying43) (bH.2 ?_);exact hk _ _ ⟨sv,rfl,aU hsv xx.size⟩ (xx.trans x4)
 ·simp only [aR,Int.reduceEq]
  intros
  refine aL.mk' (λw'=>aG w3 w') D1 ?_;refine iB (λw' hw=>hb6.ext hw) aX aE rfl ?_;refine oP (by omega) ⟨D1,?_⟩;refine mM bFy [(0,i64 (10+(h:Int))),(1,i64 a)] rfl rfl (qQ bDv ?_);exact hk _ _ (jO rfl rfl) xd
 ·simp only [aR,Int.reduceEq]
  intros
  refine aL.mk' (λw'=>aG w3 w') D1 ?_;refine iB (λw' hw=>hb6.ext hw) aX aE rfl ?_;refine aF.ok (λw' _=>fG) ?_;rw [aQ (by omega)];refine oP (by omega) ⟨D1,?_⟩;refine mM bFx [(0,i64 a),(1,i64 (10+((h:Int) - 1)))] rfl rfl (qQ aHs ?_);exact hk _ _ (jO rfl rfl) xd
 ·simp only [aR,Int.reduceEq]
  intros
  refine aL.mk' (λw'=>aG w3 w') D1 ?_;refine iB (λw' hw=>hb6.ext hw) aX aE rfl ?_;refine aF.ok (λw' _=>lU underlying3 underlying21) ?_;refine oP (by omega) ⟨D1,?_⟩;refine mM YR [(0,i64 (10+(h:Int))),(1,i32 (IntKind.i32.wrap a))] rfl rfl (qQ XJ ?_);exact hk _ _ (jO rfl rfl) xd
 ·simp only [aR,Int.reduceEq]
  intros
  refine iC hb6 gS rfl ?_;refine gV (x:=⟨36,a,b⟩) (show _<=h from ha) (by omega) λv w4 hv x4=>?_;obtain ⟨sv,rfl,hsv⟩:=(hv:kE w3.heap.size w4 v _);refine V.ok (gY underlying43) (bH.2 ?_);exact hk _ _ ⟨sv,rfl,aU hsv xx.size⟩ (xx.trans x4)
 ·simp only [aR,Int.reduceEq]
  intros
  have a1:0<=a:=a1;have hn:a < (i.methods.length:Int):=hn;have ha:(i.meth a).params.length<=h:=ha;refine aV hb4 bP dN rfl (aV hb6 aX aE rfl ?_);obtain ⟨ka,rfl⟩:∃ ka:Nat,a=ka:=⟨a.toNat,by omega⟩;have hmi:=gI a1 hn;rw [Int.toNat_natCast] at hmi;refine XL iF nW hA.mt hmi pX λrow hrow=>?_;obtain ⟨pv9,lv9,cv9,rfl,hp9,_,_⟩:=hrow;obtain ⟨a7,c7,rfl⟩:=hp9.shape
  rename_i hl9 hc9
  obtain ⟨a8,c8,rfl⟩:=hl9.shape;obtain ⟨a9,c9,rfl⟩:=aA.shape hc9;refine sG DB rfl rfl λb9 w9 hb9 x9=>?_;have hb9:bF w9 b9 [.slice a7 (i.meth (ka:Int)).params.length c7,i64 (i.meth (ka:Int)).result,.slice a8 (i.meth (ka:Int)).locals.length c8,.slice a9 (i.meth (ka:Int)).code.length c9]:=hb9;have D9:aG w9 w9.drew:=(aG.refl _).drew;have xd9:=(xx.trans x9).trans D9;have hp9:=(hp9.ext x9).ext D9;refine aL.mk' (λw'=>aG w9 w') D9 ?_;refine iB (λw' hw=>(hb6.ext x9).ext hw) aX aE rfl ?_;refine iB (λw' hw=>hb9.ext hw) gG aE rfl ?_;refine iB (λw' hw=>hb9.ext hw) dM bE rfl (sZ aP hp9 ?_);refine aF.ok (λw' _=>fG) ?_;rw [aQ (by omega)];refine iB (λw' hw=>hb9.ext hw) dM bE rfl (sZ aP hp9 ?_);refine DK (by omega) ⟨D9,?_⟩;refine aGg ha (by omega) λv w10 ho10 x10=>⟨D9.trans x10,?_⟩;refine mM bFv [(0,i64 (ka:Nat)),(1,i64 _),(2,v)] rfl (by simp [fV ho10,rR]) (qQ bDt ?_);exact hk _ _ ⟨v,rfl,aU ho10 xd9.size⟩ (xd9.trans x10)
 ·simp only [aR,Int.reduceEq]
  intros
  have a1:0<=a:=a1;have hn:a < (i.imports.length:Int):=hn;have ha:(i.imp a).params.length<=h:=ha;refine aV hb4 fP iT rfl (aV hb6 aX aE rfl ?_);obtain ⟨ka,rfl⟩:∃ ka:Nat,a=ka:=⟨a.toNat,by omega⟩;have hmi:=tY a1 hn;rw [Int.toNat_natCast] at hmi;refine XL oD JV hA.im hmi CD λrow hrow=>?_;obtain ⟨pv9,rfl,hp9⟩:=hrow;obtain ⟨a7,c7,rfl⟩:=hp9.shape;refine sG aGc rfl rfl λb9 w9 hb9 x9=>?_;have hb9:bF w9 b9 [.string (i.imp (ka:Int)).name,i64 (i.imp (ka:Int)).exp,.slice a7 (i.imp (ka:Int)).params.length c7,i64 (i.imp (ka:Int)).result]:=hb9;have D9:aG w9 w9.drew:=(aG.refl _).drew;have xd9:=(xx.trans x9).trans D9;have hp9:=(hp9.ext x9).ext D9;refine aL.mk' (λw'=>aG w9 w') D9 ?_;refine iB (λw' hw=>(hb6.ext x9).ext hw) aX aE rfl ?_;refine iB (λw' hw=>hb9.ext hw) cF aE rfl ?_;refine iB (λw' hw=>hb9.ext hw) bY bE rfl (sZ aP hp9 ?_);refine aF.ok (λw' _=>fG) ?_;rw [aQ (by omega)];refine iB (λw' hw=>hb9.ext hw) bY bE rfl (sZ aP hp9 ?_);refine DK (by omega) ⟨D9,?_⟩;refine aGg ha (by omega) λv w10 ho10 x10=>⟨D9.trans x10,?_⟩;refine mM bFu [(0,i64 (ka:Nat)),(1,i64 _),(2,v)] rfl (by simp [fV ho10,rR]) (qQ bDs ?_);exact hk _ _ ⟨v,rfl,aU ho10 xd9.size⟩ (xd9.trans x10)
 ·simp only [aR,Int.reduceEq]
  intros
  refine aV hb5 gG aE rfl ?_;refine fT.2 ?_;rw [aQ (by omega)];refine DK (by omega) ?_;refine lF bFt [(0,i64 _)] rfl rfl (TW bDr ?_);exact hk _ _ (jO rfl rfl) xx
def sA (st:List Int):aD->aD
 | .goto t=>.goto (cN st t.toNat)
 | .branch c t=>.branch c (cN st t.toNat)
 | n=>n
def FI (st:List Int):aD->Prop
 | .goto t=>0<=t/\t < st.length
 | .branch _ t=>0<=t/\t < st.length
 | _=>True
theorem aSu {av sv:Y} {st:List Int} (hs:aO w sv st) (hb:FI st n) (hk:∀ w',aG w w'->K ((sA st n).val av) w'):aB prog 27 #[n.val av,sv] w K:=by
 apply bJh;unfold zR
 have other:∀ {t:Nat} {c:Array Y},t≠115->t≠117->n.val av=.iface t (.agg c)->sA st n=n->zR (n.val av) sv w K:=λh1 h2 he h3=>by
  unfold zR;rw [he];refine tm eE h1 λ_ _ _=>?_;refine tm eU h2 λ_ _ _=>?_;rw [h3,he] at hk;exact hk _ (aG.refl _)
 unfold zR at other;cases n with
 | goto t=>
  obtain ⟨h0,h1⟩:=hb;refine th eE ?_;refine tH tN rfl rfl λw1 hB x1=>?_;have hB:bO w1 w.heap.size [i64 t] 115:=hB;refine aV (bO.boxed hB) bW aE rfl ?_;obtain ⟨t,rfl⟩:∃ q:Nat,t=q:=⟨t.toNat,by omega⟩;refine mH aP aE (hs.ext x1) (by omega) (by omega) (cM (lQ (by omega))) ?_;refine FZ bW bT hB (n:=1) rfl (by decide) rfl ?_;have hB2:=hB.set 0 (i64 (cN st t));have x2:aG w (w1.setCell ⟨w.heap.size,0,none⟩ (i64 (cN st t))):=x1.setCell (Nat.le_refl _) _;generalize w1.setCell ⟨w.heap.size,0,none⟩ (i64 (cN st t))=w2 at hB2 x2;refine iC (bO.boxed hB2) bEd rfl (TW aHt ?_);exact hk _ x2
 | branch c t=>
  obtain ⟨h0,h1⟩:=hb;refine tm eE (by decide) λ_ _ _=>?_;refine th eU ?_;refine tH tM rfl rfl λw1 hB x1=>?_;have hB:bO w1 w.heap.size [i64 c,i64 t] 117:=hB;refine aV (bO.boxed hB) bV aE rfl ?_;obtain ⟨t,rfl⟩:∃ q:Nat,t=q:=⟨t.toNat,by omega⟩;refine mH aP aE (hs.ext x1) (by omega) (by omega) (cM (lQ (by omega))) ?_;refine FZ bV bT hB (n:=2) rfl (by decide) rfl ?_;have hB2:=hB.set 1 (i64 (cN st t));have x2:aG w (w1.setCell ⟨w.heap.size,1,none⟩ (i64 (cN st t))):=x1.setCell (Nat.le_refl _) _;generalize w1.setCell ⟨w.heap.size,1,none⟩ (i64 (cN st t))=w2 at hB2 x2;refine iC (bO.boxed hB2) aIh rfl (TW TX ?_);exact hk _ x2
 | _=>exact other (by decide) (by decide) rfl rfl
end Go.Proofs.YtjcmcfidblhnnaaGreatDoor
namespace Go.Tc
def cf (r:List Bool):Nat:=r.countP (· == false)
theorem bFm {r:List Bool} {k:Nat} (hk:k < r.length) (h:r.getD k false=false):cf (r.set k true)+1=cf r:=by
 have e:r[k]=false:=by
  rw [List.getD_eq_getElem?_getD,List.getElem?_eq_getElem hk] at h;exact h
 have h1:0 < r.countP (· == false):=List.countP_pos_iff.2 ⟨r[k],List.getElem_mem hk,by rw [e];rfl⟩
 have h2:(r.set k true).countP (· == false)=r.countP (· == false) - 1+0:=by
  rw [List.countP_set hk,e];rfl
 unfold cf;omega
def aHb (x:lT) (pc:Nat):List Int:=(if x.op=23\/x.op=24 then [x.a] else [])++(if x.op≠23/\x.op≠39 then [(pc:Int)+1] else [])
theorem aHa {x:lT} {pc:Nat} {t:Int}:t∈aHb x pc↔t∈fN x pc:=by
 unfold aHb fN;by_cases c1:x.op=23
 ·simp [c1]
 by_cases c2:x.op=24
 ·simp [c2];exact Or.comm
 by_cases c3:x.op=39
 ·simp [c3]
 ·simp [c1,c2,c3]
end Go.Tc
namespace Go.Proofs.YtjcmcfidblhnnaaGreatDoor
open Tryz
open Go.Vc Go.Tc
variable {w:O} {K:Y->O->Prop}
variable {i:iA} {m:jR} {np:Int} {nv tv:Y} {x:lT} {α:Type}
structure IL (i:iA) (m:jR) (st:St) (l:List Int) (r:List Bool):Prop where
 rl:r.length=m.code.length
 ls:∀ t∈l,0<=t/\t < m.code.length/\st.h t.toNat=true
 rs:∀ k,r.getD k false=true->st.h k=true
 z:r.getD 0 false=true\/(0:Int)∈l
 cl:∀ k,r.getD k false=true->∀ to∈fN (m.ins k) k,r.getD to.toNat false=true\/to∈l
 bd:3*cf r+l.length<=3*m.code.length+1
structure Rm (gr:Nat) (w3 w:O) (v:Y) (l:List Int) (r:List Bool):Prop where
 own:w.ownsRow (gr+1) 3 1 v l.length (l.map i64)
 sh:∃ a c,v=.slice (some ⟨a,0,none⟩) l.length c
 blk:bO w gr (r.map .bool) 4
 fr:Fr (λk=>gr<=k) w3 w
theorem Rm.ext {gr:Nat} {w3 w':O} {v:Y} {l:List Int} {r:List Bool} (h:Rm gr w3 w v l r) (hx:aG w w'):Rm gr w3 w' v l r:=⟨hx.own h.own,h.sh,h.blk.ext hx,h.fr.trans (Fr.of_ext hx) λ_ _ h=>h⟩
theorem Rm.push {gr:Nat} {w3:O} {v:Y} {l:List Int} {r:List Bool} {t:Int} (h:Rm gr w3 w v l r) (hl:l.length<=100000) (hk:∀ v' w',Rm gr w3 w' v' (l++[t]) r->Fr (λk=>v.ownBlock=some k) w w'->K v' w') :
  V prog (Instr.buildSlice 23 1 #[(0,i64 t)]) w λu w1=>V prog (Builtin.append_ #[23,23] 23 #[v,u]) w1 K:=by
 refine jG bB [i64 t] rfl rfl (by simp) rfl λu w1 ho1 x1=>?_;have h1:=h.ext x1;have hB:=h1.blk.lt;refine LD bB h1.own (aA.of_own ho1) rfl (by omega) (by unfold maxLen;omega) (by omega) λv2 w2 ho2 hg2=>?_;have hlo:∀ k,v.ownBlock=some k->gr+1<=k:=λk hk=>(h.own.lt k hk).1;have f2:Fr (λk=>v.ownBlock=some k) w1 w2:=Fr.of_grown hg2 λk hk=>hk;have ho2:w2.ownsRow (gr+1) 3 1 v2 (l++[t]).length ((l++[t]).map i64):=by simpa using ho2
 refine hk v2 w2 ⟨ho2,?_,f2.blk h1.blk λhk=>by have:=hlo _ hk;omega,h1.fr.trans (f2.mono λk hk=>by have:=hlo k hk;omega) λ_ _ h=>h⟩ ((Fr.of_ext x1).trans f2 λ_ _ h=>h);rcases ho2.2 with ⟨_,e⟩|⟨g,cap,_,rfl,_⟩
 ·simp at e
 ·exact ⟨_,_,rfl⟩
theorem aCy {row:List Y} {st:St} (hrow:mF w row m) (hn1:1<=m.code.length) (hn2:m.code.length<=120) (h0:st.h 0=true) (hled:∀ k,st.h k=true->Led i m st k) (_:WF m st)
  (hk:∀ g r w',bO w' g (r.map .bool) 4->w.heap.size<=g->IL i m st [] r->aG w w'->K (.slice (some ⟨g,0,none⟩) m.code.length m.code.length) w'):aB prog 25 #[.agg row.toArray] w K:=by
 obtain ⟨pv,lv,cv,rfl,hp,hl,hc⟩:=hrow;apply bJj;unfold aBq;refine bx λb1 w1 hb1 x1=>?_;have hb1:bF w1 b1 [pv,i64 m.result,lv,cv]:=hb1;refine aV hb1 cC hU rfl (gE kQ (hc.ext x1) ?_);refine mkB underlying95 lE rfl (by omega) (by omega) λw2 hB2 x2 z2=>?_;have hgr:w.heap.size<=w1.heap.size:=x1.size;generalize hgr1:w1.heap.size=gr at hB2 z2 hgr;refine jG bB [i64 0] rfl rfl (by simp) rfl λv3 w3 ho3 x3=>?_;have x13:=x2.trans x3;have hb3:=hb1.ext x13;have hc3:=hc.ext (x1.trans x13);have x03:=x1.trans x13;have hB3:=hB2.ext x3;have cf0:cf (List.replicate m.code.length false)=m.code.length:=by simp [cf,List.countP_replicate]
 have gd0:∀ k,(List.replicate m.code.length false).getD k false=false:=λk=>by
  simp only [List.getD_eq_getElem?_getD,List.getElem?_replicate];split<;>rfl
 have ini:Rm gr w3 w3 v3 [0] (List.replicate m.code.length false)/\IL i m st [0] (List.replicate m.code.length false):=by
  refine ⟨⟨aU ho3 (by omega),?_,by simpa using hB3,Fr.refl _ _⟩,by simp,λt ht=>?_,λk hk=>?_,.inr (by simp),λk hk=>?_,by rw [cf0];simp⟩
  ·rcases ho3.2 with ⟨_,e⟩|⟨g,cap,_,rfl,_⟩
   ·cases e
   ·exact ⟨_,_,rfl⟩
  ·rw [List.mem_singleton] at ht;subst ht;exact ⟨by omega,by omega,h0⟩
  iterate 2
   ·rw [gd0] at hk;cases hk
 refine ⟨λt w'=>∃ l r,Rm gr w3 w' t l r/\IL i m st l r,λt w'=>mu λq=>∃ l r,(Rm gr w3 w' t l r/\IL i m st l r)/\3*cf r+l.length=q,⟨_,_,ini⟩,?_⟩;rintro t w4 ⟨l0,r0,hh0⟩ _;obtain ⟨l,r,⟨M,R⟩,hmu⟩:=yO (p:=λq=>∃ l r,(Rm gr w3 w4 t l r/\IL i m st l r)/\3*cf r+l.length=q) ⟨_,l0,r0,hh0,rfl⟩;clear hh0 l0 r0;obtain ⟨ga,cap,rfl⟩:=M.sh;have ho:=M.own;have hbd:=R.bd;have hrl:=R.rl
 have step:∀ {t':Y} {w':O} {l':List Int} {r':List Bool},Rm gr w3 w' t' l' r'->IL i m st l' r'->3*cf r'+l'.length < 3*cf r+l.length->(∃ l r,Rm gr w3 w' t' l r/\IL i m st l r)/\mu (λq=>∃ l r,(Rm gr w3 w' t' l r/\IL i m st l r)/\3*cf r+l.length=q) < mu (λq=>∃ l' r,(Rm gr w3 w4 (.slice (some ⟨ga,0,none⟩) l.length cap) l' r/\IL i m st l' r)/\3*cf r+l'.length=q):=λh1 h2 h3=>⟨⟨_,_,h1,h2⟩,by
  rw [<- hmu];exact Nat.lt_of_le_of_lt (MP ⟨_,_,⟨h1,h2⟩,rfl⟩) h3⟩
 refine gE aP (aA.of_own ho) (jF.2 (aC (λhgt=>?_) λhle=>?_))
 case refine_2=>
  have:l=[]:=List.eq_nil_of_length_eq_zero (by omega);subst this;exact hk gr r w4 M.blk hgr R (M.fr.ext x03 λk hk=>by omega)
 refine gE aP (aA.of_own ho) (fT.2 ?_);rw [aQ (by omega),show (l.length:Int) - 1=((l.length - 1:Nat):Int) by omega];have hlm:=lQ (l:=l) (j:=l.length - 1) (by omega);refine JT aP aE ho (by omega) (by omega) (cM hlm) ?_;obtain ⟨t0,t1,t2⟩:=R.ls _ (List.mem_of_getElem? hlm)
 have hsplit:l=l.take (l.length - 1)++[cN l (l.length - 1)]:=by
  have:=List.take_add_one (l:=l) (i:=l.length - 1);rw [hlm] at this;simp only [Option.toList_some] at this;rw [<- this,List.take_of_length_le (by omega)]
 obtain ⟨pc,hpc⟩:∃ pc:Nat,cN l (l.length - 1)=pc:=⟨(cN l (l.length - 1)).toNat,by omega⟩;rw [hpc] at t0 t1 t2 hsplit ⊢;rw [Int.toNat_natCast] at t2;have hlen2:(l.take (l.length - 1)).length=l.length - 1:=by simp
 refine gE aP (aA.of_own ho) (fT.2 ?_);rw [aQ (by omega),show (l.length:Int) - 1=((l.length - 1:Nat):Int) by omega];refine slO underlying23 bT (by decide) ho (by omega) (by omega) λho2=>?_;rw [Nat.mul_one,<- List.map_take] at ho2;generalize hl2:l.take (l.length - 1)=l2 at *;have M2:Rm gr w3 w4 (.slice (some ⟨ga,0,none⟩) (l.length - 1) cap) l2 r:=⟨by rw [hlen2];exact ho2,⟨ga,cap,by rw [hlen2]⟩,M.blk,M.fr⟩
 have hin:∀ t,t∈l->t∈l2\/t=pc:=λt ht=>by
  rw [hsplit] at ht;rcases List.mem_append.1 ht with h|h
  ·exact .inl h
  ·rw [List.mem_singleton] at h;exact .inr h
 have hin2:∀ t,t∈l2->t∈l:=λt ht=>by rw [hsplit];exact List.mem_append_left _ ht
 have hsl:aA w4 (.slice (some ⟨gr,0,none⟩) m.code.length m.code.length) 1 m.code.length (r.map .bool):=M.blk.slice (by simpa using hrl) (by unfold maxLen;omega);refine mH hO oM hsl (by omega) (by omega) (EV (by omega)) ?_;cases hr:r.getD pc false with
 | true=>
  refine bH.2 (step M2 ⟨hrl,λt ht=>R.ls t (hin2 t ht),R.rs,?_,λk hk to hto=>?_,by omega⟩ (by omega))
  ·rcases R.z with h|h
   ·exact .inl h
   ·rcases hin _ h with h|h
    ·exact .inr h
    ·left;have:pc=0:=by omega
     rw [<- this];exact hr
  ·rcases R.cl k hk to hto with h|h
   ·exact .inl h
   ·rcases hin _ h with h|h
    ·exact .inr h
    ·left;subst h;rw [Int.toNat_natCast];exact hr
 | false=>
 refine aM.2 ?_;refine WH hO lE M2.blk (n:=m.code.length) (by simpa using hrl) (by omega) (by omega) rfl ?_;rw [Int.toNat_natCast]
 have M3:Rm gr w3 (w4.setCell ⟨gr,pc,none⟩ (.bool true)) (.slice (some ⟨ga,0,none⟩) (l.length - 1) cap) l2 (r.set pc true):=by
  refine ⟨(Fr.of_set (S:=λk=>k=gr) rfl).own M2.own λk hk he=>by have:=(M2.own.lt k hk).1;omega,M2.sh,?_,M2.fr.set (Nat.le_refl _)⟩;have:=M2.blk.set pc (.bool true)
  rwa [<- List.map_set] at this
 generalize w4.setCell ⟨gr,pc,none⟩ (.bool true)=w5 at M3;have x15:aG w1 w5:=M3.fr.ext x13 λk hk=>by omega
 have x05:=x1.trans x15;refine aV (hb1.ext x15) cC hU rfl ?_;have hxi:=qL (m:=m) (k:=pc) (by omega);refine ldI (hc.ext x05) hxi ?_;refine tH WL rfl rfl λw6 hB6 x6=>?_;have hB6:bO w6 w5.heap.size [i64 (m.ins pc).op,i64 (m.ins pc).a,i64 (m.ins pc).b] 88:=hB6;have hga5:=(M3.own.lt ga rfl).2;have hb6:=bO.boxed hB6;have M6:=M3.ext x6;have hcf:=bFm (r:=r) (k:=pc) (by omega) hr
 have fin:∀ {v:Y} {w':O} {l3:List Int},Rm gr w3 w' v (l2++l3) (r.set pc true)->(∀ t,t∈l3↔t∈fN (m.ins pc) pc)->l3.length<=2->Rm gr w3 w' v (l2++l3) (r.set pc true)/\IL i m st (l2++l3) (r.set pc true)/\3*cf (r.set pc true)+(l2++l3).length < 3*cf r+l.length:=by
  intro v w' l3 hM hl3 hle;obtain ⟨out,_,hout⟩:=hled pc t2;have hlen:(l2++l3).length=l2.length+l3.length:=List.length_append
  have hgs:∀ k,(r.set pc true).getD k false=true↔k=pc\/r.getD k false=true:=λk=>by
   rw [lK];by_cases hkp:k=pc
   ·rw [if_pos ⟨hkp,by omega⟩];simp [hkp]
   ·rw [if_neg λh=>hkp h.1];simp [hkp]
  refine ⟨hM,⟨by simpa using hrl,λt ht=>?_,λk hk=>?_,?_,λk hk to hto=>?_,by omega⟩,by omega⟩
  ·rcases List.mem_append.1 ht with h|h
   ·exact R.ls t (hin2 t h)
   ·obtain ⟨q1,q2,q3,_⟩:=hout t ((hl3 t).1 h);exact ⟨q1,q2,q3⟩
  ·rcases (hgs k).1 hk with h|h
   ·rw [h];exact t2
   ·exact R.rs k h
  ·rcases R.z with h|h
   ·exact .inl ((hgs 0).2 (.inr h))
   ·rcases hin _ h with h|h
    ·exact .inr (List.mem_append_left _ h)
    ·exact .inl ((hgs 0).2 (.inl (by omega)))
  ·rcases (hgs k).1 hk with h|h
   ·subst h;exact .inr (List.mem_append_right _ ((hl3 to).2 hto))
   ·rcases R.cl k h to hto with h|h
    ·exact .inl ((hgs _).2 (.inr h))
    ·rcases hin _ h with h|h
     ·exact .inr (List.mem_append_left _ h)
     ·exact .inl ((hgs _).2 (.inl (by omega)))
 have hpm:=λt=>aHa (x:=m.ins pc) (pc:=pc) (t:=t);unfold aHb at hpm;obtain ⟨A,hA⟩:∃ A,A=(if (m.ins pc).op=23\/(m.ins pc).op=24 then [(m.ins pc).a] else []):=⟨_,rfl⟩;obtain ⟨C,hC⟩:∃ C,C=(if (m.ins pc).op≠23/\(m.ins pc).op≠39 then [(pc:Int)+1] else []):=⟨_,rfl⟩;rw [<- hA,<- hC] at hpm;have hAl:A.length<=1:=by rw [hA];split<;>simp
 have hCl:C.length<=1:=by rw [hC];split<;>simp
 have fin2:∀ {v:Y} {w':O},Rm gr w3 w' v (l2++A++C) (r.set pc true)->(∃ l r,Rm gr w3 w' v l r/\IL i m st l r)/\mu (λq=>∃ l r,(Rm gr w3 w' v l r/\IL i m st l r)/\3*cf r+l.length=q) < mu (λq=>∃ l' r,(Rm gr w3 w4 (.slice (some ⟨ga,0,none⟩) l.length cap) l' r/\IL i m st l' r)/\3*cf r+l'.length=q):=λhM=>by
  rw [List.append_assoc] at hM;obtain ⟨f1,f2,f3⟩:=fin hM hpm (by rw [List.length_append];omega);exact step f1 f2 f3
 clear fin hpm;refine ⟨λv w'=>Rm gr w3 w' v (l2++A) (r.set pc true)/\bF w' w5.heap.size [i64 (m.ins pc).op,i64 (m.ins pc).a,i64 (m.ins pc).b],?_,?_⟩
 ·have psh:(m.ins pc).op=23\/(m.ins pc).op=24->V prog (Instr.buildSlice 23 1 #[(0,i64 (m.ins pc).a)]) w6 λu w1=>V prog (Builtin.append_ #[23,23] 23 #[.slice (some ⟨ga,0,none⟩) (l.length - 1) cap,u]) w1 λv w'=>Rm gr w3 w' v (l2++A) (r.set pc true)/\bF w' w5.heap.size [i64 (m.ins pc).op,i64 (m.ins pc).a,i64 (m.ins pc).b]:=λhop=>by
   refine M6.push (by omega) λv' w' hM hF=>⟨?_,bO.boxed (hF.blk hB6 λhk=>?_)⟩
   ·rw [hA,if_pos hop];exact hM
   ·have hk:some ga=some w5.heap.size:=hk;rw [Option.some.injEq] at hk;omega
  refine aV hb6 aS aE rfl (aJ.2 ?_);by_cases c1:(m.ins pc).op=23
  ·simp only [c1,aR];rw [<- c1];exact aV hb6 aX aE rfl (psh (.inl c1))
  simp only [c1,aR];refine aV hb6 aS aE rfl (aJ.2 ?_);by_cases c2:(m.ins pc).op=24
  ·simp only [c2,aR];rw [<- c2];exact aV hb6 aX aE rfl (psh (.inr c2))
  simp only [c2,aR];refine ⟨?_,hb6⟩;have hA0:A=[]:=by rw [hA,if_neg (by simp [c1,c2])]
  rw [hA0,List.append_nil];exact M6
 rintro v7 w7 ⟨M7,hb7⟩ _;refine aV hb7 aS aE rfl (cL.2 ?_);have hl2a:(l2++A).length<=100000:=by rw [List.length_append];omega
 by_cases c1:(m.ins pc).op=23
 ·simp only [c1,aR];refine fin2 ?_;have hC0:C=[]:=by rw [hC,if_neg (by simp [c1])]
  rw [hC0,List.append_nil];exact M7
 simp only [c1,aR];refine aV hb7 aS aE rfl (cL.2 ?_);by_cases c2:(m.ins pc).op=39
 ·simp only [c2,aR];refine fin2 ?_;have hC0:C=[]:=by rw [hC,if_neg (by simp [c2])]
  rw [hC0,List.append_nil];exact M7
 simp only [c2,aR];refine bJ.2 ?_;rw [aQ (by omega)];refine M7.push hl2a λv8 w8 M8 _=>fin2 ?_;have hC1:C=[(pc:Int)+1]:=by rw [hC,if_pos ⟨c1,c2⟩]
 rw [hC1];exact M8
def aW (i:iA) (m:jR) (st:St) (r:List Bool):Nat->List aD × List Int
 | 0=>((List.range m.locals.length).map λ(j:Nat)=>aD.const ((m.params.length:Int)+((j:Nat):Int)) 0,[])
 | k+1=>
  let p:=aW i m st r k
  if r.getD k false then (p.1++.tick::(iH i m (m.ins k) (st.s k).length).toList,p.2++[(p.1.length:Int)]) else (p.1,p.2++[-1])
def lS (i:iA) (m:jR) (st:St) (r:List Bool):List aD:=let p:=aW i m st r m.code.length;p.1.map (sA p.2)
def VP (g:Nat) (nv tv:Y) (w:O) (u:Y) (n:aD):Prop:=∃ sv,u=n.val sv/\w.ownsRow (g+1) 3 1 sv n.args.length (n.args.map i64)/\∀ q,sv.ownBlock=some q->nv.ownBlock≠some q/\tv.ownBlock≠some q
structure Lp (g:Nat) (np:Int) (nv tv:Y) (w:O) (N:List aD) (T:List Int):Prop where
 blk:bO w g [i64 np,i64 18,nv] 33
 row:∃ xs:List Y,w.ownsRow (g+1) 43 1 nv N.length xs/\∀ (k:Nat) n,N[k]?=some n->∃ u,xs[k]?=some u/\VP g nv tv w u n
 st:w.ownsRow (g+1) 3 1 tv T.length (T.map i64)
 ne:∀ q,nv.ownBlock=some q->tv.ownBlock≠some q
theorem Lp.ext {g:Nat} {np:Int} {nv tv:Y} {w':O} {N:List aD} {T:List Int} (h:Lp g np nv tv w N T) (hx:aG w w'):Lp g np nv tv w' N T:=by
 obtain ⟨h1,⟨xs,h2,h3⟩,h8,h9⟩:=h;refine ⟨h1.ext hx,⟨xs,hx.own h2,λk n hk=>?_⟩,hx.own h8,h9⟩;obtain ⟨u,h4,sv,h5,h6,h7⟩:=h3 k n hk;exact ⟨u,h4,sv,h5,hx.own h6,h7⟩
theorem IU (n:aD) (sv:Y):bX (n.val sv)=true:=by cases n<;>rfl
theorem Lp.nodes {g:Nat} {N:List aD} {T:List Int} (h:Lp g np nv tv w N T):sC w nv N:=by
 obtain ⟨_,⟨xs,h2,h3⟩,_,_⟩:=h;refine ⟨xs,aA.of_own h2,λk n hk=>?_⟩;obtain ⟨u,h4,sv,h5,h6,_⟩:=h3 k n hk;exact ⟨u,h4,sv,h5,aA.of_own h6⟩
theorem Lp.start {g:Nat} {N:List aD} {T:List Int} {t:Int} (h:Lp g np nv tv w N T) (hT:T.length<=100000) (hk:∀ tv' w',Lp g np nv tv' w' N (T++[t])->Fr (λk=>tv.ownBlock=some k) w w'->(∀ q,tv'.ownBlock=some q->tv.ownBlock=some q\/w.heap.size<=q)->K tv' w') :
  V prog (Instr.buildSlice 23 1 #[(0,i64 t)]) w λu w1=>V prog (Builtin.append_ #[23,23] 23 #[tv,u]) w1 K:=by
 obtain ⟨hB,⟨xs,ho,hxs⟩,hst,hne⟩:=h;have hg:=hB.lt;refine jG bB [i64 t] rfl rfl (by simp) rfl λu w1 ho1 x1=>?_;have s1:=x1.size;refine apS bB (x1.own hst) (aA.of_own ho1) rfl (by omega) (by unfold maxLen;omega) (by omega) λtv' w2 ho2 hg2 hl2=>?_;have hlo:∀ k,tv.ownBlock=some k->g+1<=k:=λk hk=>(hst.lt k hk).1;have f2:Fr (λk=>tv.ownBlock=some k) w1 w2:=Fr.of_grown hg2 λk hk=>hk
 refine hk tv' w2 ⟨f2.blk (hB.ext x1) λhk=>by have:=hlo _ hk;omega,⟨xs,f2.own (x1.own ho) λk hk hS=>hne k hk hS,λk n hk=>?_⟩,by simpa using ho2,λq hq hq'=>?_⟩ ((Fr.of_ext x1).trans f2 λ_ _ h=>h) (λq hq=>by
   rcases hl2 with h2|h2
   ·rw [h2] at hq;exact .inl hq
   ·rw [h2] at hq;cases hq;exact .inr (by omega))
 ·obtain ⟨u,h4,sv,h5,h6,h7⟩:=hxs k n hk;refine ⟨u,h4,sv,h5,f2.own (x1.own h6) λq hq hS=>(h7 q hq).2 hS,λq hq=>⟨(h7 q hq).1,λhq'=>?_⟩⟩;rcases hl2 with h2|h2
  ·rw [h2] at hq';exact (h7 q hq).2 hq'
  ·rw [h2] at hq';cases hq';have:=(h6.lt _ hq).2;omega
 ·rcases hl2 with h2|h2
  ·rw [h2] at hq';exact hne q hq hq'
  ·rw [h2] at hq';cases hq';have:=(ho.lt _ hq).2;omega
theorem Lp.push {g:Nat} {u:Y} {N:List aD} {T:List Int} {n:aD} {K':O->Prop} (h:Lp g np nv tv w N T) (hu:VP g nv tv w u n) (hN:N.length<=100000) (hk:∀ nv' w',Lp g np nv' tv w' (N++[n]) T->Fr (λk=>k=g\/nv.ownBlock=some k) w w'->(∀ q,nv'.ownBlock=some q->nv.ownBlock=some q\/w.heap.size<=q)->K' w') :
  V prog (Instr.buildSlice 31 1 #[(0,u)]) w λt w1=>V prog (Builtin.append_ #[31,31] 31 #[nv,t]) w1 λt2 w2=>V prog (Instr.fieldAt 33 (.pointer (some ⟨g,0,none⟩)) 2) w2 λq w3=>U prog (Instr.storeAt 31 q t2) w3 λ_ w4=>K' w4:=by
 obtain ⟨sv,rfl,hso,hsn⟩:=hu;obtain ⟨hB,⟨xs,ho,hxs⟩,hst,hne⟩:=h;have hg:=hB.lt;refine jG aFe [n.val sv] rfl rfl (by simp) (by simp [IU]) λt w1 ho1 x1=>?_;have s1:=x1.size;refine apS aFe (x1.own ho) (aA.of_own ho1) (by simp [IU]) (by omega) (by unfold maxLen;omega) (by omega) λnv' w2 ho2 hg2 hl2=>?_;have hlo:∀ k,nv.ownBlock=some k->g+1<=k:=λk hk=>(ho.lt k hk).1;have f2:Fr (λk=>nv.ownBlock=some k) w1 w2:=Fr.of_grown hg2 λk hk=>hk;have hB2:=f2.blk (hB.ext x1) λhk=>by have:=hlo _ hk;omega
 refine FZ eR NI hB2 (n:=3) rfl (by decide) (fV ho2) ?_;have f3:Fr (λk=>k=g) w2 (w2.setCell ⟨g,2,none⟩ nv'):=Fr.of_set rfl;have hB3:=hB2.set 2 nv';generalize w2.setCell ⟨g,2,none⟩ nv'=w3 at f3 hB3
 have fresh:∀ {q:Nat},q < w.heap.size->nv.ownBlock≠some q->nv'.ownBlock≠some q:=λhlt hb hq'=>by
  rcases hl2 with h2|h2
  ·rw [h2] at hq';exact hb hq'
  ·rw [h2] at hq';cases hq';omega
 have keep0:∀ {sv:Y} {l:List Int},w.ownsRow (g+1) 3 1 sv l.length (l.map i64)->(∀ q,sv.ownBlock=some q->nv.ownBlock≠some q)->w3.ownsRow (g+1) 3 1 sv l.length (l.map i64):=λha hb=>
  f3.own (f2.own (x1.own ha) λk hk hS=>hb k hk hS) λk hk hS=>by have:=(ha.lt k hk).1;have hS:k=g:=hS;omega
 have keep:∀ {sv:Y} {l:List Int},w.ownsRow (g+1) 3 1 sv l.length (l.map i64)->(∀ q,sv.ownBlock=some q->nv.ownBlock≠some q/\tv.ownBlock≠some q)->w3.ownsRow (g+1) 3 1 sv l.length (l.map i64)/\∀ q,sv.ownBlock=some q->nv'.ownBlock≠some q/\tv.ownBlock≠some q:=λha hb=>
  ⟨keep0 ha λq hq=>(hb q hq).1,λq hq=>⟨fresh (ha.lt q hq).2 (hb q hq).1,(hb q hq).2⟩⟩
 refine hk nv' w3 ⟨hB3,⟨xs++[n.val sv],?_,λk y hy=>?_⟩,keep0 hst λq hq hq'=>hne q hq' hq,λq hq hq'=>fresh (hst.lt q hq').2 (λh=>hne q h hq') hq⟩ (((Fr.of_ext x1).trans (f2.mono λk hk=>.inr hk) λ_ _ h=>h).trans (f3.mono λk hk=>.inl hk) λ_ _ h=>h) (λq hq=>by
   rcases hl2 with h2|h2
   ·rw [h2] at hq;exact .inl hq
   ·rw [h2] at hq;cases hq;exact .inr (by omega))
 ·rw [List.length_append];exact f3.own ho2 λk hk hS=>by have:=(ho2.lt k hk).1;have hS:k=g:=hS;omega
 ·rw [List.getElem?_append] at hy ⊢;have hxl:xs.length=N.length:=by have:=ho.1;omega
  split at hy
  ·rename_i hlt
   obtain ⟨u,h4,sv2,h5,h6,h7⟩:=hxs k y hy;rw [if_pos (by omega)];obtain ⟨k1,k2⟩:=keep h6 h7;exact ⟨u,h4,sv2,h5,k1,k2⟩
  ·rename_i hge
   rw [if_neg (by omega),hxl]
   have hk0:k - N.length=0:=by
    have:=(List.getElem?_eq_some_iff.1 hy).1;simpa using this
   rw [hk0] at hy ⊢;cases hy;obtain ⟨k1,k2⟩:=keep hso hsn;exact ⟨n.val sv,rfl,sv,rfl,k1,k2⟩
theorem Lp.set {g:Nat} {np:Int} {gn c j:Nat} {tv u:Y} {N:List aD} {T:List Int} {n:aD} {K':O->Prop} (h:Lp g np (.slice (some ⟨gn,0,none⟩) N.length c) tv w N T) (hj:j < N.length) (hu:VP g (.slice (some ⟨gn,0,none⟩) N.length c) tv w u n)
  (hk:∀ w',Lp g np (.slice (some ⟨gn,0,none⟩) (N.set j n).length c) tv w' (N.set j n) T->Fr (λk=>k=gn) w w'->K' w'):U prog (Instr.storeAt 43 (.pointer (some ⟨gn,0+j*1,none⟩)) u) w λ_ w2=>K' w2:=by
 obtain ⟨sv,rfl,hso,hsn⟩:=hu;obtain ⟨hB,⟨xs,ho,hxs⟩,hst,hne⟩:=h;have hgn:=ho.lt gn rfl;have hxl:xs.length=N.length:=by have:=ho.1;omega
 refine stY NG ho hj (IU _ _) λw' ho' hg'=>?_;have f:Fr (λk=>k=gn) w w':=Fr.of_grown hg' λk hk=>by cases hk;rfl
 have keep:∀ {sv:Y} {l:List Int},w.ownsRow (g+1) 3 1 sv l.length (l.map i64)->(∀ q,sv.ownBlock=some q->gn≠q)->w'.ownsRow (g+1) 3 1 sv l.length (l.map i64):=λha hb=>f.own ha λk hk hS=>hb k hk hS.symm;have hne':∀ {v:Y} {q:Nat},(Value.slice (some ⟨gn,0,none⟩) N.length c).ownBlock≠some q->gn≠q:=λh e=>h (by rw [e];rfl);refine hk w' ⟨by rw [List.length_set];exact f.blk hB (by omega),⟨xs.set j (n.val sv),by rw [List.length_set];exact ho',λk y hy=>?_⟩,keep hst λq hq e=>hne gn rfl (by rw [e];exact hq),by rw [List.length_set];exact hne⟩ f;rw [List.length_set];rw [List.getElem?_set] at hy ⊢;by_cases hkj:j=k
 ·subst hkj;rw [if_pos rfl,if_pos hj] at hy;rw [if_pos rfl,if_pos (by omega)];cases hy;exact ⟨_,rfl,sv,rfl,keep hso λq hq=>hne' (v:=sv) (hsn q hq).1,hsn⟩
 ·rw [if_neg hkj] at hy ⊢;obtain ⟨u2,h4,sv2,h5,h6,h7⟩:=hxs k y hy;exact ⟨u2,h4,sv2,h5,keep h6 λq hq=>hne' (v:=sv2) (h7 q hq).1,h7⟩
theorem HG {h pc:Nat} {n:aD} {T:List Int} (hn:iH i m x h=some n) (hT:∀ to∈fN x pc,0<=to/\to < T.length):FI T n:=by
 by_cases c1:x.op=23
 ·have:n=.goto x.a:=by simp [iH,c1] at hn;exact hn.symm
  subst this;exact hT x.a (by simp [fN,c1])
 by_cases c2:x.op=24
 ·have:n=.branch (10+((h:Int) - 1)) x.a:=by simp [iH,c2] at hn;exact hn.symm
  subst this;exact hT x.a (by simp [fN,c2])
 unfold iH at hn;by_cases d0:x.op=1
 ·rw [if_pos d0] at hn;cases hn;trivial
 rw [if_neg d0] at hn;by_cases d1:x.op=2
 ·rw [if_pos d1] at hn;cases hn;trivial
 rw [if_neg d1] at hn;by_cases d2:x.op=3
 ·rw [if_pos d2] at hn;cases hn;trivial
 rw [if_neg d2] at hn;by_cases d3:x.op=4
 ·rw [if_pos d3] at hn;cases hn
 rw [if_neg d3] at hn;by_cases d4:x.op=5
 ·rw [if_pos d4] at hn;cases hn;trivial
 rw [if_neg d4] at hn;by_cases d5:x.op=15\/x.op=16\/x.op=26
 ·rw [if_pos d5] at hn;cases hn;trivial
 rw [if_neg d5] at hn;by_cases d6:x.op=22
 ·rw [if_pos d6] at hn;cases hn;trivial
 rw [if_neg d6] at hn;rw [if_neg c1] at hn;rw [if_neg c2] at hn;by_cases d9:x.op=25
 ·rw [if_pos d9] at hn;cases hn;trivial
 rw [if_neg d9] at hn;by_cases d10:x.op=35
 ·rw [if_pos d10] at hn;cases hn;trivial
 rw [if_neg d10] at hn;by_cases d11:x.op=33
 ·rw [if_pos d11] at hn;cases hn;trivial
 rw [if_neg d11] at hn;by_cases d12:x.op=34
 ·rw [if_pos d12] at hn;cases hn;trivial
 rw [if_neg d12] at hn;by_cases d13:x.op=37
 ·rw [if_pos d13] at hn;cases hn;trivial
 rw [if_neg d13] at hn;by_cases d14:x.op=38
 ·rw [if_pos d14] at hn;cases hn;trivial
 rw [if_neg d14] at hn;by_cases d15:x.op=39
 ·rw [if_pos d15] at hn;cases hn;trivial
 rw [if_neg d15] at hn;by_cases d16:(mX x.op).1≠0
 ·rw [if_pos d16] at hn;cases hn;trivial
 rw [if_neg d16] at hn;cases hn;trivial
theorem AH {i:iA} {m:jR} {st:St} {r:List Bool} {T:List Int} (hT:T.length=m.code.length) (hled:∀ k,st.h k=true->Led i m st k) (hr:∀ k,r.getD k false=true->st.h k=true):∀ (k:Nat) (n:aD),n∈(aW i m st r k).1->FI T n
 | 0,n,h=>by
  simp only [aW,List.mem_map] at h;obtain ⟨j,_,rfl⟩:=h;trivial
 | k+1,n,h=>by
  have ih:=AH hT hled hr k;cases hk:r.getD k false with
  | false=>
   have e:(aW i m st r (k+1)).1=(aW i m st r k).1:=by simp only [aW,hk];rfl
   rw [e] at h;exact ih n h
  | true=>
   have e:(aW i m st r (k+1)).1=(aW i m st r k).1++.tick::(iH i m (m.ins k) (st.s k).length).toList:=by simp only [aW,hk];rfl
   rw [e] at h;rcases List.mem_append.1 h with h|h
   ·exact ih n h
   ·rcases List.mem_cons.1 h with h|h
    ·subst h;trivial
    ·obtain ⟨out,_,hto⟩:=hled k (hr k hk);refine HG (pc:=k) (by simpa using h) λto ht=>?_;obtain ⟨q1,q2,_⟩:=hto to ht;exact ⟨q1,by rw [hT];exact q2⟩
theorem aPz {n:aD} {sv:Y} {x y:Operand} {R:Y->O->Prop} (hk:R (.bool true) w):V prog (do eqGuard .neq 43 x y (n.val sv) Value.nilIface;binOp .neq 43 (n.val sv) Value.nilIface) w R:=by
 cases n<;>exact V.ok (gY underlying43) hk
def VQ (B:Nat) (w:O) (v:Y) (l:List aD):Prop:=∃ xs:List Y,w.ownsRow B 43 1 v l.length xs/\∀ (k:Nat) n,l[k]?=some n->∃ u,xs[k]?=some u/\kE B w u n
theorem VQ.nodes {B:Nat} {v:Y} {l:List aD} (h:VQ B w v l):sC w v l:=by
 obtain ⟨xs,h1,h2⟩:=h;refine ⟨xs,aA.of_own h1,λk n hk=>?_⟩;obtain ⟨u,h3,sv,h4,h5⟩:=h2 k n hk;exact ⟨u,h3,sv,h4,aA.of_own h5⟩
theorem aRn {p:iE} {k:Int} (h:kF w p i) (hn:lO w i) (hrg:i.rg)
  (yes:∀ st r nv sv w',mE i->0<=k->k < i.methods.length->qO i (i.meth k) (some st)->IL i (i.meth k) st [] r->VQ w.heap.size w' nv (lS i (i.meth k) st r)->aO w' sv (aW i (i.meth k) st r (i.meth k).code.length).2->aG w w'->K (.tuple #[.agg #[i64 (i.meth k).params.length,i64 18,nv],sv,.bool true]) w')
  (no:∀ w',¬ (mE i/\0<=k/\k < i.methods.length)->aG w w'->K (.tuple #[.agg #[i64 0,i64 0,bC],bC,.bool false]) w'):aB prog 9 #[p.val i,i64 k] w K:=by
 apply bMm;unfold aKx iE.val;refine bx λb2 w1 hb2 x1=>?_;have hb2:bF w1 b2 [.string i.name,p.fv,p.iv,p.mv,p.xv]:=hb2;refine zU yZ λw2 hB4 x2=>?_;have hB4:bO w2 w1.heap.size [i64 0,i64 0,bC] 33:=hB4;have x02:=x1.trans x2;have hg4:=x1.size;have hb2:=hb2.ext x2;generalize w1.heap.size=g4 at hB4 hg4;refine iC hb2 kJ rfl ?_;refine aFt (p:=p) (i:=i) (h.ext x02) (hn.ext x02) hrg (λst sv w3 ht h0 hkl hw hst x3=>?_) λw3 hne x3=>?_
 case refine_2=>
  refine gR.2 (gQ.2 (dO.2 ?_));simp only [aR,Int.reduceNeg];refine lF bCc [] rfl rfl ?_;refine wR yZ (hB4.ext x3) (l:=[i64 0,i64 0,bC]) rfl rfl rfl rfl λw4 hB hc=>?_;exact ⟨_,oF underlying33 rfl yZ hB rfl,⟨_,rfl⟩,no w4 hne (hc.ext _ (x02.trans x3) hg4)⟩
 refine gR.2 (gQ.2 (dO.2 ?_));simp only [aR,Int.reduceNeg];obtain ⟨kn,rfl⟩:∃ q:Nat,k=q:=⟨k.toNat,by omega⟩;have hmi:=gI (i:=i) (a:=(kn:Int)) (by omega) (by omega);rw [Int.toNat_natCast] at hmi;have ir:=ht.1;have mr:(i.meth kn).right:=ir.2.2.1.2.1 _ (List.mem_of_getElem? hmi);obtain ⟨hox,hwf,hh0,hs0,hled⟩:=hw.led ir mr;have x03:=x02.trans x3;have hb3:=hb2.ext x3;refine aV hb3 bP dN rfl ?_;refine XL iF nW (h.ext x03).mt hmi pX λrow hrow=>?_;generalize hmm:i.meth kn=m at *;have hrow0:=hrow;obtain ⟨pv,lv,cv,rfl,hp,hl,hc⟩:=hrow
 have hone:([pv,i64 m.result,lv,cv]:List Y).all bX=true:=by
  obtain ⟨a1,c1,rfl⟩:=hp.shape;obtain ⟨a2,c2,rfl⟩:=hl.shape;obtain ⟨a3,c3,rfl⟩:=aA.shape hc;rfl
 refine sG DB rfl hone λb9 w4 hb9 x4=>?_;have hb9:bF w4 b9 [pv,i64 m.result,lv,cv]:=hb9;have hp4:=hp.ext x4;refine aV hb9 dM bE rfl (gE aP hp4 ?_);refine lF bCc [(0,i64 m.params.length),(1,i64 18)] rfl rfl ?_;refine tH bBf rfl rfl λw5 hB5 x5=>?_;have hB5:bO w5 w4.heap.size [i64 m.params.length,i64 18,bC] 33:=hB5;have hg4':g4 < w4.heap.size:=by have:=hB4.lt;have:=x3.size;have:=x4.size;omega
 have hb9':=hb9.ext x5;refine aV hb9' lB bE rfl (gE aP ((hl.ext x4).ext x5) ?_);have hL0:Lp w4.heap.size m.params.length bC bC w5 [] []:=⟨hB5,⟨[],World.ownsRow_nil _ _ _ _,λk n hk=>by simp at hk⟩,World.ownsRow_nil _ _ _ _,λq hq=>by cases hq⟩;have x04:=x03.trans x4;have hgx:=hB5.lt;generalize hgg:w4.heap.size=g at *;have pl:=mr.1.2;have ll:=mr.2.2.1.2;refine ⟨λv w'=>∃ (j:Nat) (nv:Y),v=i64 j/\j<=m.locals.length/\aG w4 w'/\Lp g m.params.length nv bC w' ((List.range j).map λ(j:Nat)=>aD.const ((m.params.length:Int)+((j:Nat):Int)) 0) [],λv _=>m.locals.length - (RowKit.intOf v).toNat,⟨0,bC,rfl,Nat.zero_le _,x5,hL0⟩,?_⟩;clear hL0 hB5;rintro _ w6 ⟨j,nv,rfl,hj,x6,hL⟩ _;refine aZ.2 (aC (λhlt=>?_) λhge=>?_)
 ·refine aV (bO.boxed hL.blk) eR kY rfl ?_;refine aV (hb9.ext x6) dM bE rfl (gE aP (hp4.ext x6) (bJ.2 ?_));rw [aQ (by omega)];refine lF YR [(0,i64 ((m.params.length:Int)+(j:Int)))] rfl rfl (TW XJ ?_);refine hL.push (n:=.const ((m.params.length:Int)+(j:Int)) 0) ⟨bC,rfl,World.ownsRow_nil _ _ _ _,λq hq=>by cases hq⟩ (by simp;omega) λnv' w7 hL7 f7 _=>bJ.2 ?_;rw [aQ (by omega),bK];have hnv:∀ q,nv.ownBlock=some q->g+1<=q:=λq hq=>by obtain ⟨xs,ho,_⟩:=hL.row;exact (ho.lt q hq).1
  refine ⟨⟨j+1,nv',rfl,by omega,f7.ext x6 λq hq=>?_,?_⟩,by simp only [aK];omega⟩
  ·rcases hq with hq|hq
   ·omega
   ·have:=hnv q hq;omega
  ·rw [List.range_succ,List.map_append];exact hL7
 have hjl:j=m.locals.length:=by omega
 subst hjl;have hn1:=mr.2.2.2.1.1;have hn2:=mr.2.2.2.1.2;refine iC (hb9.ext x6) nW rfl ?_;refine aCy (i:=i) (m:=m) (st:=st) (row:=[pv,i64 m.result,lv,cv]) ((hrow0.ext x4).ext x6) hn1 (by omega) hh0 hled hwf λgr r w7 hBr hgr R x7=>?_;have x47:=x6.trans x7;refine aV (hb9.ext x47) cC hU rfl (gE kQ ((hc.ext x4).ext x47) ?_);have hnvb:∀ q,nv.ownBlock=some q->q≠gr:=λq hq=>by obtain ⟨xs,ho,_⟩:=hL.row;have:=(ho.lt q hq).2;omega
 have hgg6:g < w6.heap.size:=hL.blk.lt;have hgrg:gr≠g:=by omega
 refine ⟨λtv v w'=>∃ (j:Nat) (nv:Y),v=i64 j/\j<=m.code.length/\aG w4 w'/\Lp g m.params.length nv tv w' (aW i m st r j).1 (aW i m st r j).2/\(aW i m st r j).1.length<=10+2*j/\(aW i m st r j).2.length=j/\bO w' gr (r.map .bool) 4/\∀ q,nv.ownBlock=some q\/tv.ownBlock=some q->q≠gr,
  λ_ v _=>m.code.length - (RowKit.intOf v).toNat,⟨0,nv,rfl,Nat.zero_le _,x47,hL.ext x7,by simp [aW];omega,rfl,hBr,λq hq=>?_⟩,?_⟩
 ·rcases hq with hq|hq
  ·exact hnvb q hq
  ·cases hq
 clear hL hBr hnvb;rintro tv _ w8 ⟨j,nv,rfl,hj,x8,hL,hNl,hTl,hBr,hgb⟩ _;refine aZ.2 (aC (λhlt=>?_) λhge=>?_)
 ·have hj':j < m.code.length:=by omega
  have hxi:=qL (m:=m) (k:=j) hj';have ox:=hox _ (List.mem_of_getElem? hxi);refine ldI ((hc.ext x4).ext x8) hxi ?_;refine tH WL rfl rfl λw9 hB15 x9=>?_;have hB15:bO w9 w8.heap.size [i64 (m.ins j).op,i64 (m.ins j).a,i64 (m.ins j).b] 88:=hB15;have hnv8:∀ q,nv.ownBlock=some q->q < w8.heap.size:=λq hq=>by obtain ⟨xs,ho,_⟩:=hL.row;exact (ho.lt q hq).2
  have htv8:∀ q,tv.ownBlock=some q->q < w8.heap.size:=λq hq=>(hL.st.lt q hq).2;have hg8:g < w8.heap.size:=hL.blk.lt;have x49:=x8.trans x9;have hL9:=hL.ext x9;have hB9:=hBr.ext x9;have hrl:=R.rl;have hsl:aA w9 (.slice (some ⟨gr,0,none⟩) m.code.length m.code.length) 1 m.code.length (r.map .bool):=hB9.slice (by simpa using hrl) (by unfold maxLen;omega);refine mH hO oM hsl (by omega) (by omega) (EV (by omega)) (dO.2 ?_)
  have hlo:∀ q,nv.ownBlock=some q\/tv.ownBlock=some q->g+1<=q:=λq hq=>by
   rcases hq with hq|hq
   ·obtain ⟨xs,ho,_⟩:=hL.row;exact (ho.lt q hq).1
   ·exact (hL.st.lt q hq).1
  cases hrj:r.getD j false with
  | false=>
   simp only [aR,Int.reduceNeg];refine hL9.start (by omega) λtv' w10 hL10 f10 q10=>bJ.2 ?_;rw [aQ (by omega),bK];have hK:aW i m st r (j+1)=((aW i m st r j).1,(aW i m st r j).2++[-1]):=by simp only [aW,hrj];rfl
   refine ⟨⟨j+1,nv,rfl,by omega,f10.ext x49 λq hq=>?_,by rw [hK];exact hL10,by rw [hK];dsimp only;omega,by rw [hK];simp [hTl],f10.blk hB9 λhq=>hgb gr (.inr hq) rfl,λq hq=>?_⟩,by simp only [aK];omega⟩
   ·have:=hlo q (.inr hq);omega
   ·have hs9:=hB9.lt;rcases hq with hq|hq
    ·exact hgb q (.inl hq)
    ·rcases q10 q hq with h10|h10
     ·exact hgb q (.inr h10)
     ·omega
  | true=>
   simp only [aR,Int.reduceNeg];have hh:=R.rs j hrj;obtain ⟨out,hdo,_⟩:=hled j hh;obtain ⟨hkd,hl8⟩:=hwf.kd j hh;obtain ⟨_,_,hask,_⟩:=AO ox hkd hdo;refine aV (bO.boxed hL9.blk) eR kY rfl ?_;have hnl:∀ {nv tv w' N T},Lp g m.params.length nv tv w' N T->∃ vs,aA w' nv 1 N.length vs:=λh=>by obtain ⟨vs,h1,_⟩:=h.nodes;exact ⟨vs,h1⟩
   obtain ⟨nvs,hnvs⟩:=hnl hL9;refine gE nU hnvs ?_;refine hL9.start (by omega) λtv' w10 hL10 f10 q10=>?_;have x10:aG w4 w10:=f10.ext x49 λq hq=>by have:=hlo q (.inr hq);omega
   have hB10:=f10.blk hB9 λhq=>hgb gr (.inr hq) rfl;refine aV (bO.boxed hL10.blk) eR kY rfl ?_;refine lF bMh [] rfl rfl (TW bLo ?_);refine hL10.push (n:=.tick) ⟨bC,rfl,World.ownsRow_nil _ _ _ _,λq hq=>by cases hq⟩ (by omega) λnv' w11 hL11 f11 q11=>?_;have hgw:w4.heap.size=g:=hgg
   have x11:aG w4 w11:=f11.ext x10 λq hq=>by
    rcases hq with hq|hq
    ·omega
    ·have:=hlo q (.inl hq);omega
   have hB11:=f11.blk hB10 λhq=>by
    rcases hq with hq|hq
    ·exact hgrg hq
    ·exact hgb gr (.inl hq) rfl
   have hB15':=f11.blk (f10.blk hB15 λhq=>by have:=htv8 _ hq;omega) λhq=>by
    rcases hq with hq|hq
    ·omega
    ·have:=hnv8 _ hq;omega
   have D1:aG w11 w11.drew:=(aG.refl _).drew;have x1D:=x11.trans D1;obtain ⟨svs,hsv1,hsv2⟩:=(hst.ext x4).ext x1D;have hstl:st.st.length=m.code.length:=hwf.l1;obtain ⟨su,hsu,hsi⟩:=hsv2 j (by omega);refine aL.mk' (λw'=>aG w11.drew w') (aG.refl _) ?_;refine yA (λw' hx=>((hb3.ext x4).ext x1D).ext hx) kJ rfl ?_;refine yA (λw' hx=>(hb9.ext x1D).ext hx) nW rfl ?_;refine yA (λw' hx=>(bO.boxed (hB15'.ext D1)).ext hx) gS rfl ?_;refine nT pG bE hsv1 (λ_ h=>h) (by omega) (by omega) (by simpa using hsu) ?_;refine sZ aP hsi ?_;refine bDj (p:=p) (i:=i) (m:=m) (x:=m.ins j) (row:=[pv,i64 m.result,lv,cv]) ((h.ext (x03.trans x4)).ext x1D) ((hrow0.ext x4).ext x1D) ox hl8 hask λv w12 hv x12=>⟨x12,?_⟩;have x1E:=x1D.trans x12;have xDE:=D1.trans x12;have hL12:=hL11.ext xDE;have hB12:=hB11.ext xDE;have sD:=D1.size;have s12:=x12.size;have hK:aW i m st r (j+1)=((aW i m st r j).1++.tick::(iH i m (m.ins j) (st.s j).length).toList,(aW i m st r j).2++[((aW i m st r j).1.length:Int)]):=by simp only [aW,hrj];rfl
   have hs9:=hB9.lt;have hs10:=f10.size;have hs11:=f11.size
   have hgb11:∀ q,nv'.ownBlock=some q\/tv'.ownBlock=some q->q≠gr:=λq hq=>by
    rcases hq with hq|hq
    ·rcases q11 q hq with h11|h11
     ·exact hgb q (.inl h11)
     ·omega
    ·rcases q10 q hq with h10|h10
     ·exact hgb q (.inr h10)
     ·omega
   have hv:LN w11.drew.heap.size w12 v (iH i m (m.ins j) (st.s j).length):=hv;cases ho:iH i m (m.ins j) (st.s j).length with
   | none=>
    rw [ho] at hv hK;have hv:v=Value.nilIface:=hv;subst hv;refine V.ok (iG underlying43) (aM.2 (bJ.2 ?_));rw [aQ (by omega),bK];exact ⟨⟨j+1,nv',rfl,by omega,x1E,by rw [hK];exact hL12,by rw [hK];simp;omega,by rw [hK];simp [hTl],hB12,hgb11⟩,by simp only [aK];omega⟩
   | some n=>
    rw [ho] at hv hK;obtain ⟨asv,rfl,hown⟩:=hv;refine aPz (bH.2 ?_);refine aV (bO.boxed hL12.blk) eR kY rfl ?_
    have hnv11:∀ q,nv'.ownBlock=some q\/tv'.ownBlock=some q->q < w11.heap.size/\g+1<=q:=λq hq=>by
     rcases hq with hq|hq
     ·obtain ⟨xs,ho,_⟩:=hL11.row;have:=ho.lt q hq;omega
     ·have:=hL11.st.lt q hq;omega
    have hg11:=hL11.blk.lt;refine hL12.push (n:=n) ⟨asv,rfl,aU hown (by omega),λq hq=>⟨λh=>?_,λh=>?_⟩⟩ (by simp;omega) λnv2 w13 hL13 f13 q13=>bJ.2 ?_
    ·have:=(hown.lt q hq).1;have:=(hnv11 q (.inl h)).1;omega
    ·have:=(hown.lt q hq).1;have:=(hnv11 q (.inr h)).1;omega
    rw [aQ (by omega),bK];refine ⟨⟨j+1,nv2,rfl,by omega,f13.ext x1E λq hq=>?_,by rw [hK];simpa using hL13,by rw [hK];simp;omega,by rw [hK];simp [hTl],f13.blk hB12 λhq=>?_,λq hq=>?_⟩,by simp only [aK];omega⟩
    ·rcases hq with hq|hq
     ·omega
     ·have:=(hnv11 q (.inl hq)).2;omega
    ·rcases hq with hq|hq
     ·exact hgrg hq
     ·exact hgb11 gr (.inl hq) rfl
    ·rcases hq with hq|hq
     ·rcases q13 q hq with h13|h13
      ·exact hgb11 q (.inl h13)
      ·have:=hB12.lt;omega
     ·exact hgb11 q (.inr hq)
 ·have hjn:j=m.code.length:=by omega
  subst hjn;have haim:∀ (q:Nat) y,(aW i m st r m.code.length).1[q]?=some y->FI (aW i m st r m.code.length).2 y:=λq y hy=>AH hTl hled R.rs _ y (List.mem_of_getElem? hy);have eP:lS i m st r=(aW i m st r m.code.length).1.map (sA (aW i m st r m.code.length).2):=rfl;generalize hNN:(aW i m st r m.code.length).1=N at *;generalize hTT:(aW i m st r m.code.length).2=T at *;refine aV (bO.boxed hL.blk) eR kY rfl ?_;obtain ⟨nvs,hnvs,_⟩:=hL.nodes;refine gE nU hnvs ?_;refine ⟨λv w'=>∃ (q:Nat) (M:List aD),v=i64 q/\q<=N.length/\aG w4 w'/\Lp g m.params.length nv tv w' M T/\M.length=N.length/\∀ a:Nat,M[a]?=if a < q then (N[a]?).map (sA T) else N[a]?,λv _=>N.length - (RowKit.intOf v).toNat,⟨0,N,rfl,Nat.zero_le _,x8,hL,rfl,λa=>by simp⟩,?_⟩;rintro _ w9 ⟨q,M,rfl,hq,x9,hM,hMl,hMa⟩ _;refine aZ.2 (aC (λhlt=>?_) λhge2=>?_)
  ·obtain ⟨xs,hox2,hxs⟩:=hM.row;obtain ⟨y,hy⟩:=bI (l:=N) (j:=q) (by omega);have hyM:M[q]?=some y:=by rw [hMa,if_neg (by omega)];exact hy
   obtain ⟨u,hu,asv,rfl,has,hapart⟩:=hxs q y hyM
   obtain ⟨gn,cn,rfl⟩:∃ gn c,nv=.slice (some ⟨gn,0,none⟩) M.length c:=by
    rcases hox2.2 with ⟨_,e⟩|⟨g',c',_,rfl,_⟩
    ·omega
    ·exact ⟨g',c',rfl⟩
   refine mH nU BE (aA.of_own hox2) (by omega) (by omega) (by simpa using hu) ?_;have D1:aG w9 w9.drew:=(aG.refl _).drew;have hMd:=hM.ext D1;refine aL.mk' (λw'=>aG w9.drew w') (aG.refl _) ?_;refine iB (λw' hx=>bO.boxed (hMd.blk.ext hx)) eR kY rfl ?_;refine aSu (aA.of_own hMd.st) (haim q y hy) λw10 x10=>⟨x10,?_⟩;refine aF.ok (λw' _=>jZ underlying31 NG (by omega) (by omega)) ?_;rw [Int.toNat_natCast];have hargs:(sA T y).args=y.args:=by cases y<;>rfl
   have hMl2:(M.set q (sA T y)).length=M.length:=List.length_set;have hgn:=hox2.lt gn rfl;refine (hMd.ext x10).set (n:=sA T y) (by omega) ⟨asv,rfl,by rw [hargs];exact (D1.trans x10).own has,hapart⟩ λw11 hM11 f11=>bJ.2 ?_;rw [aQ (by omega),bK];rw [hMl2] at hM11;refine ⟨⟨q+1,M.set q (sA T y),rfl,by omega,f11.ext (x9.trans (D1.trans x10)) λk hk=>by omega,hM11,by omega,λa=>?_⟩,by simp only [aK];omega⟩;rw [List.getElem?_set];by_cases haq:q=a
   ·subst haq;rw [if_pos rfl,if_pos (by omega),if_pos (by omega),hy];rfl
   ·rw [if_neg haq,hMa];by_cases hlt2:a < q
    ·rw [if_pos hlt2,if_pos (by omega)]
    ·rw [if_neg hlt2,if_neg (by omega)]
  ·have hMe:M=lS i m st r:=by
    rw [eP];apply List.ext_getElem?;intro a;rw [hMa,List.getElem?_map];by_cases ha:a < q
    ·rw [if_pos ha]
    ·rw [if_neg ha,List.getElem?_eq_none (by omega)];rfl
   have hB4E:=((hB4.ext x3).ext x4).ext x9;obtain ⟨xs,hox2,hxs⟩:=hM.row;refine iC (bO.boxed hM.blk) qY rfl ?_;refine wR yZ hB4E (l:=[i64 m.params.length,i64 18,nv]) rfl rfl rfl (by simp [fV hox2,rR]) λwE hBE hcE=>?_;refine ⟨_,oF underlying33 rfl yZ hBE rfl,⟨_,rfl⟩,?_⟩;have fE:=pR hcE;have kp:∀ {e:TypeId} {v:Y} {n:Nat} {ys:List Y},w9.ownsRow (g+1) e 1 v n ys->wE.ownsRow (g+1) e 1 v n ys:=λho=>fE.own ho λk hk hS=>by have:=(ho.lt k hk).1;have hS:k=g4:=hS;omega
   refine yes st r nv tv wE ht h0 hkl hw R ?_ (by rw [hTT];exact aA.of_own (kp hM.st)) (hcE.ext _ (x04.trans x9) (by omega));rw [<- hMe];have s04:=x04.size;refine ⟨xs,aU (kp hox2) (by omega),λk y hy=>?_⟩;obtain ⟨u,h4,asv,h5,h6,_⟩:=hxs k y hy;exact ⟨u,h4,asv,h5,aU (kp h6) (by omega)⟩
def aD.isTick:aD->Bool
 | .tick=>true
 | _=>false
theorem EE {c:Prop} [Decidable c] {a b:Option α} {n:α} (h:(if c then a else b)=some n):(c/\a=some n)\/(¬ c/\b=some n):=by
 by_cases hc:c
 ·rw [if_pos hc] at h;exact .inl ⟨hc,h⟩
 ·rw [if_neg hc] at h;exact .inr ⟨hc,h⟩
theorem aIo {c:Prop} [Decidable c] {a b:Option α} (h:(if c then a else b)=none):(c/\a=none)\/(¬ c/\b=none):=by
 by_cases hc:c
 ·rw [if_pos hc] at h;exact .inl ⟨hc,h⟩
 ·rw [if_neg hc] at h;exact .inr ⟨hc,h⟩
theorem aKi (T:List Int) (n:aD):(sA T n).isTick=n.isTick:=by cases n<;>rfl
theorem TZ {h:Nat} {n:aD} (hn:iH i m x h=some n):n.isTick=false:=by
 unfold iH at hn
 repeat (rcases EE hn with ⟨_,hn⟩|⟨_,hn⟩;· (first|(cases hn;done)|(cases hn;rfl)))
 cases hn;rfl
def GL (l:List aD):Nat:=l.countP aD.isTick
def onC (T:List Int):Nat:=T.countP λt=>decide (0<=t)
theorem qK (i:iA) (m:jR) (st:St) (r:List Bool):∀ k,GL (aW i m st r k).1=onC (aW i m st r k).2/\(aW i m st r k).2.length=k/\(aW i m st r k).1.length<=m.locals.length+2*k/\∀ (pc:Nat) (t:Int),(aW i m st r k).2[pc]?=some t->0<=t->(aW i m st r k).1[t.toNat]?=some .tick
 | 0=>by
  refine ⟨?_,rfl,by simp [aW],λpc t h=>by simp [aW] at h⟩;simp [aW,GL,onC,List.countP_eq_zero,aD.isTick]
 | k+1=>by
  obtain ⟨h1,h2,h3,h4⟩:=qK i m st r k;cases hk:r.getD k false with
  | false=>
   have e:aW i m st r (k+1)=((aW i m st r k).1,(aW i m st r k).2++[-1]):=by simp only [aW,hk];rfl
   rw [e];refine ⟨by simpa [onC] using h1,by simp [h2],by dsimp only;omega,λpc t h h0=>?_⟩;rw [List.getElem?_append] at h;split at h
   ·exact h4 pc t h h0
   ·have:t=-1:=by
     have:=List.mem_of_getElem? h;simpa using this
    omega
  | true=>
   have e:aW i m st r (k+1)=((aW i m st r k).1++.tick::(iH i m (m.ins k) (st.s k).length).toList,(aW i m st r k).2++[((aW i m st r k).1.length:Int)]):=by simp only [aW,hk];rfl
   rw [e]
   have hz:GL (iH i m (m.ins k) (st.s k).length).toList=0:=by
    cases ho:iH i m (m.ins k) (st.s k).length with
    | none=>rfl
    | some n=>simp [GL,TZ ho]
   have hl:(iH i m (m.ins k) (st.s k).length).toList.length<=1:=by cases iH i m (m.ins k) (st.s k).length<;>simp
   refine ⟨?_,by simp [h2],by simp;omega,λpc t h h0=>?_⟩
   ·simp only [GL,onC] at h1 hz ⊢;rw [List.countP_append,List.countP_cons,List.countP_append,h1,hz];simp [aD.isTick]
   ·rw [List.getElem?_append] at h;split at h
    ·have:=h4 pc t h h0;rw [List.getElem?_append_left (List.getElem?_eq_some_iff.1 this).1];exact this
    ·have:t=((aW i m st r k).1.length:Int):=by
      have:=List.mem_of_getElem? h;simpa using this
     subst this;rw [Int.toNat_natCast,List.getElem?_append_right (Nat.le_refl _)];simp
theorem uV (i:iA) (m:jR) (st:St) (r:List Bool):GL (lS i m st r)=onC (aW i m st r m.code.length).2/\(aW i m st r m.code.length).2.length=m.code.length/\(lS i m st r).length<=m.locals.length+2*m.code.length/\∀ (pc:Nat) (t:Int),(aW i m st r m.code.length).2[pc]?=some t->0<=t->(lS i m st r)[t.toNat]?=some .tick:=by
 obtain ⟨h1,h2,h3,h4⟩:=qK i m st r m.code.length;refine ⟨?_,h2,by simpa [lS] using h3,λpc t h h0=>?_⟩
 ·rw [<- h1];show ((aW i m st r m.code.length).1.map _).countP _=_;rw [List.countP_map];exact List.countP_congr λn _=>by simp [aKi]
 ·show ((aW i m st r m.code.length).1.map _)[t.toNat]?=_;rw [List.getElem?_map,h4 pc t h h0];rfl
end Go.Proofs.YtjcmcfidblhnnaaGreatDoor
namespace Go.Proofs.YtjcmcfidblhnnaaGreatDoor
open Tryz
open Go.Vc
variable {w:O} {k op:Int} {p:fU} {pv:Y}
theorem aSt (l:List Int):(l.map i64).all bX=true:=by simp [bX]
theorem bGg (l:List Bool):(l.map Value.bool).all bX=true:=by simp [bX]
theorem aEl {v:Y} {l:List Int} (h:aO w v l) (hl:l.length<=4294967296) :
  aB prog 132 #[v] w λr w'=>w'.ownsRow w.heap.size 3 1 r l.length (l.map i64)/\aG w w':=by
 apply aCc;unfold FO;exact VF (R:=λr w'=>w'.ownsRow w.heap.size 3 1 r l.length (l.map i64)/\aG w w') bB h (aSt l) (by omega) λv' w' h1 h2=>⟨h1,h2⟩
theorem VE {v:Y} {l:List Bool} (h:gO w v l) (hl:l.length<=4294967296) :
  aB prog 187 #[v] w λr w'=>w'.ownsRow w.heap.size 4 1 r l.length (l.map Value.bool)/\aG w w':=by
 apply aXf;unfold PW;exact VF (R:=λr w'=>w'.ownsRow w.heap.size 4 1 r l.length (l.map Value.bool)/\aG w w') aFc h (bGg l) (by omega) λv' w' h1 h2=>⟨h1,h2⟩
theorem KI {n:aD} {v:Y} (h:iO w v n):aB prog 80 #[v] w λr w'=>r=i64 n.df/\aG w w':=by
 obtain ⟨sv,rfl,hs⟩:=h;obtain ⟨sa,sc,rfl⟩:=hs.shape;apply bHi;unfold ZT;cases n<;>(dsimp only [aD.val];(repeat (first|(with_reducible refine th (by first|exact bD|exact dA|exact dP|exact eV|exact eE|exact eU|exact fX|exact fW|exact iM|exact iQ|exact jM|exact kR) ?_)|((with_reducible refine tm (by first|exact bD|exact dA|exact dP|exact eV|exact eE|exact eU|exact fX|exact fW|exact iM|exact iQ|exact jM|exact kM|exact nV|exact kR) (by decide) ?_);intro _ _ _)));first|exact ⟨rfl,aG.refl _⟩|(refine sG (by first|exact wV|exact tO|exact uR|exact uQ|exact tN|exact tM|exact zY|exact wU|exact DD|exact JG|exact JF|exact aGa) rfl rfl λb w1 hb x1=>?_;refine aV hb (by first|exact cX|exact cW|exact cA|exact cV|exact cK|exact cJ|exact bZ|exact cU|exact cT|exact cS|exact cI|exact cH|exact cG|exact bW|exact cR|exact bV|exact dG|exact cQ|exact cP|exact dF|exact dE|exact dL|exact dK|exact dJ|exact dD|exact dI|exact dT|exact dS|exact eC|exact eQ|exact YB) (by first|exact iD|exact iY|exact iN|exact iX|exact kT|exact iW|exact kZ|exact iV|exact iU|exact bE|exact jP|exact iT|exact dN|exact aE) rfl ?_;exact ⟨rfl,x1⟩))
theorem IV {n:aD} {v:Y} (h:iO w v n) (hl:n.args.length<=4294967296):aB prog 71 #[v] w λr w'=>w'.ownsRow w.heap.size 3 1 r n.us.length (n.us.map i64)/\aG w w':=by
 obtain ⟨sv,rfl,hs⟩:=h;obtain ⟨sa,sc,rfl⟩:=hs.shape;apply bHr;unfold aAc;cases n with
 | const _ _|tick|goto _|getField _ _=>dsimp only [aD.val];(repeat (first|(with_reducible refine th bD ?_)|((with_reducible refine tm (by first|exact bD|exact dA|exact dP|exact eV|exact eE|exact eU|exact fX|exact fW|exact iM|exact iQ|exact jM|exact kM) (by decide) ?_);intro _ _ _)));exact ⟨World.ownsRow_nil _ _ _ _,aG.refl _⟩
 | move _ a|un _ _ a|branch a _|putField _ a=>
  dsimp only [aD.val];(repeat (first|(with_reducible refine th (by first|exact bD|exact dA|exact dP|exact eV|exact eE|exact eU|exact fW) ?_)|((with_reducible refine tm (by first|exact bD|exact dA|exact dP|exact eV|exact eU) (by decide) ?_);intro _ _ _)));refine sG (by first|exact wV|exact tO|exact uR|exact uQ|exact tN|exact tM|exact wU) rfl rfl λb w1 hb x1=>?_;refine aV hb (by first|exact cX|exact cW|exact cA|exact cV|exact cK|exact cJ|exact bZ|exact cU|exact cT|exact cS|exact cI|exact cH|exact cG|exact bW|exact cR|exact dF) (by first|exact iD|exact iY|exact iN|exact iX|exact kT|exact iW|exact kZ|exact iV|exact iU|exact bE|exact jP|exact iT|exact dN|exact aE) rfl ?_;refine jG (by first|exact bB) [i64 a] rfl rfl (by simp) rfl λv w2 ho x2=>?_;exact ⟨aU ho x1.size,x1.trans x2⟩
 | bin _ _ a c=>
  dsimp only [aD.val];(repeat (first|(with_reducible refine th (by first|exact bD|exact dA) ?_)|((with_reducible refine tm bD (by decide) ?_);intro _ _ _)));refine sG tO rfl rfl λb w1 hb x1=>?_;refine aV hb cK aE rfl ?_;refine aV hb cJ aE rfl ?_;refine jG bB [i64 a,i64 c] rfl rfl (by simp) rfl λv w2 ho x2=>?_;exact ⟨aU ho x1.size,x1.trans x2⟩
 | choose _ a c d=>
  dsimp only [aD.val];(repeat (first|(with_reducible refine th (by first|exact bD|exact eV) ?_)|((with_reducible refine tm (by first|exact bD|exact dA|exact dP) (by decide) ?_);intro _ _ _)));refine sG uQ rfl rfl λb w1 hb x1=>?_;refine aV hb cI aE rfl ?_;refine aV hb cH aE rfl ?_;refine aV hb cG aE rfl ?_;refine jG bB [i64 a,i64 c,i64 d] rfl rfl (by simp) rfl λv w2 ho x2=>?_;exact ⟨aU ho x1.size,x1.trans x2⟩
 | serve _ _ _ _ l|call _ _ l|callX _ _ l=>
  dsimp only [aD.val];(repeat (first|(with_reducible refine th (by first|exact bD|exact dA|exact dP|exact eV|exact eE|exact eU|exact fX|exact fW|exact iM|exact iQ|exact jM) ?_)|((with_reducible refine tm (by first|exact bD|exact dA|exact dP|exact eV|exact eE|exact eU|exact fX|exact fW|exact iM|exact iQ) (by decide) ?_);intro _ _ _)));refine sG (by first|exact wV|exact tO|exact uR|exact uQ|exact tN|exact tM|exact zY|exact wU|exact DD|exact JG|exact JF) rfl rfl λb w1 hb x1=>?_;refine aV hb (by first|exact cX|exact cW|exact cA|exact cV|exact cK|exact cJ|exact bZ|exact cU|exact cT|exact cS|exact cI|exact cH|exact cG|exact bW|exact cR|exact bV|exact dG|exact cQ|exact cP|exact dF|exact dE|exact dL|exact dK|exact dJ|exact dD|exact dI|exact dT|exact dS|exact eB) (by first|exact iD|exact iY|exact iN|exact iX|exact kT|exact iW|exact kZ|exact iV|exact iU|exact bE) rfl ?_;exact (aEl (hs.ext x1) hl).mono λr w2 ⟨h1,h2⟩=>⟨aU h1 x1.size,x1.trans h2⟩
 | ret s=>
  dsimp only [aD.val];(repeat (first|(with_reducible refine th (by first|exact bD|exact kM) ?_)|((with_reducible refine tm (by first|exact bD|exact dA|exact dP|exact eV|exact eE|exact eU|exact fX|exact fW|exact iM|exact iQ|exact jM) (by decide) ?_);intro _ _ _)));refine sG TI rfl rfl λb w1 hb x1=>?_;refine aV hb dR aE rfl ?_;refine cL.2 (aC (λhne=>?_) λheq=>?_)
  ·refine aV hb dR aE rfl ?_;refine jG bB [i64 s] rfl rfl (by simp) rfl λv w2 ho x2=>?_;have hu:aD.us (.ret s)=[s]:=by simp only [aD.us];rw [if_neg hne]
   rw [hu];exact ⟨aU ho x1.size,x1.trans x2⟩
  ·have hu:aD.us (.ret s)=[]:=by simp only [aD.us];rw [if_pos (by omega)]
   rw [hu];exact ⟨World.ownsRow_nil _ _ _ _,x1⟩
theorem XG {n:aD} {v:Y} (h:iO w v n) (h0:0<=k) (h1:k<=1000000):aB prog 129 #[v,i64 k] w λr w'=>w'.ownsRow w.heap.size 3 1 r (n.nx k).length ((n.nx k).map i64)/\aG w w':=by
 obtain ⟨sv,rfl,hs⟩:=h;obtain ⟨sa,sc,rfl⟩:=hs.shape;apply aZp;unfold RZ;have hw:IntKind.i64.wrap (k+1)=k+1:=aQ (by omega);cases n with
 | goto t=>
  dsimp only [aD.val];refine vS.2 (aM.2 ?_)
  (repeat (first|(with_reducible refine th (by first|exact bD|exact eE) ?_)|((with_reducible refine tm bD (by decide) ?_);intro _ _ _)))
  refine sG tN rfl rfl λb w1 hb x1=>?_;refine aV hb bW aE rfl ?_;refine jG bB [i64 t] rfl rfl (by simp) rfl λv w2 ho x2=>?_;exact ⟨aU ho x1.size,x1.trans x2⟩
 | ret s=>
  dsimp only [aD.val];refine vS.2 (aM.2 ?_)
  (repeat (first|(with_reducible refine th (by first|exact bD|exact kM) ?_)|((with_reducible refine tm (by first|exact bD|exact dA|exact dP|exact eV|exact eE|exact eU) (by decide) ?_);intro _ _ _)))
  refine sG TI rfl rfl λb w1 hb x1=>?_;exact ⟨World.ownsRow_nil _ _ _ _,x1⟩
 | branch c t=>
  dsimp only [aD.val];refine vS.2 (aM.2 ?_)
  (repeat (first|(with_reducible refine th (by first|exact bD|exact eU) ?_)|((with_reducible refine tm (by first|exact bD|exact eE) (by decide) ?_);intro _ _ _)))
  refine sG tM rfl rfl λb w1 hb x1=>?_;refine aV hb bV aE rfl ?_;refine bJ.2 ?_;rw [hw];refine cL.2 (aC (λhne=>?_) λheq=>?_)
  ·refine bJ.2 ?_;rw [hw];refine aV hb bV aE rfl ?_;refine jG bB [i64 (k+1),i64 t] rfl rfl (by simp) rfl λv w2 ho x2=>?_;have hu:aD.nx (.branch c t) k=[k+1,t]:=by simp only [aD.nx];rw [if_neg hne]
   rw [hu];exact ⟨aU ho x1.size,x1.trans x2⟩
  ·refine bJ.2 ?_;rw [hw];refine jG bB [i64 (k+1)] rfl rfl (by simp) rfl λv w2 ho x2=>?_;have hu:aD.nx (.branch c t) k=[k+1]:=by simp only [aD.nx];rw [if_pos (by omega)]
   rw [hu];exact ⟨aU ho x1.size,x1.trans x2⟩
 | _=>
  dsimp only [aD.val];refine vS.2 (aM.2 ?_)
  (repeat (first|(with_reducible refine th bD ?_)|((with_reducible refine tm (by first|exact bD|exact dA|exact dP|exact eV|exact eE|exact eU|exact fX|exact fW|exact iM|exact iQ|exact jM|exact kM) (by decide) ?_);intro _ _ _)))
  refine bJ.2 ?_;rw [hw];refine jG (by first|exact bB) [i64 (k+1)] rfl rfl (by simp) rfl λv w2 ho x2=>?_;exact ⟨ho,x2⟩
theorem EO {n c:Int}:aB prog 65 #[i64 n,i64 c] w λr w'=>r=.bool (decide (0<=n/\n < c))/\w'=w:=by
 apply bHx;unfold aAi;refine fK.2 ?_;by_cases h:n>=0
 ·simp only [h,decide_true,pP,reduceIte,aZ,bA];have h':0<=n:=h;simp []
 ·simp only [h,decide_false,pP,Bool.false_eq_true,reduceIte,bA];have h':¬ 0<=n:=h;simp []
def nO (op:Int):Int:=
 if op=27\/op=28 then 1 else if op=17\/op=18\/op=29 then 2 else if op=30\/op=36 then 3 else if op=31\/op=32 then 5 else -1
def XB (op:Int):Prop:=(6<=op/\op<=14)\/(19<=op/\op<=21)
def aRb (op:Int):Prop:=op=15\/op=16\/op=26
def aD.okF:aD->Prop
 | .bin op _ _ _=>XB op
 | .un op _ _=>aRb op
 | .getField _ f=>0<=f/\f < 8
 | .putField f _=>0<=f/\f < 8
 | .serve op _ _ _ l=>nO op=l.length
 | .call m _ l=>(0<=m/\m < 8)/\l.length<=4
 | .callX i _ l=>(0<=i/\i < 4)/\l.length<=4
 | _=>True
def aD.bareN:aD->Bool
 | .const _ _|.move _ _|.bin _ _ _ _|.un _ _ _|.choose _ _ _ _|.getField _ _=>false
 | _=>true
theorem aEq:aB prog 183 #[i64 op] w λr w'=>(∃ b,r=.bool b/\(b=true↔XB op))/\w'=w:=by
 apply aXj
 have key:∀ R:Y->O->Prop,(∀ b:Bool,(b=true↔XB op)->R (.bool b) w)->FL (i64 op) w R:=by
  intro R hR;unfold FL
  by_cases h1:op>=6<;>by_cases h2:op<=14<;>by_cases h3:op>=19<;>by_cases h4:op<=21 <;>
   simp only [h1,h2,h3,h4,uJ,fK,mD,pD,uH,lY,rV,bA,reduceIte,Bool.false_eq_true,decide_true,decide_false]<;>exact hR _ (by simp [XB];omega)
 exact key _ λb hb=>⟨⟨b,rfl,hb⟩,rfl⟩
theorem aFn:aB prog 184 #[i64 op] w λr w'=>(∃ b,r=.bool b/\(b=true↔aRb op))/\w'=w:=by
 apply aXi
 have key:∀ R:Y->O->Prop,(∀ b:Bool,(b=true↔aRb op)->R (.bool b) w)->FK (i64 op) w R:=by
  intro R hR;unfold FK
  rcases Bool.eq_false_or_eq_true (decide (op=15)) with e1|e1<;>rcases Bool.eq_false_or_eq_true (decide (op=16)) with e2|e2<;>rcases Bool.eq_false_or_eq_true (decide (op=26)) with e3|e3 <;>
   simp only [e1,e2,e3,aJ,pD,uH,bA,reduceIte,Bool.false_eq_true]<;>exact hR _ (by simp at e1 e2 e3;simp [aRb];omega)
 exact key _ λb hb=>⟨⟨b,rfl,hb⟩,rfl⟩
theorem aCs:aB prog 185 #[i64 op] w λr w'=>r=i64 (nO op)/\w'=w:=by
 apply aXh;unfold PY;refine ⟨λv w'=>v=.bool (decide (op=27\/op=28))/\w'=w,?_,?_⟩
 ·refine aJ.2 (aC (λh=>?_) λh=>aJ.2 ?_)<;>exact ⟨by simp [h],rfl⟩
 rintro _ w1 ⟨rfl,rfl⟩ _;refine aC (λh=>⟨by simp [nO,h],rfl⟩) λh1=>?_;refine ⟨λv w'=>v=.bool (decide (op=17\/op=18\/op=29))/\w'=w1,?_,?_⟩
 ·refine aJ.2 (aC (λh=>?_) λh=>aJ.2 (aC (λh'=>?_) λh'=>aJ.2 ?_))
  ·exact ⟨by simp [h],rfl⟩
  ·exact ⟨by simp [h'],rfl⟩
  ·exact ⟨by simp [h,h'],rfl⟩
 rintro _ w2 ⟨rfl,rfl⟩ _;refine aC (λh=>⟨by simp [nO,h1,h],rfl⟩) λh2=>?_;refine ⟨λv w'=>v=.bool (decide (op=30\/op=36))/\w'=w2,?_,?_⟩
 ·refine aJ.2 (aC (λh=>?_) λh=>aJ.2 ?_)<;>exact ⟨by simp [h],rfl⟩
 rintro _ w3 ⟨rfl,rfl⟩ _;refine aC (λh=>⟨by simp [nO,h1,h2,h],rfl⟩) λh3=>?_;refine aJ.2 (aC (λh=>?_) λh=>?_)
 ·exact aC (λ_=>⟨by subst h;rfl,rfl⟩) λh'=>absurd h h'
 refine aJ.2 (aC (λh'=>?_) λh'=>?_)
 ·exact ⟨by subst h';rfl,rfl⟩
 ·exact ⟨by simp [nO,h1,h2,h3,h,h'],rfl⟩
theorem aEa {n:aD} {v:Y} (h:iO w v n):aB prog 128 #[v] w λr w'=>(∃ b,r=.bool b/\(b=true↔n.okF))/\aG w w':=by
 obtain ⟨sv,rfl,hs⟩:=h;obtain ⟨sa,sc,rfl⟩:=hs.shape;apply aZq;unfold SB;cases n with
 | bin op _ _ _=>
  dsimp only [aD.val];(repeat (first|(with_reducible refine th (by first|exact bD|exact dA) ?_)|((with_reducible refine tm bD (by decide) ?_);intro _ _ _)));refine sG tO rfl rfl λb w1 hb x1=>?_;refine aV hb cA aE rfl ?_;exact aEq.mono λr w2 ⟨h1,h2⟩=>⟨h1,h2▸x1⟩
 | un op _ _=>
  dsimp only [aD.val];(repeat (first|(with_reducible refine th (by first|exact bD|exact dP) ?_)|((with_reducible refine tm (by first|exact bD|exact dA) (by decide) ?_);intro _ _ _)));refine sG uR rfl rfl λb w1 hb x1=>?_;refine aV hb bZ aE rfl ?_;exact aFn.mono λr w2 ⟨h1,h2⟩=>⟨h1,h2▸x1⟩
 | getField _ f|putField f _=>
  dsimp only [aD.val];(repeat (first|(with_reducible refine th (by first|exact bD|exact dA|exact dP|exact eV|exact eE|exact eU|exact fX|exact fW) ?_)|((with_reducible refine tm (by first|exact bD|exact dA|exact dP|exact fX) (by decide) ?_);intro _ _ _)));refine sG (by first|exact wV|exact tO|exact uR|exact uQ|exact tN|exact tM|exact zY|exact wU) rfl rfl λb w1 hb x1=>?_;refine aV hb (by first|exact cX|exact cW|exact cA|exact cV|exact cK|exact cJ|exact bZ|exact cU|exact cT|exact cS|exact cI|exact cH|exact cG|exact bW|exact cR|exact bV|exact dG|exact cQ|exact cP) (by first|exact iD|exact iY|exact iN|exact iX|exact kT|exact iW|exact kZ|exact iV|exact iU|exact bE|exact jP|exact iT|exact dN|exact aE) rfl ?_;exact EO.mono λr w2 ⟨h1,h2⟩=>⟨⟨_,h1,by simp [aD.okF]⟩,h2▸x1⟩
 | serve op _ _ _ l=>
  dsimp only [aD.val];(repeat (first|(with_reducible refine th (by first|exact bD|exact iM) ?_)|((with_reducible refine tm (by first|exact bD|exact dA|exact dP|exact eV|exact eE|exact eU|exact fX|exact fW) (by decide) ?_);intro _ _ _)));refine sG DD rfl rfl λb w1 hb x1=>?_;refine aL.mk' (λw'=>bF w' b _) (hb.ext (aG.refl _).drew) ?_;refine aF.ok (λw' hw=>dE.ex w' b 0) ?_;refine aF.ok (λw' hw=>aGt (hw 0 _ rfl)) ?_;refine aF.ok (λw' hw=>dD.ex w' b 0) ?_;refine aF.ok (λw' hw=>WO (hw 4 _ rfl)) ?_;refine aF.ok (λw' hw=>wA underlying23) ?_;refine aCs.mono λr w2 ⟨h1,h2⟩=>?_;subst h1 h2;refine ⟨hb.ext (aG.refl _).drew,?_⟩;refine aF.ok (λw' hw=>AB) ?_;exact ⟨⟨_,rfl,decide_eq_true_iff⟩,x1.drew⟩
 | call m _ l|callX m _ l=>
  dsimp only [aD.val];(repeat (first|(with_reducible refine th (by first|exact bD|exact dA|exact dP|exact eV|exact eE|exact eU|exact fX|exact fW|exact iM|exact iQ|exact jM) ?_)|((with_reducible refine tm (by first|exact bD|exact dA|exact dP|exact eV|exact eE|exact eU|exact fX|exact fW|exact iM|exact iQ) (by decide) ?_);intro _ _ _)));refine sG (by first|exact wV|exact tO|exact uR|exact uQ|exact tN|exact tM|exact zY|exact wU|exact DD|exact JG|exact JF) rfl rfl λb w1 hb x1=>?_;refine aV hb (by first|exact cX|exact cW|exact cA|exact cV|exact cK|exact cJ|exact bZ|exact cU|exact cT|exact cS|exact cI|exact cH|exact cG|exact bW|exact cR|exact bV|exact dG|exact cQ|exact cP|exact dF|exact dE|exact dL|exact dK|exact dJ|exact dD|exact dI|exact eC) (by first|exact iD|exact iY|exact iN|exact iX|exact kT|exact iW|exact kZ|exact iV|exact iU|exact bE|exact jP|exact iT|exact dN|exact aE) rfl ?_;refine EO.mono λr w2 ⟨h1,h2⟩=>?_;subst h1 h2;refine pP.2 ?_;split
  ·rename_i hin
   refine V.ok (FA.ex (by first|exact cX|exact cW|exact cA|exact cV|exact cK|exact cJ|exact bZ|exact cU|exact cT|exact cS|exact cI|exact cH|exact cG|exact bW|exact cR|exact bV|exact dG|exact cQ|exact cP|exact dF|exact dE|exact dL|exact dK|exact dJ|exact dD|exact dI|exact dT|exact dS|exact eB) _ _ _) (pP.2 ?_);rw [if_pos hin];refine V.ok (WO (hb 2 _ rfl)) (pP.2 ?_);rw [if_pos hin];refine V.ok (wA underlying23) (pP.2 ?_);rw [if_pos hin];refine uJ.2 (jL ?_);rw [if_pos hin];have:=of_decide_eq_true hin;exact ⟨⟨_,rfl,decide_eq_true_iff.trans ⟨λh=>⟨this,by simp only [aD.args] at h;omega⟩,λh=>by have:=h.2;simp only [aD.args];omega⟩⟩,x1⟩
  ·rename_i hin
   refine pP.2 ?_;rw [if_neg hin];refine pP.2 ?_;rw [if_neg hin];refine pP.2 ?_;rw [if_neg hin];refine jL ?_;rw [if_neg hin];exact ⟨⟨_,rfl,by simp [aD.okF] at hin ⊢;omega⟩,x1⟩
 | _=>dsimp only [aD.val];(repeat (first|(with_reducible refine th bD ?_)|((with_reducible refine tm (by first|exact bD|exact dA|exact dP|exact eV|exact eE|exact eU|exact fX|exact fW|exact iM|exact iQ|exact jM) (by decide) ?_);intro _ _ _)));refine VN.2 ?_;exact ⟨⟨_,rfl,by simp [aD.okF]⟩,aG.refl _⟩
theorem aSn {n:aD} {v:Y} (h:iO w v n):aB prog 130 #[v] w λr w'=>r=.bool n.bareN/\w'=w:=by
 obtain ⟨sv,rfl,hs⟩:=h;apply aZn
 have key:∀ R:Y->O->Prop,R (.bool n.bareN) w->FP (n.val sv) w R:=by
  intro R hR;unfold FP;cases n<;>simp only [aD.val,aSv,aKo,aKn,aKm,aKl,aKk,gR,gQ,reduceIte,Nat.reduceEqDiff,bA,bH,aM,Bool.false_eq_true]<;>exact hR
 exact key _ ⟨rfl,rfl⟩
structure pV (n:aD) (k regs count:Int):Prop where
 f:n.okF
 u:∀ r∈n.us,0<=r/\r < regs
 t:∀ r∈n.nx k,0<=r/\r < count
 d:(0<=n.df/\n.df < regs)\/(n.df=-1/\n.bareN=true)
theorem aGh {nv:Y} {n:aD} (hp:pW w pv p) (hn:iO w nv n) (hl:n.args.length<=4294967296) (h0:0<=k) (h1:k<=1000000) :
  aB prog 66 #[pv,nv,i64 k] w λr w'=>(∃ b,r=.bool b/\(b=true↔pV n k p.regs p.nodes.length))/\aG w w':=by
 obtain ⟨ns,rfl,⟨vs,hs,_⟩,_⟩:=hp;apply bHw;unfold aAh;refine bx λb w1 hb x1=>?_;refine (aEa (hn.ext x1)).mono λr w2 ⟨⟨bf,hr,hbf⟩,x2⟩=>?_;subst hr;refine dO.2 (aI.mk (λhf=>?_) λhf=>?_)
 ·refine ⟨⟨false,rfl,⟨(λh=>by cases h),λh=>?_⟩⟩,x1.trans x2⟩;have:=hbf.2 h.f;subst this;cases hf
 have hok:n.okF:=hbf.1 (by cases bf<;>simp_all);refine (IV (hn.ext (x1.trans x2)) hl).mono λul w3 ⟨hu',x3⟩=>?_;have hu:aO w3 ul n.us:=aA.of_own hu';clear hu';have X3:=x1.trans (x2.trans x3);have hb3:=hb.ext (x2.trans x3);have hlen:=aFm n;refine gE aP hu ?_
 refine ⟨λv w'=>∃ j:Nat,v=i64 j/\j<=n.us.length/\aG w3 w'/\∀ (i:Nat) u,i < j->n.us[i]?=some u->0<=u/\u < p.regs,λv _=>n.us.length - (RowKit.intOf v).toNat,
  ⟨0,rfl,by omega,aG.refl _,λi u hi=>by omega⟩,?_⟩
 rintro _ w4 ⟨j,rfl,hj,x4,hall⟩ _;refine aZ.2 (aC (λhlt=>?_) λhge=>?_)
 ·have hlt':j < n.us.length:=by omega
  obtain ⟨u,hu'⟩:=bI hlt';refine mH aP aE (hu.ext x4) (by omega) (by omega) (cM hu') ?_;refine aV (hb3.ext x4) gT aE rfl ?_;refine EO.mono λr w5 ⟨hr,hw⟩=>?_;subst hr hw;refine dO.2 (aI.mk (λhf=>?_) λhf=>?_)
  ·refine ⟨⟨false,rfl,⟨(λh=>by cases h),λh=>?_⟩⟩,X3.trans x4⟩;have:=h.u u (List.mem_of_getElem? hu');simp [this] at hf
  ·have hin:0<=u/\u < p.regs:=by simpa using hf
   refine jS (by omega) ?_;refine ⟨⟨j+1,rfl,by omega,x4,λi u' hi hu2=>?_⟩,by simp only [aK];omega⟩;by_cases hij:i=j
   ·subst hij;rw [hu'] at hu2;cases hu2;exact hin
   ·exact hall i u' (by omega) hu2
 have hju:j=n.us.length:=by omega
 have hus:∀ r∈n.us,0<=r/\r < p.regs:=λr hr=>by
  obtain ⟨i,hi⟩:=List.getElem?_of_mem hr;exact hall i r (by have:=(List.getElem?_eq_some_iff.1 hi).1;omega) hi
 have X4:=X3.trans x4;have hb4:=hb3.ext x4;refine (XG (hn.ext X4) h0 h1).mono λtl w5 ⟨ht',x5⟩=>?_;have ht:aO w5 tl (n.nx k):=aA.of_own ht';clear ht';have X5:=X4.trans x5;have hb5:=hb4.ext x5;have hlen2:=aHk n k;refine gE aP ht ?_
 refine ⟨λv w'=>∃ j:Nat,v=i64 j/\j<=(n.nx k).length/\aG w5 w'/\∀ (i:Nat) u,i < j->(n.nx k)[i]?=some u->0<=u/\u < p.nodes.length,λv _=>(n.nx k).length - (RowKit.intOf v).toNat,
  ⟨0,rfl,by omega,aG.refl _,λi u hi=>by omega⟩,?_⟩
 rintro _ w6 ⟨j2,rfl,hj2,x6,hall2⟩ _;refine aZ.2 (aC (λhlt=>?_) λhge2=>?_)
 ·have hlt':j2 < (n.nx k).length:=by omega
  obtain ⟨u,hu'⟩:=bI hlt';refine mH aP aE (ht.ext x6) (by omega) (by omega) (cM hu') ?_;refine aV (hb5.ext x6) eR kY rfl ?_;refine gE nU (hs.ext (X5.trans x6)) ?_;refine EO.mono λr w7 ⟨hr,hw⟩=>?_;subst hr hw;refine dO.2 (aI.mk (λhf=>?_) λhf=>?_)
  ·refine ⟨⟨false,rfl,⟨(λh=>by cases h),λh=>?_⟩⟩,X5.trans x6⟩;have:=h.t u (List.mem_of_getElem? hu');simp [this] at hf
  ·have hin:0<=u/\u < p.nodes.length:=by simpa using hf
   refine jS (by omega) ?_;refine ⟨⟨j2+1,rfl,by omega,x6,λi u' hi hu2=>?_⟩,by simp only [aK];omega⟩;by_cases hij:i=j2
   ·subst hij;rw [hu'] at hu2;cases hu2;exact hin
   ·exact hall2 i u' (by omega) hu2
 have hns:∀ r∈n.nx k,0<=r/\r < p.nodes.length:=λr hr=>by
  obtain ⟨i,hi⟩:=List.getElem?_of_mem hr;exact hall2 i r (by have:=(List.getElem?_eq_some_iff.1 hi).1;omega) hi
 have X6:=X5.trans x6;have hb6:=hb5.ext x6;refine (KI (hn.ext X6)).mono λr w7 ⟨hr,x7⟩=>?_;subst hr;refine aV (hb6.ext x7) gT aE rfl ?_;refine EO.mono λr w8 ⟨hr,hw⟩=>?_;subst hr hw;have X7:=X6.trans x7;by_cases hd:0<=n.df/\n.df < p.regs
 ·simp only [decide_eq_true hd,uH,rV,bA,reduceIte];exact ⟨⟨true,rfl,⟨λ_=>⟨hok,hus,hns,.inl hd⟩,λ_=>rfl⟩⟩,X7⟩
 ·simp only [decide_eq_false hd,pD,bA,aJ];by_cases hm:n.df=-1
  ·simp only [decide_eq_true hm,mD];refine (aSn (hn.ext X7)).mono λr w9 ⟨hr,hw⟩=>?_;subst hr hw;refine ⟨⟨n.bareN,by simp,⟨λhb=>⟨hok,hus,hns,.inr ⟨hm,hb⟩⟩,λh=>?_⟩⟩,X7⟩;rcases h.d with h|h
   ·exact absurd h hd
   ·exact h.2
  ·simp only [decide_eq_false hm,lY];refine ⟨⟨false,by simp,⟨(λh=>by cases h),λh=>?_⟩⟩,X7⟩;rcases h.d with h|h
   ·exact absurd h hd
   ·exact absurd h.1 hm
structure lA (p:fU):Prop where
 l1:1<=p.nodes.length
 l2:p.nodes.length<=250
 r1:0<=p.regs
 r2:p.regs<=40
 p1:0<=p.params
 p2:p.params<=4
 p3:p.params<=p.regs
 nodes:∀ (i:Nat) n,p.nodes[i]?=some n->pV n i p.regs p.nodes.length
theorem vB (hp:pW w pv p) (hv:lA p) :
  aB prog 35 #[pv] w λr w'=>r=.bool true/\aG w w':=by
 obtain ⟨ns,rfl,hn,hargs⟩:=hp;have hn':=hn;obtain ⟨vs,hs,hvs⟩:=hn';obtain ⟨l1,l2,r1,r2,p1,p2,p3,hnodes⟩:=hv;apply bIz;unfold aBh;refine bx λb w1 hb x1=>?_;refine aV hb eR kY rfl (gE nU (hs.ext x1) (aZ.2 ?_));simp only [show decide ((p.nodes.length:Int) < 1)=false from by simp;omega,pD];refine aV hb eR kY rfl (gE nU (hs.ext x1) (jF.2 ?_));simp only [show decide ((p.nodes.length:Int) > 250)=false from by simp;omega,bA,Bool.false_eq_true,reduceIte,pD];refine aV hb gT aE rfl ?_;refine EO.mono λr w5 ⟨hr,hw⟩=>?_;subst hr hw;simp only [show decide (0<=p.regs/\p.regs < 41)=true from by simp;omega,dO,Bool.not_true,bA,Bool.false_eq_true,reduceIte,pD];refine aV hb lM aE rfl ?_;refine EO.mono λr w5 ⟨hr,hw⟩=>?_;subst hr hw;simp only [show decide (0<=p.params/\p.params < 5)=true from by simp;omega,dO,Bool.not_true,bA,Bool.false_eq_true,reduceIte,pD];refine aV hb lM aE rfl (aV hb gT aE rfl (jF.2 ?_));simp only [show decide (p.params > p.regs)=false from by simp;omega,aM];refine aV hb eR kY rfl (gE nU (hs.ext x1) ?_);refine ⟨λv w'=>∃ j:Nat,v=i64 j/\j<=p.nodes.length/\aG w5 w',λv _=>p.nodes.length - (RowKit.intOf v).toNat,⟨0,rfl,by omega,aG.refl _⟩,?_⟩;rintro _ w6 ⟨j,rfl,hj,x6⟩ _;refine aZ.2 (aC (λhlt=>?_) λhge=>⟨trivial,x1.trans x6⟩)
 have hlt':j < p.nodes.length:=by omega
 obtain ⟨n,hn1⟩:=bI hlt';obtain ⟨u,hu,hnu⟩:=hvs j n hn1;have hb6:=hb.ext x6;refine mH nU BE (hs.ext (x1.trans x6)) (by omega) (by omega) (by simpa using hu) ?_;refine iC hb6 qY rfl ?_;refine (aGh (p:=p) ⟨ns,rfl,hn.ext (x1.trans x6),hargs⟩ (hnu.ext (x1.trans x6)) (hargs n (List.mem_of_getElem? hn1)) (by omega) (by omega)).mono λr w7 ⟨⟨bb,hr,hbb⟩,x7⟩=>?_;subst hr;have:=hbb.2 (hnodes j n hn1);subst this;refine dO.2 (aM.2 (bJ.2 ?_));rw [aQ (by omega),bK];exact ⟨⟨j+1,rfl,by omega,x6.trans x7⟩,by simp only [aK];omega⟩
end Go.Proofs.YtjcmcfidblhnnaaGreatDoor
namespace Go.Proofs.YtjcmcfidblhnnaaGreatDoor
open Tryz
open Go.Vc Go.Tc
variable {i:iA} {m:jR} {x:lT} {k:Nat}
def aKu (n:aD):Prop:=n.okF/\(∀ r∈n.us,0<=r/\r < 18)/\((0<=n.df/\n.df < 18)\/(n.df=-1/\n.bareN=true))
theorem JH {h n:Nat} (h1:n<=h) (h2:h<=8):∀ r∈jV h n,0<=r/\r < 18:=λr hr=>by
 simp only [jV,List.mem_map,List.mem_range] at hr;obtain ⟨k,hk,rfl⟩:=hr;omega
theorem uS (h n:Nat):(jV h n).length=n:=by simp [jV]
theorem aIa {h:Nat} {n:aD} (ox:xR i m x) (h8:h<=8) (ha:(aY i m x).length<=h) (hg:h - (aY i m x).length+hgt i m x<=8) (hn:iH i m x h=some n):aKu n:=by
 have xr:=ox.xr;have hop:=xr.1;have hl:=xr.2.1;have hu:=xr.2.2.1;have nm:=ox.nm;have pl:=ox.mr.1.2;have ll:=ox.mr.2.2.1.2;have fl:=ox.ir.1.2;have locl:m.locs.length<=10:=by simp [jR.locs];omega
 unfold iH at hn;by_cases d0:x.op=1
 ·rw [if_pos d0] at hn;cases hn;have e1:hgt i m x=1:=by simp [hgt,jJ,d0]
  have e2:aY i m x=[]:=by simp [aY,d0,kU]
  rw [e1,e2] at hg;exact ⟨trivial,by simp [aD.us],.inl (by simp only [aD.df];simp at hg;omega)⟩
 rw [if_neg d0] at hn;by_cases d1:x.op=2
 ·rw [if_pos d1] at hn;cases hn;have e1:hgt i m x=1:=by simp [hgt,jJ,d1]
  have e2:aY i m x=[]:=by simp [aY,d1,kU]
  rw [e1,e2] at hg;simp only [fL,d1,true_or,if_true] at nm;simp [lim,d1] at hl hu;exact ⟨trivial,by simp [aD.us];omega,.inl (by simp only [aD.df];simp at hg;omega)⟩
 rw [if_neg d1] at hn;by_cases d2:x.op=3
 ·rw [if_pos d2] at hn;cases hn;have e2:(aY i m x).length=1:=by simp [aY,d2]
  simp [lim,d2] at hl hu;exact ⟨trivial,by simp [aD.us];omega,.inl (by simp only [aD.df];omega)⟩
 rw [if_neg d2] at hn;by_cases d3:x.op=4
 ·rw [if_pos d3] at hn;cases hn
 rw [if_neg d3] at hn;by_cases d4:x.op=5
 ·rw [if_pos d4] at hn;cases hn;have e1:hgt i m x=2:=by simp [hgt,jJ,d4]
  have e2:(aY i m x).length=1:=by simp [aY,d4]
  rw [e1,e2] at hg;exact ⟨trivial,by simp [aD.us];omega,.inl (by simp only [aD.df];omega)⟩
 rw [if_neg d4] at hn;by_cases d5:x.op=15\/x.op=16\/x.op=26
 ·rw [if_pos d5] at hn;cases hn;have e2:(aY i m x).length=1:=by rcases d5 with d5|d5|d5<;>simp [aY,d5,kU]
  exact ⟨d5,by simp [aD.us];omega,.inl (by simp only [aD.df];omega)⟩
 rw [if_neg d5] at hn;by_cases d6:x.op=22
 ·rw [if_pos d6] at hn;cases hn;have e2:(aY i m x).length=3:=by simp [aY,d6,kU]
  exact ⟨trivial,by simp [aD.us];omega,.inl (by simp only [aD.df];omega)⟩
 rw [if_neg d6] at hn;by_cases c1:x.op=23
 ·rw [if_pos c1] at hn;cases hn;exact ⟨trivial,by simp [aD.us],.inr ⟨rfl,rfl⟩⟩
 rw [if_neg c1] at hn;by_cases c2:x.op=24
 ·rw [if_pos c2] at hn;cases hn;have e2:(aY i m x).length=1:=by simp [aY,c2,kU]
  exact ⟨trivial,by simp [aD.us];omega,.inr ⟨rfl,rfl⟩⟩
 rw [if_neg c2] at hn;by_cases d9:x.op=25
 ·rw [if_pos d9] at hn;cases hn;have e1:hgt i m x=1:=by simp [hgt,jJ,d9,kU]
  have e2:aY i m x=[]:=by simp [aY,d9,kU]
  rw [e1,e2] at hg;exact ⟨trivial,by simp [aD.us],.inl (by simp only [aD.df];simp at hg;omega)⟩
 rw [if_neg d9] at hn;by_cases d10:x.op=35
 ·rw [if_pos d10] at hn;cases hn;have e1:hgt i m x=1:=by simp [hgt,jJ,d10,kU]
  have e2:aY i m x=[]:=by simp [aY,d10,kU]
  rw [e1,e2] at hg;exact ⟨trivial,by simp [aD.us],.inl (by simp only [aD.df];simp at hg;omega)⟩
 rw [if_neg d10] at hn;by_cases d11:x.op=33
 ·rw [if_pos d11] at hn;cases hn;have e1:hgt i m x=1:=by simp [hgt,jJ,d11]
  have e2:aY i m x=[]:=by simp [aY,d11,kU]
  rw [e1,e2] at hg;simp [lim,d11] at hl hu;exact ⟨⟨by omega,by omega⟩,by simp [aD.us],.inl (by simp only [aD.df];simp at hg;omega)⟩
 rw [if_neg d11] at hn;by_cases d12:x.op=34
 ·rw [if_pos d12] at hn;cases hn;have e2:(aY i m x).length=1:=by simp [aY,d12]
  simp [lim,d12] at hl hu;exact ⟨⟨by omega,by omega⟩,by simp [aD.us];omega,.inr ⟨rfl,rfl⟩⟩
 rw [if_neg d12] at hn
 have res:∀ {r:Int} {q:Nat},q<=h->h - q+(mC r).length<=8->(0<=rN r ((h:Int) - (q:Nat))/\rN r ((h:Int) - (q:Nat)) < 18)\/rN r ((h:Int) - (q:Nat))=-1:=λ{r q} hq hr=>by
  unfold rN mC at *;by_cases h0:r=0
  ·rw [if_pos h0];exact .inr rfl
  ·rw [if_neg h0] at hr ⊢;simp at hr;exact .inl (by omega)
 by_cases d13:x.op=37
 ·rw [if_pos d13] at hn;cases hn;have e1:hgt i m x=(mC (i.meth x.a).result).length:=by simp [hgt,jJ,d13,kU]
  have e2:aY i m x=(i.meth x.a).params:=by simp [aY,d13,kU]
  rw [e2] at ha hg;rw [e1] at hg;simp [lim,d13] at hl hu;simp [fL,d13] at nm;have hp:=(ox.ir.2.2.1.2.1 _ (iA.meth_mem hl nm)).1.2;refine ⟨⟨⟨by omega,by omega⟩,by rw [uS];omega⟩,λr hr=>JH ha h8 r hr,?_⟩;rcases res ha hg with h1|h1
  ·exact .inl h1
  ·exact .inr ⟨h1,rfl⟩
 rw [if_neg d13] at hn;by_cases d14:x.op=38
 ·rw [if_pos d14] at hn;cases hn;have e1:hgt i m x=(mC (i.imp x.a).result).length:=by simp [hgt,jJ,d14,kU]
  have e2:aY i m x=(i.imp x.a).params:=by simp [aY,d14,kU]
  rw [e2] at ha hg;rw [e1] at hg;simp [lim,d14] at hl hu;simp [fL,d14] at nm;have hp:=(ox.ir.2.1.2 _ (iA.imp_mem hl nm)).2.1.2;refine ⟨⟨⟨by omega,by omega⟩,by rw [uS];omega⟩,λr hr=>JH ha h8 r hr,?_⟩;rcases res ha hg with h1|h1
  ·exact .inl h1
  ·exact .inr ⟨h1,rfl⟩
 rw [if_neg d14] at hn;by_cases d15:x.op=39
 ·rw [if_pos d15] at hn;cases hn;have e2:aY i m x=mC m.result:=by simp [aY,d15,kU]
  rw [e2] at ha;refine ⟨trivial,λr hr=>?_,.inr ⟨rfl,rfl⟩⟩;simp only [aD.us] at hr;split at hr
  ·simp at hr
  ·rename_i hne
   simp only [List.mem_singleton] at hr;unfold rN at hr hne;unfold mC at ha;by_cases h0:m.result=0
   ·rw [if_pos h0] at hne;exact absurd rfl hne
   ·rw [if_neg h0] at hr ha;simp at ha;omega
 rw [if_neg d15] at hn;by_cases d16:(mX x.op).1≠0
 ·rw [if_pos d16] at hn;cases hn
  have e0:x.op=27\/x.op=28\/x.op=17\/x.op=18\/x.op=29\/x.op=30\/x.op=36\/x.op=31\/x.op=32:=by
   apply Classical.byContradiction;intro hne;apply d16;simp only [mX];rw [if_neg (by omega),if_neg (by omega),if_neg (by omega),if_neg (by omega),if_neg (by omega)]
  rcases e0 with e|e|e|e|e|e|e|e|e <;>
   (have e1:(aY i m x).length=(mX x.op).1.toNat:=by simp [aY,mX,e,kU]
    have e2:hgt i m x=if (mX x.op).2 then 1 else 0:=by first|(simp [hgt,jJ,mX,e,kU];done)|(simp [hgt,jJ,mX,e,kU];split<;>rfl)
    simp [mX,e] at e1 e2;refine ⟨by simp [aD.okF,nO,uS,mX,e],λr hr=>JH (n:=(mX x.op).1.toNat) (by simp [mX,e];omega) h8 r hr,?_⟩;simp [aD.df,aD.bareN,mX,e]
    try omega)
 ·rw [if_neg d16] at hn;cases hn
  have e0:kU x.op:=by
   have d16':(mX x.op).1=0:=by simpa using d16
   unfold kU;simp only [mX] at d16'
   repeat' (split at d16'<;>first|(simp at d16';done)|skip)
   omega
  have e2:(aY i m x).length=2:=by
   unfold aY;rw [if_neg (by omega),if_neg (by omega),if_neg (by omega),if_neg (by omega),if_pos e0];rfl
  exact ⟨e0,by simp [aD.us];omega,.inl (by simp only [aD.df];omega)⟩
def aD.falls:aD->Bool
 | .goto _|.ret _=>false
 | _=>true
theorem MT {h:Nat} {n:aD} (hn:iH i m x h=some n) (hf:n.falls=true):((k:Int)+1)∈fN x k:=by
 by_cases c1:x.op=23
 ·have:n=.goto x.a:=by simp [iH,c1] at hn;exact hn.symm
  subst this;cases hf
 by_cases c2:x.op=39
 ·have:n=.ret (rN m.result ((h:Int) - 1)):=by simp [iH,c2] at hn;exact hn.symm
  subst this;cases hf
 unfold fN;rw [if_neg c1];by_cases c3:x.op=24
 ·rw [if_pos c3];exact List.mem_cons_self
 ·rw [if_neg c3,if_neg c2];exact List.mem_singleton.2 rfl
theorem DZ {h:Nat} (ho:iH i m x h=none):x.op=4:=by
 apply Classical.byContradiction;intro hne;unfold iH at ho
 iterate 17 (rcases aIo ho with ⟨hc,ho⟩|⟨_,ho⟩;· (first|(cases ho;done)|exact absurd hc hne))
 cases ho
theorem UA {h:Nat} {t:Int} (hn:iH i m x h=some (.goto t)):x.op=23/\t=x.a:=by
 unfold iH at hn
 iterate 17 (rcases EE hn with ⟨hc,hn⟩|⟨_,hn⟩;· (first|(cases hn;done)|(cases hn;exact ⟨hc,rfl⟩)))
 cases hn
theorem JS {h:Nat} {q t:Int} (hn:iH i m x h=some (.branch q t)):x.op=24/\t=x.a:=by
 unfold iH at hn
 iterate 17 (rcases EE hn with ⟨hc,hn⟩|⟨_,hn⟩;· (first|(cases hn;done)|(cases hn;exact ⟨hc,rfl⟩)))
 cases hn
theorem HJ {i:iA} {m:jR} {st:St} {r:List Bool} (R:IL i m st [] r):∀ k,∀ (a:Nat) (n:aD),(aW i m st r k).1[a]?=some n->n.falls=true->a+1 < (aW i m st r k).1.length\/(a+1=(aW i m st r k).1.length/\r.getD k false=true)
 | 0,a,n,h,_=>by
  have hlt:=(List.getElem?_eq_some_iff.1 h).1;have hz:r.getD 0 false=true:=by rcases R.z with hz|hz;exact hz;cases hz
  by_cases h1:a+1 < (aW i m st r 0).1.length
  ·exact .inl h1
  ·exact .inr ⟨by omega,hz⟩
 | k+1,a,n,h,hf=>by
  have ih:=HJ R k;cases hk:r.getD k false with
  | false=>
   have e:(aW i m st r (k+1)).1=(aW i m st r k).1:=by simp only [aW,hk];rfl
   rw [e] at h ⊢;rcases ih a n h hf with h1|⟨_,h1⟩
   ·exact .inl h1
   ·rw [hk] at h1;cases h1
  | true=>
   have e:(aW i m st r (k+1)).1=(aW i m st r k).1++.tick::(iH i m (m.ins k) (st.s k).length).toList:=by simp only [aW,hk];rfl
   have next:((k:Int)+1)∈fN (m.ins k) k->r.getD (k+1) false=true:=λhm=>by
    rcases R.cl k hk _ hm with h1|h1
    ·rwa [show ((k:Int)+1).toNat=k+1 by omega] at h1
    ·cases h1
   rw [e] at h ⊢;rw [List.getElem?_append] at h;split at h
   ·left;simp;omega
   ·rename_i hge
    have hlt:=(List.getElem?_eq_some_iff.1 h).1;cases ho:iH i m (m.ins k) (st.s k).length with
    | none=>
     rw [ho] at hlt;simp at hlt;right;refine ⟨by simp;omega,next ?_⟩;have h4:(m.ins k).op=4:=DZ ho;simp [fN,h4]
    | some y=>
     rw [ho] at hlt h;simp at hlt;by_cases ha:a=(aW i m st r k).1.length
     ·left;simp;omega
     ·right;have ea:a - (aW i m st r k).1.length=1:=by omega
      rw [ea] at h;simp at h;subst h;exact ⟨by simp;omega,next (MT ho hf)⟩
theorem yS {i:iA} {m:jR} {st:St} {r:List Bool}:∀ (k pc:Nat),pc < k->r.getD pc false=true->∃ t:Nat,(aW i m st r k).2[pc]?=some (t:Int)/\t < (aW i m st r k).1.length
 | k+1,pc,h,hr=>by
  have hl:=(qK i m st r k).2.1;by_cases hpk:pc=k
  ·subst hpk;have e:aW i m st r (pc+1)=((aW i m st r pc).1++.tick::(iH i m (m.ins pc) (st.s pc).length).toList,(aW i m st r pc).2++[((aW i m st r pc).1.length:Int)]):=by simp only [aW,hr];rfl
   rw [e];exact ⟨(aW i m st r pc).1.length,by rw [List.getElem?_append_right (by omega),hl];simp,by simp⟩
  ·obtain ⟨t,h1,h2⟩:=yS (i:=i) (m:=m) (st:=st) (r:=r) k pc (by omega) hr;cases hk:r.getD k false with
   | false=>
    have e:aW i m st r (k+1)=((aW i m st r k).1,(aW i m st r k).2++[-1]):=by simp only [aW,hk];rfl
    rw [e];exact ⟨t,by rw [List.getElem?_append_left (by omega)];exact h1,h2⟩
   | true=>
    have e:aW i m st r (k+1)=((aW i m st r k).1++.tick::(iH i m (m.ins k) (st.s k).length).toList,(aW i m st r k).2++[((aW i m st r k).1.length:Int)]):=by simp only [aW,hk];rfl
    rw [e];exact ⟨t,by rw [List.getElem?_append_left (by omega)];exact h1,by simp;omega⟩
theorem HH {i:iA} {m:jR} {st:St} {r:List Bool} (hox:∀ x∈m.code,xR i m x) (hwf:WF m st) (hled:∀ k,st.h k=true->Led i m st k) (R:IL i m st [] r):∀ k,k<=m.code.length->∀ n∈(aW i m st r k).1,aKu n/\(match n with|.goto t|.branch _ t=>r.getD t.toNat false=true|_=>True)
 | 0,_,n,h=>by
  simp only [aW,List.mem_map,List.mem_range] at h;obtain ⟨j,hj,rfl⟩:=h
  have mr:m.right\/m.code.length=0:=by
   by_cases h0:m.code.length=0
   ·exact .inr h0
   ·obtain ⟨x,hx⟩:=bI (l:=m.code) (j:=0) (by omega);exact .inl (hox x (List.mem_of_getElem? hx)).mr
  have hz:r.getD 0 false=true:=by rcases R.z with hz|hz;exact hz;cases hz
  have h0:0 < r.length:=tZ hz;have hrl:=R.rl;rcases mr with mr|mr
  ·have pl:=mr.1.2;have ll:=mr.2.2.1.2;exact ⟨⟨trivial,by simp [aD.us],.inl (by simp only [aD.df];omega)⟩,trivial⟩
  ·omega
 | k+1,hk1,n,h=>by
  have ih:=HH hox hwf hled R k (by omega);cases hk:r.getD k false with
  | false=>
   have e:(aW i m st r (k+1)).1=(aW i m st r k).1:=by simp only [aW,hk];rfl
   rw [e] at h;exact ih n h
  | true=>
   have e:(aW i m st r (k+1)).1=(aW i m st r k).1++.tick::(iH i m (m.ins k) (st.s k).length).toList:=by simp only [aW,hk];rfl
   rw [e] at h;rcases List.mem_append.1 h with h|h
   ·exact ih n h
   ·rcases List.mem_cons.1 h with h|h
    ·subst h;exact ⟨⟨trivial,by simp [aD.us],.inr ⟨rfl,rfl⟩⟩,trivial⟩
    ·have hn:iH i m (m.ins k) (st.s k).length=some n:=by simpa using h
     have hh:=R.rs k hk;obtain ⟨out,hdo,_⟩:=hled k hh;obtain ⟨hkd,hl8⟩:=hwf.kd k hh;have ox:=hox _ (JX (m:=m) (k:=k) (by omega));obtain ⟨_,ho8,hask,hlen⟩:=AO ox hkd hdo;refine ⟨aIa ox hl8 hask (by omega) hn,?_⟩
     have jmp:∀ t,t∈fN (m.ins k) k->r.getD t.toNat false=true:=λt ht=>by
      rcases R.cl k hk t ht with h1|h1
      ·exact h1
      ·cases h1
     cases n with
     | goto t=>
      obtain ⟨e1,rfl⟩:=UA hn;exact jmp _ (by simp [fN,e1])
     | branch q t=>
      obtain ⟨e1,rfl⟩:=JS hn;exact jmp _ (by simp [fN,e1])
     | _=>trivial
theorem sI {st:St} {r:List Bool} (ht:mE i) (hk:k < i.methods.length) (hw:qO i (i.meth k) (some st)) (R:IL i (i.meth k) st [] r):lA ⟨(i.meth k).params.length,18,lS i (i.meth k) st r⟩:=by
 have hmi:=gI (i:=i) (a:=(k:Int)) (by omega) (by omega);rw [Int.toNat_natCast] at hmi;have ir:=ht.1;have mr:(i.meth k).right:=ir.2.2.1.2.1 _ (List.mem_of_getElem? hmi);obtain ⟨hox,hwf,hh0,hs0,hled⟩:=hw.led ir mr;generalize hmm:i.meth k=m at *;have pl:=mr.1.2;have ll:=mr.2.2.1.2;have lc:=mr.2.2.2.1.2;obtain ⟨c1,c2,c3,c4⟩:=uV i m st r;have hz:r.getD 0 false=true:=by rcases R.z with hz|hz;exact hz;cases hz
 have hl0:0 < m.code.length:=by have:=tZ hz;have:=R.rl;omega
 obtain ⟨t0,ht0,htl⟩:=yS (i:=i) (m:=m) (st:=st) (r:=r) m.code.length 0 hl0 hz;have hlen:(lS i m st r).length=(aW i m st r m.code.length).1.length:=by simp [lS]
 refine ⟨by dsimp only;omega,by dsimp only;omega,by dsimp only;decide,by dsimp only;decide,by dsimp only;omega,by dsimp only;omega,by dsimp only;omega,λa n hn=>?_⟩;have hn:(lS i m st r)[a]?=some n:=hn;have hn':=hn;rw [show lS i m st r=(aW i m st r m.code.length).1.map (sA (aW i m st r m.code.length).2) from rfl,List.getElem?_map,Option.map_eq_some_iff] at hn';obtain ⟨y,hy,rfl⟩:=hn';obtain ⟨⟨o1,o2,o3⟩,o4⟩:=HH hox hwf hled R m.code.length (Nat.le_refl _) y (List.mem_of_getElem? hy)
 have hcend:r.getD m.code.length false=false:=by
  cases hc:r.getD m.code.length false with
  | false=>rfl
  | true=>have:=tZ hc;have:=R.rl;omega
 have fall:y.falls=true->(a:Int)+1 < ((lS i m st r).length:Int):=λhf=>by
  rcases HJ R m.code.length a y hy hf with h1|⟨_,h1⟩
  ·omega
  ·rw [hcend] at h1;cases h1
 have aim:∀ t:Int,r.getD t.toNat false=true->0<=cN (aW i m st r m.code.length).2 t.toNat/\cN (aW i m st r m.code.length).2 t.toNat < ((lS i m st r).length:Int):=λt hr=>by
  have:=tZ hr;have:=R.rl;obtain ⟨q,h1,h2⟩:=yS (i:=i) (m:=m) (st:=st) (r:=r) m.code.length t.toNat (by omega) hr
  have e:cN (aW i m st r m.code.length).2 t.toNat=(q:Int):=by
   unfold cN;rw [List.getD_eq_getElem?_getD,h1];rfl
  rw [e];omega
 refine ⟨?_,?_,?_,?_⟩
 ·cases y<;>exact o1
 ·cases y<;>exact o2
 ·intro t htn;cases y with
  | goto to=>
   have htn:t∈[cN (aW i m st r m.code.length).2 to.toNat]:=htn;rw [List.mem_singleton] at htn;subst htn;exact aim to o4
  | branch q to=>
   have hA:=aim to o4;have hF:=fall rfl;simp only [sA,aD.nx] at htn;split at htn
   ·rw [List.mem_singleton] at htn;subst htn;exact ⟨by omega,hF⟩
   ·rcases List.mem_cons.1 htn with h1|h1
    ·subst h1;exact ⟨by omega,hF⟩
    ·rw [List.mem_singleton] at h1;subst h1;exact hA
  | ret s=>simp [sA,aD.nx] at htn
  | _=>
   have hF:=fall rfl;simp only [sA,aD.nx,List.mem_singleton] at htn;subst htn;exact ⟨by omega,hF⟩
 ·cases y<;>exact o3
end Go.Proofs.YtjcmcfidblhnnaaGreatDoor
namespace Go.Proofs.YtjcmcfidblhnnaaGreatDoor
open Tryz
open Go.Vc
variable {bs:List Bool} {w w0:O} {B N R g0 k n n' r:Nat} {gs:List Nat} {cs:List Y} {f:Bool} {pv:Y} {applet d m op reg:Int}
def BF (d:Int) (bs:List Bool):List Bool:=if 0<=d then bs.set d.toNat false else bs
def vD (n:aD) (bs:List Bool):List Bool:=n.us.foldl (λa r=>a.set r.toNat true) (BF n.df bs)
theorem HM (d:Int) (bs:List Bool):(BF d bs).length=bs.length:=by unfold BF;split<;>simp
theorem NS (l:List Int) (bs:List Bool):(l.foldl (λa r=>a.set r.toNat true) bs).length=bs.length:=by
 induction l generalizing bs with
 | nil=>rfl
 | cons x l ih=>simp [ih]
theorem xP (n:aD) (bs:List Bool):(vD n bs).length=bs.length:=by unfold vD;rw [NS,HM]
theorem oH (bs:List Bool) (i:Nat) (b:Bool):(bs.map Value.bool).set i (.bool b)=(bs.set i b).map Value.bool:=by rw [List.map_set]
theorem OK {n:aD} {nv bv:Y} (hn:iO w nv n) (hb:gO w bv bs) (hl:n.args.length<=4294967296) (hbl:bs.length<=4294967296)
  (hd:n.df < bs.length) (hu:∀ r∈n.us,0<=r/\r < bs.length) :
  aB prog 136 #[nv,bv] w λr w'=>w'.ownsRow w.heap.size 4 1 r bs.length ((vD n bs).map Value.bool)/\aG w w':=by
 apply aZi;unfold RU;refine (VE hb hbl).mono λov w1 ⟨ho,x1⟩=>?_;refine ⟨λw'=>w'.ownsRow w.heap.size 4 1 ov bs.length ((BF n.df bs).map Value.bool)/\aG w w',?_,?_⟩
 ·refine (KI (hn.ext x1)).mono λr w2 ⟨hr,x2⟩=>?_;subst hr;refine fK.2 (aC (λhge=>?_) λhlt=>?_)
  ·have hge':0<=n.df:=hge;refine stO hO lE (x2.own ho) hge' hd rfl λw3 ho3 hg=>?_;rw [oH] at ho3;refine ⟨?_,(x1.trans x2).grown hg λk hk=>((x2.own ho).lt k hk).1⟩;unfold BF;rw [if_pos hge'];exact ho3
  ·refine ⟨?_,x1.trans x2⟩;unfold BF;rw [if_neg (by simpa using hlt)];exact x2.own ho
 rintro w2 ⟨ho2,x2⟩ _;refine (IV (hn.ext x2) hl).mono λul w3 ⟨hus,x3⟩=>?_;have hlen:=aFm n;have hov:∀ k,ov.ownBlock=some k->k < w2.heap.size:=λk hk=>(ho2.lt k hk).2;refine gE aP (aA.of_own hus) ?_
 refine ⟨λv w'=>∃ j:Nat,v=i64 j/\j<=n.us.length/\aG w w'/\w'.ownsRow w2.heap.size 3 1 ul n.us.length (n.us.map i64)/\w'.ownsRow w.heap.size 4 1 ov bs.length (((n.us.take j).foldl (λa r=>a.set r.toNat true) (BF n.df bs)).map Value.bool),
  λv _=>n.us.length - (RowKit.intOf v).toNat,⟨0,rfl,by omega,x2.trans x3,hus,by simpa using x3.own ho2⟩,?_⟩
 rintro _ w4 ⟨j,rfl,hj,x4,hus4,ho4⟩ _;refine aZ.2 (aC (λhlt=>?_) λhge=>?_)
 ·have hlt':j < n.us.length:=by omega
  obtain ⟨u,hu'⟩:=bI hlt';obtain ⟨hu0,hu1⟩:=hu u (List.mem_of_getElem? hu');refine JT aP aE hus4 (by omega) (by omega) (cM hu') ?_;refine stO hO lE ho4 hu0 (by omega) rfl λw5 ho5 hg=>?_;refine jS (by omega) ?_;rw [oH] at ho5;refine ⟨⟨j+1,rfl,by omega,x4.grown hg λk hk=>(ho4.lt k hk).1,hus4.kept hg (TP hus4 hov),?_⟩,by simp only [aK];omega⟩;rw [List.take_add_one,hu'];simpa using ho5
 ·have hju:j=n.us.length:=by omega
  subst hju;rw [List.take_length] at ho4;exact ⟨ho4,x4⟩
def fU.at' (p:fU) (k:Nat):aD:=p.nodes.getD k .tick
inductive oK (p:fU):Nat->Nat->Prop
 | use {k to r:Nat}:(to:Int)∈(p.at' k).nx k->(r:Int)∈(p.at' to).us->oK p k r
 | pass {k to r:Nat}:(to:Int)∈(p.at' k).nx k->(r:Int)≠(p.at' to).df->oK p to r->oK p k r
def vI (p:fU) (m:Nat->Nat->Prop) (to r:Nat):Prop:=(r:Int)∈(p.at' to).us\/((r:Int)≠(p.at' to).df/\m to r)
abbrev Mx:=Nat->Nat->Bool
def tL (m:Mx) (k r:Nat) (b:Bool):Mx:=λk' r'=>if k'=k/\r'=r then b else m k' r'
theorem aCn (m:Mx) (k r:Nat):tL m k r (m k r)=m:=by
 funext k' r';unfold tL;split
 ·rename_i h;rw [h.1,h.2]
 ·rfl
def nE (m:Mx) (k R:Nat):List Bool:=(List.range R).map (m k)
theorem gX (m:Mx) (k R:Nat):(nE m k R).length=R:=by simp [nE]
theorem mN {m:Mx} (h:r < R):(nE m k R)[r]?=some (m k r):=by simp [nE,h]
theorem LU (m:Mx) (k r R:Nat) (b:Bool):nE (tL m k r b) k R=(nE m k R).set r b:=by
 apply List.ext_getElem?;intro j;by_cases hj:j < R
 ·rw [mN hj,List.getElem?_set];by_cases hr:r=j
  ·subst hr;simp [tL,nE,hj]
  ·have:¬ j=r:=λh=>hr h.symm;simp [tL,this,hr,mN hj]
 ·simp [nE,hj]
theorem DG {m:Mx} {k':Nat} {b:Bool} (h:k'≠k):nE (tL m k r b) k' R=nE m k' R:=by
 unfold nE;apply List.map_congr_left;intro j _;simp [tL,h]
def FC (f:Nat->Bool):Nat->Nat
 | 0=>0
 | n+1=>FC f n+if f n then 0 else 1
def xJ (m:Mx) (R:Nat):Nat->Nat
 | 0=>0
 | n+1=>xJ m R n+FC (m n) R
theorem CH {f g:Nat->Bool} (h:∀ j,f j=true->g j=true):∀ n,FC g n<=FC f n
 | 0=>Nat.le_refl _
 | n+1=>by
  have:=CH h n;unfold FC;have hj:=h n;cases hf:f n<;>cases hg:g n<;>simp [hf,hg] at hj ⊢<;>omega
theorem YI {f g:Nat->Bool} (h:∀ j,f j=true->g j=true) {i:Nat} (hf:f i=false) (hg:g i=true):∀ n,i < n->FC g n < FC f n
 | 0,hi=>by omega
 | n+1,hi=>by
  unfold FC;by_cases he:i=n
  ·subst he;have:=CH h i;simp [hf,hg];omega
  ·have:=YI h hf hg n (by omega);have hj:=h n;cases h1:f n<;>cases h2:g n<;>simp [h1,h2] at hj ⊢<;>omega
theorem KJ {m m':Mx} (h:∀ k r,m k r=true->m' k r=true) (R:Nat):∀ n,xJ m' R n<=xJ m R n
 | 0=>Nat.le_refl _
 | n+1=>by
  have h1:=KJ h R n;have h2:=CH (h n) R;unfold xJ;omega
theorem YJ {m m':Mx} (h:∀ k r,m k r=true->m' k r=true) {R k r:Nat} (hr:r < R) (hf:m k r=false) (hg:m' k r=true):∀ n,k < n->xJ m' R n < xJ m R n
 | 0,hi=>by omega
 | n+1,hi=>by
  unfold xJ;have h2:=CH (h n) R;by_cases he:k=n
  ·subst he;have h1:=KJ h R k;have:=YI (h k) hf hg R hr;omega
  ·have:=YJ h hr hf hg n (by omega);omega
theorem NT (l:List Int):∀ (bs:List Bool) (r:Nat),r < bs.length->(∀ x∈l,0<=x)->(l.foldl (λa r=>a.set r.toNat true) bs)[r]?=some (decide ((r:Int)∈l)||bs.getD r false):=by
 induction l with
 | nil=>intro bs r h _;simp [h]
 | cons x l ih=>
  intro bs r h h0;rw [List.foldl_cons,ih (bs.set x.toNat true) r (by simpa using h) (λy hy=>h0 y (by simp [hy]))];have hx:=h0 x (by simp);by_cases hr:x.toNat=r
  ·have:(r:Int)=x:=by omega
   simp [hr,this,h]
  ·have:¬ (r:Int)=x:=by omega
   simp [List.getD_eq_getElem?_getD,hr,this]
theorem FJ {n:aD} (h:r < bs.length) (h0:∀ x∈n.us,0<=x) :
  (vD n bs)[r]?=some (decide ((r:Int)∈n.us)||(decide ((r:Int)≠n.df)&&bs.getD r false)):=by
 unfold vD;rw [NT _ _ _ (by rw [HM];exact h) h0]
 congr 2
 unfold BF;split
 ·rename_i hd
  by_cases hr:n.df.toNat=r
  ·have:(r:Int)=n.df:=by omega
   simp [hr,this,h]
  ·have:¬ (r:Int)=n.df:=by omega
   simp [List.getD_eq_getElem?_getD,hr,this]
 ·rename_i hd
  have:¬ (r:Int)=n.df:=by omega
  simp [this]
def sl (R g:Nat):Y:=.slice (some ⟨g,0,none⟩) R R
structure St (w0 w:O) (b:Nat) (cs:List Y) (g0:Nat) (gs:List Nat) (R:Nat) (m:Mx):Prop where
 x:aG w0 w
 box:bF w b cs
 lo:w0.heap.size<=g0
 bg:b < g0
 gg:∀ g∈gs,g0 < g
 nd:gs.Nodup
 out:bO w g0 (gs.map (sl R)) 95
 rows:∀ (k g:Nat),gs[k]?=some g->bO w g ((nE m k R).map Value.bool) 4
theorem St.ext {w0 w w':O} {b g0 R:Nat} {cs:List Y} {gs:List Nat} {m:Mx} (h:St w0 w b cs g0 gs R m) (hx:aG w w'):St w0 w' b cs g0 gs R m:=
 ⟨h.x.trans hx,h.box.ext hx,h.lo,h.bg,h.gg,h.nd,h.out.ext hx,λk g hk=>(h.rows k g hk).ext hx⟩
theorem aHm (h:gs.Nodup) {i j g:Nat} (hi:gs[i]?=some g) (hj:gs[j]?=some g):i=j:=by
 obtain ⟨hi',hi2⟩:=List.getElem?_eq_some_iff.1 hi;obtain ⟨hj',hj2⟩:=List.getElem?_eq_some_iff.1 hj;have hp:=List.pairwise_iff_getElem.1 h;rcases Nat.lt_trichotomy i j with hlt|he|hgt
 ·exact absurd (hi2.trans hj2.symm) (hp i j hi' hj' hlt)
 ·exact he
 ·exact absurd (hj2.trans hi2.symm) (hp j i hj' hi' hgt)
theorem St.set {w0 w:O} {b g0 R:Nat} {cs:List Y} {gs:List Nat} {m:Mx} (h:St w0 w b cs g0 gs R m) {k g:Nat} (hk:gs[k]?=some g) (r:Nat) (v:Bool) :
  St w0 (w.setCell ⟨g,r,none⟩ (.bool v)) b cs g0 gs R (tL m k r v):=by
 have hgm:=List.mem_of_getElem? hk;have hg:=h.gg g hgm;refine ⟨h.x.setCell (by have:=h.lo;omega) _,h.box.other (by have:=h.bg;omega),h.lo,h.bg,h.gg,h.nd,h.out.other (by omega),λk' g' hk'=>?_⟩;by_cases he:k'=k
 ·subst he;rw [hk] at hk';cases hk';rw [LU,<- oH];exact (h.rows _ _ hk).set r _
 ·rw [DG he];exact (h.rows k' g' hk').other λhgg=>he (aHm h.nd hk' (hgg▸hk))
def GU (gs:List Nat) (w:O):Mx:=λk r=>
 match gs[k]? with
 | some g=>(match w.cell? ⟨g,r,none⟩ with|some (.bool b)=>b|_=>false)
 | none=>false
theorem St.read {b:Nat} {m:Mx} (h:St w0 w b cs g0 gs R m) (hk:k < gs.length) (hr:r < R):GU gs w k r=m k r:=by
 obtain ⟨g,hg⟩:=bI hk;unfold GU;rw [hg];have:=(h.rows k g hg).cell r;rw [List.getElem?_map,mN hr] at this;simp [this]
theorem FB {f g:Nat->Bool}:∀ n,(∀ j,j < n->f j=g j)->FC f n=FC g n
 | 0,_=>rfl
 | n+1,h=>by unfold FC;rw [FB n λj hj=>h j (by omega),h n (by omega)]
theorem FD {m m':Mx} {R:Nat}:∀ n,(∀ k r,k < n->r < R->m k r=m' k r)->xJ m R n=xJ m' R n
 | 0,_=>rfl
 | n+1,h=>by unfold xJ;rw [FD n λk r hk hr=>h k r (by omega) hr,FB R λr hr=>h n r (by omega) hr]
theorem St.cnt {b:Nat} {m:Mx} (h:St w0 w b cs g0 gs R m):xJ (GU gs w) R gs.length=xJ m R gs.length:=
 FD _ λ_ _ hk hr=>h.read hk hr
def bJx (p:fU) (R:Nat) (m:Mx) (k:Nat):Prop:=∀ to:Nat,(to:Int)∈(p.at' k).nx k->∀ r < R,vI p (λa b=>m a b=true) to r->m k r=true
def Snd (p:fU) (m:Mx):Prop:=∀ k r,m k r=true->oK p k r
structure Swp (p:fU) (N R:Nat) (m0 m:Mx) (f:Bool):Prop where
 le:∀ k r,m0 k r=true->m k r=true
 snd:Snd p m
 no:f=false->m=m0
 yes:f=true->∃ k r,k < N/\r < R/\m0 k r=false/\m k r=true
theorem Swp.step {p:fU} {m0 m:Mx} (h:Swp p N R m0 m f) (hk:k < N) (hr:r < R) (a:Bool) (ha:a=true->oK p k r) :
  Swp p N R m0 (tL m k r (m k r||a)) (f||(a&&!m k r)):=by
 have hle:∀ k' r',m k' r'=true->tL m k r (m k r||a) k' r'=true:=by
  intro k' r' h';unfold tL;split
  ·rename_i he;rw [he.1,he.2] at h';simp [h']
  ·exact h'
 refine ⟨λk' r' h'=>hle _ _ (h.le _ _ h'),?_,?_,?_⟩
 ·intro k' r' h';unfold tL at h';split at h'
  ·rename_i he
   rw [he.1,he.2];rcases Bool.or_eq_true_iff.1 h' with h1|h1
   ·exact h.snd _ _ h1
   ·exact ha h1
  ·exact h.snd _ _ h'
 ·intro hf;have hf':=Bool.or_eq_false_iff.1 hf
  have:(m k r||a)=m k r:=by
   have:=hf'.2;cases hm:m k r<;>cases a<;>simp_all
  rw [this,aCn];exact h.no hf'.1
 ·intro hf;rcases Bool.or_eq_true_iff.1 hf with h1|h1
  ·obtain ⟨k',r',h2,h3,h4,h5⟩:=h.yes h1;exact ⟨k',r',h2,h3,h4,hle _ _ h5⟩
  ·have h2:a=true/\m k r=false:=by simpa using h1
   refine ⟨k,r,hk,hr,?_,by simp [tL,h2.1]⟩;cases h0:m0 k r with
   | false=>rfl
   | true=>have:=h.le _ _ h0;rw [h2.2] at this;cases this
theorem GH {p:fU} {m:Mx} (hN:N=p.nodes.length) (hv:∀ (i:Nat) n,p.nodes[i]?=some n->pV n i R N) (h:∀ k < N,bJx p R m k):∀ {k r:Nat},oK p k r->k < N->r < R->m k r=true:=by
 intro k r ha
 have hat:∀ k < N,p.nodes[k]?=some (p.at' k):=λk hk=>by
  unfold fU.at';rw [List.getD_eq_getElem?_getD];obtain ⟨n,hn⟩:=bI (l:=p.nodes) (j:=k) (by omega);simp [hn]
 induction ha with
 | use h1 h2=>intro hk hr;exact h _ hk _ h1 _ hr (.inl h2)
 | @pass k to r h1 h2 h3 ih=>
  intro hk hr;have hto:to < N:=by have:=(hv _ _ (hat _ hk)).t _ h1;omega
  exact h _ hk _ h1 _ hr (.inr ⟨h2,ih hto hr⟩)
theorem DH (k R:Nat):(nE (λ_ _=>false) k R).map Value.bool=List.replicate R (.bool false):=by
 apply List.ext_getElem?;intro j;by_cases hj:j < R
 ·simp [mN hj,hj]
 ·simp [nE,hj]
theorem lA.at {p:fU} (hv:lA p) (hk:k < p.nodes.length):p.nodes[k]?=some (p.at' k)/\pV (p.at' k) k p.regs p.nodes.length:=by
 obtain ⟨n,hn⟩:=bI hk;have:p.at' k=n:=by unfold fU.at';rw [List.getD_eq_getElem?_getD,hn];rfl
 rw [this];exact ⟨hn,hv.nodes k n hn⟩
theorem bCp {p:fU} {b:Nat} {m0:Mx} (hN:gs.length=N) (hN2:N<=250) (hR1:R<=40)
  {g:Nat} (hkN:k < N) (hg:gs[k]?=some g) {av:Y} {A:List Bool} (hA:A.length=R) (hgB:∀ g∈gs,g < B)
  (hal:∀ r,A[r]?=some true->oK p k r) {Q:Y->O->Prop} {m:Mx} (hst:St w0 w b cs g0 gs R m) (hsw:Swp p N R m0 m f)
  (ha:w.ownsRow B 4 1 av R (A.map Value.bool))
  (hQ:∀ (f':Bool) (m':Mx) w',St w0 w' b cs g0 gs R m'->Swp p N R m0 m' f'->(f=true->f'=true)->(f'=false->∀ r,A[r]?=some true->m0 k r=true)->aG w0 w'->(∀ B' e size n v xs,w.ownsRow B' e size n v xs->(∀ g∈gs,g < B')->w'.ownsRow B' e size n v xs)->Q (.bool f') w') :
  ∃ (I5:NP 2) (μ5:NF 2),I5 (.bool f) (Value.int IntKind.i64 0) w /\
   ∀ (t5_3:Y) (t62:Y),∀ w37:O,I5 t5_3 t62 w37->∀ _f:bM,
   V prog (binOp .lss 3 t62 (i64 R)) w37 λt63 w38=>
   aI t63 (
   V prog (Instr.indexAt 95 av t62) w38 λt65 w39=>
   V prog (Instr.loadAt 4 t65) w39 λt66 w40=>
   gd t5_3 false (λK=>K t66 w40) w40 λt69 w41=>
   gd t5_3 false (λK=>K t69 w41) w41 λt70 w42=>
   gd t70 true (λK=>K (.slice (some ⟨g0,0,none⟩) N N) w42) w42 λt71 w43=>
   gd t70 true (λK=>K (i64 k) w43) w43 λt72 w44=>
   gd t70 true (λK=>V prog (Instr.indexAt 139 t71 t72) w44 K) w44 λt73 w45=>
   gd t70 true (λK=>V prog (Instr.loadAt 95 t73) w45 K) w45 λt74 w46=>
   gd t70 true (λK=>K t62 w46) w46 λt75 w47=>
   gd t70 true (λK=>V prog (Instr.indexAt 95 t74 t75) w47 K) w47 λt76 w48=>
   gd t70 true (λK=>V prog (Instr.loadAt 4 t76) w48 K) w48 λt77 w49=>
   gd t70 true (λK=>V prog (Op.unary UnOp.not t77) w49 K) w49 λt78 w50=>
   gd t5_3 false (λK=>aH t70 t78 (Value.bool false) λv=>K v w50) w50 λt79 w51=>
   aH t5_3 (Value.bool true) t79 λt80=>
   aL w51 λS22 w53=>
   aF prog S22 (Instr.indexAt 139 (.slice (some ⟨g0,0,none⟩) N N) (i64 k)) λt83=>
   aF prog S22 (Instr.loadAt 95 t83) λt84=>
   aF prog S22 (Instr.indexAt 139 (.slice (some ⟨g0,0,none⟩) N N) (i64 k)) λt88=>
   aF prog S22 (Instr.loadAt 95 t88) λt89=>
   aF prog S22 (Instr.indexAt 95 t89 t62) λt91=>
   aF prog S22 (Instr.loadAt 4 t91) λt92=>
   GD t92 false (λK=>K t66) λt94=>
   aH t92 (Value.bool true) t94 λt95=>
   aF prog S22 (Instr.indexAt 95 t84 t62) λt96=>
   U prog (Instr.storeAt 4 t96 t95) w53 λ_ w54=>
   V prog (binOp .add 3 t62 (Value.int IntKind.i64 1)) w54 λt97 w55=>
   I5 t80 t97 w55/\μ5 t80 t97 w55 < μ5 t5_3 t62 w37) (
   Q t5_3 w38):=by
 have hgm:=List.mem_of_getElem? hg
 refine ⟨λv1 v2 w'=>∃ (f':Bool) (r:Nat) (m':Mx),v1=.bool f'/\v2=i64 r/\r<=R/\St w0 w' b cs g0 gs R m'/\Swp p N R m0 m' f'/\(f=true->f'=true)/\(f'=false->∀ j,j < r->A[j]?=some true->m0 k j=true) /\
   w'.ownsRow B 4 1 av R (A.map Value.bool)/\(∀ B' e size n v xs,w.ownsRow B' e size n v xs->(∀ g∈gs,g < B')->w'.ownsRow B' e size n v xs),λ_ v2 _=>R - (RowKit.intOf v2).toNat,
  ⟨f,0,m,rfl,rfl,Nat.zero_le _,hst,hsw,id,λ_ j hj=>by omega,ha,λ_ _ _ _ _ _ h _=>h⟩,?_⟩
 rintro _ _ w1 ⟨f',r,m',rfl,rfl,hr,hst',hsw',hff,hcl,ha',hkeep⟩ _;refine aZ.2 (aC (λhlt=>?_) λhge=>?_)
 ·have hr':r < R:=by omega
  obtain ⟨a,haa⟩:=bI (l:=A) (j:=r) (by omega);refine JT hO oM ha' (by omega) (by omega) (NQ haa) ?_;have hrow:=hst'.rows k g hg;have hslO:aA w1 (.slice (some ⟨g0,0,none⟩) N N) 1 N (gs.map (sl R)):=hst'.out.slice (by simpa using hN) (by unfold maxLen;omega);have hslR:aA w1 (sl R g) 1 R ((nE m' k R).map Value.bool):=hrow.slice (by simp [gX]) (by unfold maxLen;omega);have hgk:(gs.map (sl R))[((k:Nat):Int).toNat]?=some (sl R g):=by simp [hg]
  have hmk:((nE m' k R).map Value.bool)[((r:Nat):Int).toNat]?=some (.bool (m' k r)):=by simp [mN hr']
  have flag:∀ {Z:Y->O->Prop},Z (.bool (f'||(a&&!m' k r))) w1 ->
    (gd (.bool f') false (λK=>K (.bool a) w1) w1 λt69 w41=>
   gd (.bool f') false (λK=>K t69 w41) w41 λt70 w42=>
   gd t70 true (λK=>K (.slice (some ⟨g0,0,none⟩) N N) w42) w42 λt71 w43=>
   gd t70 true (λK=>K (i64 k) w43) w43 λt72 w44=>
   gd t70 true (λK=>V prog (Instr.indexAt 139 t71 t72) w44 K) w44 λt73 w45=>
   gd t70 true (λK=>V prog (Instr.loadAt 95 t73) w45 K) w45 λt74 w46=>
   gd t70 true (λK=>K (i64 r) w46) w46 λt75 w47=>
   gd t70 true (λK=>V prog (Instr.indexAt 95 t74 t75) w47 K) w47 λt76 w48=>
   gd t70 true (λK=>V prog (Instr.loadAt 4 t76) w48 K) w48 λt77 w49=>
   gd t70 true (λK=>V prog (Op.unary UnOp.not t77) w49 K) w49 λt78 w50=>
   gd (.bool f') false (λK=>aH t70 t78 (Value.bool false) λv=>K v w50) w50 λt79 w51=>
   aH (.bool f') (Value.bool true) t79 λt80=>Z t80 w51):=by
   intro Z hZ;cases f' with
   | true=>simp only [uH,rV,bA,reduceIte];simpa using hZ
   | false=>
    cases a with
    | false=>simp only [pD,lY,bA,Bool.false_eq_true,reduceIte];simpa using hZ
    | true=>
     simp only [pD,mD];refine mH sR oU hslO (by omega) (by omega) hgk ?_;refine mH hO oM hslR (by omega) (by omega) hmk ?_;simp only [dO,bA,Bool.false_eq_true,reduceIte];simpa using hZ
  refine flag ?_;refine aL.mk' (λw'=>w'=w1.drew) rfl ?_;have hx:∀ w',w'=w1.drew->aG w1 w':=λw' h=>h▸(aG.refl _).drew;refine nT sR oU hslO hx (by omega) (by omega) hgk ?_;refine nT sR oU hslO hx (by omega) (by omega) hgk ?_;refine nT hO oM hslR hx (by omega) (by omega) hmk ?_
  have val:∀ {Z:Y->Prop},Z (.bool (m' k r||a))->GD (.bool (m' k r)) false (λK=>K (.bool a)) λt94=>aH (.bool (m' k r)) (Value.bool true) t94 Z:=by
   intro Z hZ;cases hm:m' k r with
   | true=>simp only [US,bA,reduceIte];simpa [hm] using hZ
   | false=>simp only [NR,bA,Bool.false_eq_true,reduceIte];simpa [hm] using hZ
  refine val ?_;refine aF.ok (λw' _=>WP (by omega) (by omega)) ?_;refine U.ok (nF lE rfl (u:=.bool (m' k r)) ?_ ?_) ?_
  ·have:=hrow.cell r;rw [List.getElem?_map,mN hr'] at this;simpa using this
  ·exact hrow.frozen _
  ·refine jS (by omega) ?_;have hset:=(hst'.ext (aG.refl _).drew).set hg r (m' k r||a)
   have hk':∀ {B' e size n v xs},w1.ownsRow B' e size v n xs->(∀ g∈gs,g < B')->(w1.drew.setCell ⟨g,0+(r:Int).toNat*1,none⟩ (.bool (m' k r||a))).ownsRow B' e size v n xs:=by
    intro B' e size n v xs h hB;have h':w1.drew.ownsRow B' e size v n xs:=h;refine h'.kept (row:=some g) ⟨rfl,rfl,rfl,by simp,λi _ hi=>heap_setCell_other _ _ _ _ (λhe=>hi (by simp [he]))⟩ (TP h' λx hx=>?_);cases hx;exact hB g hgm
   refine ⟨⟨f'||(a&&!m' k r),r+1,tL m' k r (m' k r||a),rfl,rfl,by omega,by simpa using hset,hsw'.step hkN hr' a (λh=>hal r (by rw [haa,h])),λh=>by simp [hff h],?_,hk' ha' hgB,λB' e size n v xs h hB=>hk' (hkeep B' e size n v xs h hB) hB⟩,by simp only [aK];omega⟩;intro hf j hj hAj;have hf':=Bool.or_eq_false_iff.1 hf;by_cases hjr:j=r
   ·subst hjr;rw [haa] at hAj;cases hAj;have:m' k j=true:=by simpa using hf'.2
    rw [<- hsw'.no hf'.1];exact this
   ·exact hcl hf'.1 j (by omega) hAj
 ·refine hQ f' m' w1 hst' hsw' hff (λhf r' hr'=>hcl hf r' ?_ hr') hst'.x hkeep;have:=(List.getElem?_eq_some_iff.1 hr').1;omega
def zQ (w:O) (v:Y) (N R:Nat) (m:Mx):Prop:=∃ (g0:Nat) (gs:List Nat),v=.slice (some ⟨g0,0,none⟩) N N/\gs.length=N/\bO w g0 (gs.map (sl R)) 95/\∀ (k g:Nat),gs[k]?=some g->bO w g ((nE m k R).map Value.bool) 4
theorem zQ.ext {w w':O} {v:Y} {N R:Nat} {m:Mx} (h:zQ w v N R m) (hx:aG w w'):zQ w' v N R m:=by
 obtain ⟨g0,gs,h1,h2,h3,h4⟩:=h;exact ⟨g0,gs,h1,h2,h3.ext hx,λk g hk=>(h4 k g hk).ext hx⟩
theorem LR (R g:Nat) (gs:List Nat) (n:Nat) (h:gs.length < n) :
  ((gs.map (sl R))++List.replicate (n - gs.length) (Value.slice none 0 0)).set gs.length (sl R g)=(gs++[g]).map (sl R)++List.replicate (n - (gs++[g]).length) (Value.slice none 0 0):=by
 obtain ⟨k,hk⟩:∃ k,n - gs.length=k+1:=⟨n - gs.length - 1,by omega⟩;have hk2:n - (gs++[g]).length=k:=by simp;omega
 rw [hk,hk2,List.set_append_right _ _ (by simp)];simp [List.replicate_succ]
def aKv (w0 w:O) (v:Y) (N R:Nat) (m:Mx):Prop:=∃ (g0:Nat) (gs:List Nat),v=.slice (some ⟨g0,0,none⟩) N N/\gs.length=N/\bO w g0 (gs.map (sl R)) 95/\(∀ (k g:Nat),gs[k]?=some g->bO w g ((nE m k R).map Value.bool) 4)/\w0.heap.size<=g0/\∀ g∈gs,w0.heap.size<=g
theorem aKv.is {v:Y} {m:Mx} (h:aKv w0 w v N R m):zQ w v N R m:=by
 obtain ⟨g0,gs,h1,h2,h3,h4,_⟩:=h;exact ⟨g0,gs,h1,h2,h3,h4⟩
theorem FF {p:fU} (hp:pW w pv p) (hv:lA p) (hR:p.regs=R) :
  aB prog 84 #[pv] w λr w'=>(∃ m,aKv w w' r p.nodes.length R m/\∀ k r,k < p.nodes.length->r < R->(m k r=true↔oK p k r))/\aG w w':=by
 have hp0:=hp;obtain ⟨ns,rfl,hns,hargs⟩:=hp;have hns0:=hns;obtain ⟨vs,hs,hvs⟩:=hns;have hl1:=hv.l1;have hl2:=hv.l2;have hr1:=hv.r1;have hr2:=hv.r2;have hat:=λ{k:Nat} (hk:k < p.nodes.length)=>hv.at hk;generalize hN:p.nodes.length=N at *;apply bHe;unfold ZP;refine bx λb w1 hb x1=>?_;refine iC hb qY rfl ?_;refine (vB (p:=p) (hp0.ext x1) hv).mono λr w2 ⟨hr,x2⟩=>?_;subst hr;refine dO.2 (aM.2 ?_);have hb2:=hb.ext x2;have X2:=x1.trans x2;refine aV hb2 eR kY rfl (gE nU (hs.ext X2) ?_);refine mkB underlying139 sJ rfl (n:=N) (by omega) (by omega) λw3 ho x3 hsz3=>?_;refine aKq.2 ?_
 have hbB:b < w2.heap.size:=by
  have:=hb2 0 (i64 p.params) rfl;exact World.block_lt_of_cell? _ _ this
 have hlo:w.heap.size<=w2.heap.size:=X2.size;generalize w2.heap.size=g0 at *;have X3:=X2.trans x3
 refine ⟨λv w'=>∃ gs:List Nat,v=i64 gs.length/\gs.length<=N/\aG w w'/\bF w' b [i64 p.params,i64 p.regs,ns]/\(∀ g∈gs,g0 < g)/\gs.Nodup/\(∀ g∈gs,g < w'.heap.size) /\
   bO w' g0 (gs.map (sl R)++List.replicate (N - gs.length) (.slice none 0 0)) 95/\∀ g∈gs,bO w' g (List.replicate R (.bool false)) 4,
  λv _=>N - (RowKit.intOf v).toNat,⟨[],rfl,Nat.zero_le _,X3,hb2.ext x3,by simp,List.nodup_nil,by simp,by simpa using ho,by simp⟩,?_⟩
 rintro _ w4 ⟨gs,rfl,hle,x4,hb4,hgg,hnd,hlt4,ho4,hrows4⟩ _;refine aZ.2 (aC (λhlt=>?_) λhge=>?_)
 ·refine aV hb4 gT aE rfl ?_;refine yP hR underlying95 lE rfl (n:=R) (by omega) (by omega) λw5 hrow x5 hsz5=>?_;refine WH sR sJ (ho4.ext x5) (by simp;omega) (by omega) (by omega) rfl ?_;refine jS (by omega) ?_;simp only [Int.toNat_natCast];have hset:=(ho4.ext x5).set gs.length (sl R w4.heap.size);rw [LR R _ gs N (by omega)] at hset;have hg0:=ho4.lt;refine ⟨⟨gs++[w4.heap.size],by simp,by simp;omega,(x4.trans x5).setCell hlo _,bF.other (g:=g0) (hb4.ext x5) (by omega),?_,?_,?_,hset,?_⟩,by simp only [aK];omega⟩
  ·intro g hg;rcases List.mem_append.1 hg with h|h
   ·exact hgg g h
   ·have:g=w4.heap.size:=by simpa using h
    omega
  ·refine List.nodup_append.2 ⟨hnd,by simp,?_⟩;intro a ha c hc;have:c=w4.heap.size:=by simpa using hc
   have:=hlt4 a ha;omega
  ·intro g hg;simp only [World.size_setCell];rcases List.mem_append.1 hg with h|h
   ·have:=hlt4 g h;omega
   ·have:g=w4.heap.size:=by simpa using h
    omega
  ·intro g hg;rcases List.mem_append.1 hg with h|h
   ·exact ((hrows4 g h).ext x5).other (by have:=hgg g h;omega)
   ·have he:g=w4.heap.size:=by simpa using h
    subst he;exact hrow.other (by omega)
 have hgl:gs.length=N:=by omega
 rw [hgl,Nat.sub_self] at ho4;simp only [List.replicate_zero,List.append_nil] at ho4
 have hst0:St w w4 b [i64 p.params,i64 p.regs,ns] g0 gs R (λ_ _=>false):=
  ⟨x4,hb4,hlo,hbB,hgg,hnd,ho4,λk g hk=>by rw [DH];exact hrows4 g (List.mem_of_getElem? hk)⟩
 clear hrows4 ho4 hlt4 hle hge hb4 x4;have hslO:∀ {w' m},St w w' b [i64 p.params,i64 p.regs,ns] g0 gs R m->aA w' (.slice (some ⟨g0,0,none⟩) N N) 1 N (gs.map (sl R)):=λh=>h.out.slice (by simpa using hgl) (by unfold maxLen;omega);have hslR:∀ {w' m k g},St w w' b [i64 p.params,i64 p.regs,ns] g0 gs R m->gs[k]?=some g->aA w' (sl R g) 1 R ((nE m k R).map Value.bool):=λh hk=>(h.rows _ _ hk).slice (by simp [gX]) (by unfold maxLen;omega)
 have hglt:∀ {w' m},St w w' b [i64 p.params,i64 p.regs,ns] g0 gs R m->∀ g∈gs,g < w'.heap.size:=λh g hg=>by
  obtain ⟨k,hk⟩:=List.getElem?_of_mem hg;exact (h.rows k g hk).lt
 refine ⟨λv w'=>∃ (f:Bool) (m:Mx),v=.bool f/\St w w' b [i64 p.params,i64 p.regs,ns] g0 gs R m/\Snd p m/\(f=false->∀ k < N,bJx p R m k),
  λv w'=>2*xJ (GU gs w') R gs.length+(match v with|.bool true=>1|_=>0),⟨true,_,rfl,hst0,(λ_ _ h=>by cases h),(λh=>by cases h)⟩,?_⟩
 rintro _ w5 ⟨f0,m0,rfl,hst,hsnd,hcl⟩ _;refine aI.mk (λhf=>?_) λhf=>?_
 rotate_left
 ·refine ⟨⟨m0,⟨g0,gs,rfl,hgl,hst.out,hst.rows,hst.lo,λg hg=>Nat.le_of_lt (Nat.lt_of_le_of_lt hst.lo (hst.gg g hg))⟩,λk r hk hr=>⟨hsnd k r,λh=>?_⟩⟩,hst.x⟩;exact GH hN.symm (λi n hn=>hR▸hN▸hv.nodes i n hn) (hcl hf) h hk hr
 subst hf;refine aV hst.box eR kY rfl (gE nU (hs.ext hst.x) (fT.2 ?_));rw [aQ (by omega)]
 refine ⟨λv1 v2 w'=>∃ (f:Bool) (kk:Int) (m:Mx),v1=.bool f/\v2=i64 kk/\-1<=kk/\kk < N/\St w w' b [i64 p.params,i64 p.regs,ns] g0 gs R m/\Swp p N R m0 m f/\(f=false->∀ k:Nat,kk < k->k < N->bJx p R m0 k),
  λ_ v2 _=>(RowKit.intOf v2+1).toNat,⟨false,_,m0,rfl,rfl,by omega,by omega,hst,⟨λ_ _ h=>h,hsnd,λ_=>rfl,(λh=>by cases h)⟩,λ_ k h1 h2=>by omega⟩,?_⟩
 rintro _ _ w6 ⟨f,kk,m,rfl,rfl,hk1,hk2,hst6,hsw6,hcl6⟩ _;refine fK.2 (aC (λhge=>?_) λhlt=>?_)
 rotate_left
 ·-- the sweep is over
  have hkk:kk=-1:=by have:¬ 0<=kk:=hlt;omega
  refine ⟨⟨f,m,rfl,hst6,hsw6.snd,λhf k hk=>?_⟩,?_⟩
  ·rw [hsw6.no hf];exact hcl6 hf k (by omega) hk
  ·show 2*xJ (GU gs w6) R gs.length+_ < 2*xJ (GU gs w5) R gs.length+1;rw [hst6.cnt,hst.cnt];cases f with
   | false=>
    have:=KJ hsw6.le R gs.length;show 2*_+0 < _;omega
   | true=>
    obtain ⟨k,r,h1,h2,h3,h4⟩:=hsw6.yes rfl;have:=YJ hsw6.le h2 h3 h4 gs.length (by omega);show 2*_+1 < _;omega
 have hge':0<=kk:=hge;obtain ⟨k,rfl⟩:=Int.eq_ofNat_of_zero_le hge';have hk:k < N:=by omega
 obtain ⟨g,hg⟩:=bI (l:=gs) (j:=k) (by omega);obtain ⟨hpk,hrk⟩:=hat hk;obtain ⟨u,hu,hnu⟩:=hvs k _ hpk;refine aV hst6.box eR kY rfl ?_;refine mH nU BE (hs.ext hst6.x) (by omega) (by omega) (by simpa using hu) ?_;refine (XG (hnu.ext hst6.x) (by omega) (by omega)).mono λtl w7 ⟨htl,x7⟩=>?_;refine gE aP (aA.of_own htl) ?_;have hst7:=hst6.ext x7;have hlen:=aHk (p.at' k) k
 refine ⟨λv1 v2 w'=>∃ (f':Bool) (j:Nat) (m':Mx),v1=.bool f'/\v2=i64 j/\j<=((p.at' k).nx k).length/\St w w' b [i64 p.params,i64 p.regs,ns] g0 gs R m'/\Swp p N R m0 m' f'/\(f=true->f'=true) /\
   (f'=false->∀ (i:Nat) (to:Nat),i < j->((p.at' k).nx k)[i]?=some (to:Int)->∀ r < R,vI p (λa b=>m0 a b=true) to r->m0 k r=true)/\w'.ownsRow w6.heap.size 3 1 tl ((p.at' k).nx k).length (((p.at' k).nx k).map i64),
  λ_ v2 _=>((p.at' k).nx k).length - (RowKit.intOf v2).toNat,⟨f,0,m,rfl,rfl,Nat.zero_le _,hst7,hsw6,id,λ_ i to hi=>by omega,htl⟩,?_⟩
 rintro _ _ w8 ⟨f',j,m',rfl,rfl,hj,hst8,hsw8,hff,hcl8,htl8⟩ _;refine aZ.2 (aC (λhjlt=>?_) λhjge=>?_)
 rotate_left
 ·refine fT.2 ?_;rw [aQ (by omega)];refine ⟨⟨f',(k:Int) - 1,m',rfl,rfl,by omega,by omega,hst8,hsw8,λhf k' hk' hkN=>?_⟩,by simp only [aK];omega⟩;by_cases he:k'=k
  ·subst he;intro to hto r hr ha;obtain ⟨i,hi⟩:=List.getElem?_of_mem hto;have hi':=(List.getElem?_eq_some_iff.1 hi).1;exact hcl8 hf i to (by omega) hi r hr ha
  ·have hf0:f=false:=by cases f with|false=>rfl|true=>rw [hff rfl] at hf;cases hf
   exact hcl6 hf0 k' (by omega) hkN
 obtain ⟨to,hto⟩:=bI (l:=(p.at' k).nx k) (j:=j) (by omega);have htor:=hrk.t to (List.mem_of_getElem? hto);obtain ⟨to,rfl⟩:=Int.eq_ofNat_of_zero_le htor.1;have htoN:to < N:=by omega
 obtain ⟨hpt,hrt⟩:=hat htoN;obtain ⟨ut,hut,hnut⟩:=hvs to _ hpt;obtain ⟨gt,hgt⟩:=bI (l:=gs) (j:=to) (by omega);refine JT aP aE htl8 (by omega) (by omega) (cM hto) ?_;refine aL.mk' (λw'=>aG w8 w') (aG.refl _).drew ?_;refine iB (λw' hw=>hst8.box.ext hw) eR kY rfl ?_;refine nT nU BE (hs.ext hst8.x) (λ_ h=>h) (by omega) (by omega) (by simpa using hut) ?_;refine nT sR oU (hslO hst8) (λ_ h=>h) (by omega) (by omega) (by simp [hgt]:(gs.map (sl R))[((to:Nat):Int).toNat]?=some (sl R gt)) ?_;have hrl:=gX m' to R;have hdf:(p.at' to).df < R:=by rcases hrt.d with h|h<;>omega
 have hus:∀ r∈(p.at' to).us,0<=r/\r < ((nE m' to R).length:Int):=λr hr=>by have:=hrt.u r hr;rw [hrl];omega
 have hrow8:gO w8.drew (sl R gt) (nE m' to R):=by
  have:=(hslR hst8 hgt).ext (aG.refl _).drew;unfold gO;rw [hrl];exact this
 refine (OK (hnut.ext (hst8.x.trans (aG.refl _).drew)) hrow8 (hargs _ (List.mem_of_getElem? hpt)) (by omega) (by rw [hrl];exact hdf) hus).mono λav w9 ⟨hav,x9⟩=>?_;have x9':aG w8 w9:=aG.trans (aG.refl _).drew x9;refine ⟨x9',?_⟩;rw [hrl] at hav;refine sZ hO (aA.of_own hav) ?_;have hst9:=hst8.ext x9'
 have hag:∀ r,r < R->(vD (p.at' to) (nE m' to R))[r]?=some (decide ((r:Int)∈(p.at' to).us)||(decide ((r:Int)≠(p.at' to).df)&&m' to r)):=λr hr=>by
  rw [FJ (by rw [hrl];exact hr) (λx hx=>(hus x hx).1)]
  congr 3
  rw [List.getD_eq_getElem?_getD,mN hr];rfl
 have hagT:∀ r,r < R->((vD (p.at' to) (nE m' to R))[r]?=some true↔vI p (λa b=>m' a b=true) to r):=λr hr=>by
  rw [hag r hr];simp [vI]
 refine bCp hgl hl2 (by omega) hk hg (A:=vD (p.at' to) (nE m' to R)) (by rw [xP,hrl]) (hglt hst8) (λr hr=>?_) hst9 hsw8 hav ?_
 ·have hrR:r < R:=by have:=(List.getElem?_eq_some_iff.1 hr).1;rw [xP,hrl] at this;exact this
  rw [hagT r hrR] at hr;rcases hr with h|⟨h1,h2⟩
  ·exact .use (List.mem_of_getElem? hto) h
  ·exact .pass (List.mem_of_getElem? hto) h1 (hsw8.snd _ _ h2)
 ·intro f'' m'' w10 hst10 hsw10 hff10 hcl10 _ hkeep;refine jS (by omega) ?_;refine ⟨⟨f'',j+1,m'',rfl,rfl,by omega,hst10,hsw10,λh=>hff10 (hff h),λhf i to' hi hto' r hr ha=>?_,hkeep _ _ _ _ _ _ (x9'.own htl8) (λg hg=>hglt hst6 g hg)⟩,by simp only [aK];omega⟩;by_cases hij:i=j
  ·subst hij;rw [hto] at hto';have:(to:Int)=to':=by simpa using hto'
   have:to=to':=by omega
   subst this;have hf':f'=false:=by cases f' with|false=>rfl|true=>rw [hff10 rfl] at hf;cases hf
   refine hcl10 hf r ?_;rw [hagT r hr,hsw8.no hf'];exact ha
  ·have hf':f'=false:=by cases f' with|false=>rfl|true=>rw [hff10 rfl] at hf;cases hf
   exact hcl8 hf' i to' (by omega) hto' r hr ha
theorem aEr {p:fU} (hp:pW w pv p) (hv:lA p) (hR:p.regs=R) :
  aB prog 84 #[pv] w λr w'=>(∃ m,zQ w' r p.nodes.length R m/\∀ k r,k < p.nodes.length->r < R->(m k r=true↔oK p k r))/\aG w w':=
 (FF hp hv hR).mono λ_ _ ⟨⟨m,h1,h2⟩,hx⟩=>⟨⟨m,h1.is,h2⟩,hx⟩
theorem zQ.row {v:Y} {m:Mx} (h:zQ w v N R m) (hN:N<=250) (hR:R<=40):∃ cs,aA w v 1 N cs/\∀ k,k < N->∃ u,cs[k]?=some u/\gO w u (nE m k R):=by
 obtain ⟨g0,gs,rfl,hl,h1,h2⟩:=h;refine ⟨_,h1.slice (by simpa using hl) (by unfold maxLen;omega),λk hk=>?_⟩;obtain ⟨g,hg⟩:=bI (l:=gs) (j:=k) (by omega);refine ⟨sl R g,by simp [hg],?_⟩;have:=(h2 k g hg).slice (n:=R) (by simp [gX]) (by unfold maxLen;omega);unfold gO;rw [gX];exact this
def bOc (p:fU) (R:Nat) (m:Mx):Bool:=
 (List.range p.nodes.length).all λk=>((p.at' k).nx k).all λto=>(List.range R).all λr=>!((p.at' to.toNat).us.contains (r:Int)||(decide ((r:Int)≠(p.at' to.toNat).df)&&m to.toNat r))||m k r
structure iL where
 op:Int
 d:Int
 n:Int
 m:Int
 imm:Int
 cond:Int
inductive cO where
 | one (i:iL)
 | place (l:Int)
 | jump (c l:Int)
 | load (r n:Int)
def cO.cells:cO->List Y
 | .one i=>[i64 1,i64 i.op,i64 i.d,i64 i.n,i64 i.m,i64 i.imm,i64 i.cond,i64 0,i64 0,i64 0,i32 0]
 | .place l=>[i64 2,i64 0,i64 0,i64 0,i64 0,i64 0,i64 0,i64 l,i64 0,i64 0,i32 0]
 | .jump c l=>[i64 3,i64 0,i64 0,i64 0,i64 0,i64 0,i64 0,i64 l,i64 c,i64 0,i32 0]
 | .load r n=>[i64 4,i64 0,i64 0,i64 0,i64 0,i64 0,i64 0,i64 0,i64 0,i64 r,i32 n]
theorem cO.len (x:cO):x.cells.length=11:=by cases x<;>rfl
def itC (l:List cO):List Y:=l.flatMap cO.cells
def iP (op d m:Int):cO:=.one ⟨op,d,0,m,0,0⟩
def jK (op d n:Int):cO:=.one ⟨op,d,0,0,n,0⟩
def eLd (of:List Int) (reg r:Int):cO:=let a:=of.getD r.toNat 0;if a < 16 then iP 28 reg a else jK 35 reg (4*(a - 16))
def eSt (of:List Int) (r reg:Int):cO:=let a:=of.getD r.toNat 0;if a < 16 then iP 28 a reg else jK 36 reg (4*(a - 16))
def nC (l:Int):List cO:=[jK 9 7 0,.jump 1 l,.one ⟨44,0,0,0,0,0⟩,.place l,jK 11 7 1]
def rX:List cO:=[jK 8 0 0,iP 17 0 0]
def lR:List cO:=[iP 22 0 1,iP 18 0 0,iP 21 0 0]
def rW:List cO:=iP 21 0 0::rX
def pQ (op:Int):List cO:=[jK 8 2 31,iP 12 1 2,iP op 0 1]
def oZ (op:Int):List cO:=
 if op=6 then [.one ⟨4,0,0,1,0,0⟩] else if op=7 then [.one ⟨5,0,0,1,0,0⟩] else if op=8 then [iP 25 0 1] else if op=9 then [iP 12 0 1] else if op=10 then [iP 24 0 1]
 else if op=11 then [iP 13 0 1] else if op=12 then pQ 14 else if op=13 then pQ 15 else if op=14 then pQ 16 else if op=19 then .one ⟨5,0,0,1,0,0⟩::rW
 else if op=20 then .load 2 (-2147483648)::iP 13 0 2::iP 13 1 2::lR else lR
def eUn (op:Int):List cO:=if op=15 then [iP 21 0 0] else if op=16 then [iP 27 0 0] else rW
def lC:List cO:=[iP 21 0 0,iP 18 0 0,iP 13 1 2,iP 12 0 1,iP 13 0 2]
def uA (applet:Int):cO:=.load 1 (IntKind.i32.wrap (131072+64*applet))
def jU (of:List Int) (l:List Int):List cO:=(List.range l.length).map λ(k:Nat)=>eLd of (k:Int) (l.getD k 0)
def vW (of:List Int) (n:aD):List cO:=if n.df>=0 then [eSt of n.df 0] else []
def aD.srvB:aD->Bool
 | .serve ..|.call ..|.callX ..|.ret _=>true
 | _=>false
def aD.tkB:aD->Bool
 | .tick=>true
 | _=>false
def pH (of:List Int) (N applet:Int) (tl:Nat) (n:aD) (at':Int):List cO:=
 (match n with
 | .const _ k=>[.load 0 k]
 | .move _ _=>jU of n.us
 | .bin op _ _ _=>jU of n.us++oZ op
 | .un op _ _=>jU of n.us++eUn op
 | .choose _ _ _ _=>jU of n.us++lC
 | .tick=>nC (N+at')
 | .goto t=>[.jump 14 t]
 | .branch _ t=>jU of n.us++[jK 9 0 0,.jump 1 t]
 | .getField _ f=>[uA applet,.one ⟨31,0,1,0,4*f,0⟩]
 | .putField f _=>jU of n.us++[uA applet,.one ⟨32,0,1,0,4*f,0⟩]
 | _=>jU of n.us++[.one ⟨44,0,0,0,(tl:Int)+1,0⟩])++vW of n
def gN (p:fU) (of:List Int) (applet:Int):Nat->List cO × List aD
 | 0=>((List.range p.params.toNat).map λ(k:Nat)=>eSt of (k:Int) (k:Int),[])
 | k+1=>
  let s:=gN p of applet k
  (s.1++.place k::pH of p.nodes.length applet s.2.length (p.at' k) k,if (p.at' k).srvB then s.2++[p.at' k] else s.2)
def AC (x:Int):Prop:=0<=x/\x<=7
def iL.okT (i:iL):Prop:=
 (i.op=28/\(0<=i.d/\i.d < 15/\i.d≠13)/\(0<=i.m/\i.m < 15)/\i.n=0/\i.imm=0/\i.cond=0)
 \/ ((i.op=35\/i.op=36)/\AC i.d/\i.n=0/\i.m=0/\(0<=i.imm/\i.imm<=1020/\i.imm % 4=0)/\i.cond=0)
 \/ ((8<=i.op/\i.op<=11)/\AC i.d/\i.n=0/\i.m=0/\(0<=i.imm/\i.imm<=255)/\i.cond=0)
 \/ ((12<=i.op/\i.op<=27)/\AC i.d/\i.n=0/\AC i.m/\i.imm=0/\i.cond=0)
 \/ ((i.op=4\/i.op=5)/\AC i.d/\AC i.n/\AC i.m/\i.imm=0/\i.cond=0)
 \/ ((i.op=31\/i.op=32)/\AC i.d/\AC i.n/\i.m=0/\(0<=i.imm/\i.imm<=124/\i.imm % 4=0)/\i.cond=0)
 \/ (i.op=44/\i.d=0/\i.n=0/\i.m=0/\(0<=i.imm/\i.imm<=255)/\i.cond=0)
def cO.okI:cO->Prop
 | .one i=>i.okT
 | .place l=>0<=l/\l<=2000
 | .jump c l=>(0<=l/\l<=2000)/\(0<=c/\c<=14)
 | .load r _=>AC r
def cO.pl:cO->List Int
 | .place l=>[l]
 | _=>[]
def cO.jl:cO->List Int
 | .jump _ l=>[l]
 | _=>[]
def kH (l:List cO):List Int:=l.flatMap cO.pl
def tU (l:List cO):List Int:=l.flatMap cO.jl
def ON (of:List Int) (R:Nat):Prop:=∀ r:Int,0<=r->r < R->of.getD r.toNat 0=5\/of.getD r.toNat 0=6\/(16<=of.getD r.toNat 0/\of.getD r.toNat 0 < 56)
theorem bCm (h:12<=op/\op<=27) (hd:AC d) (hm:AC m):(iP op d m).okI:=.inr (.inr (.inr (.inl ⟨h,hd,rfl,hm,rfl,rfl⟩)))
theorem DA {n:Int} (h:8<=op/\op<=11) (hd:AC d) (hn:0<=n/\n<=255):(jK op d n).okI:=.inr (.inr (.inl ⟨h,hd,rfl,rfl,hn,rfl⟩))
theorem kI:AC 0:=⟨by decide,by decide⟩
theorem rO:AC 1:=⟨by decide,by decide⟩
theorem DO:AC 2:=⟨by decide,by decide⟩
theorem bFg {of:List Int} {r:Int} (ho:ON of R) (hg:AC reg) (h0:0<=r) (h1:r < R):(eLd of reg r).okI/\(eLd of reg r).pl=[]/\(eLd of reg r).jl=[]:=by
 have hr:=ho r h0 h1;unfold eLd;obtain ⟨g0,g7⟩:=hg;by_cases h:of.getD r.toNat 0 < 16
 ·simp only [h,if_true];refine ⟨.inl ⟨rfl,⟨g0,?_,?_⟩,⟨?_,?_⟩,rfl,rfl,rfl⟩,rfl,rfl⟩<;>dsimp only<;>omega
 ·simp only [h,if_false];refine ⟨.inr (.inl ⟨.inl rfl,⟨g0,g7⟩,rfl,rfl,⟨?_,?_,?_⟩,rfl⟩),rfl,rfl⟩<;>dsimp only<;>omega
theorem aJo {of:List Int} {r:Int} (ho:ON of R) (hg:AC reg) (h0:0<=r) (h1:r < R):(eSt of r reg).okI/\(eSt of r reg).pl=[]/\(eSt of r reg).jl=[]:=by
 have hr:=ho r h0 h1;unfold eSt;obtain ⟨g0,g7⟩:=hg;by_cases h:of.getD r.toNat 0 < 16
 ·simp only [h,if_true];refine ⟨.inl ⟨rfl,⟨?_,?_,?_⟩,⟨g0,?_⟩,rfl,rfl,rfl⟩,rfl,rfl⟩<;>dsimp only<;>omega
 ·simp only [h,if_false];refine ⟨.inr (.inl ⟨.inr rfl,⟨g0,g7⟩,rfl,rfl,⟨?_,?_,?_⟩,rfl⟩),rfl,rfl⟩<;>dsimp only<;>omega
structure lG (l:List cO) (n:Nat):Prop where
 ok:∀ x∈l,x.okI
 pl:kH l=[]
 jl:tU l=[]
 len:l.length<=n
theorem lG.nil:lG [] 0:=⟨λx h=>(by cases h),rfl,rfl,Nat.le_refl _⟩
theorem lG.cons {x:cO} {l:List cO} (hx:x.okI/\x.pl=[]/\x.jl=[]) (h:lG l n):lG (x::l) (n+1):=by
 refine ⟨λy hy=>?_,?_,?_,Nat.succ_le_succ h.len⟩
 ·rcases List.mem_cons.1 hy with rfl|hy
  ·exact hx.1
  ·exact h.ok y hy
 ·show x.pl++kH l=[];rw [hx.2.1,h.pl];rfl
 ·show x.jl++tU l=[];rw [hx.2.2,h.jl];rfl
theorem lG.app {l l':List cO} (h:lG l n) (h':lG l' n'):lG (l++l') (n+n'):=by
 refine ⟨λy hy=>?_,?_,?_,by rw [List.length_append];have:=h.len;have:=h'.len;omega⟩
 ·rcases List.mem_append.1 hy with hy|hy
  ·exact h.ok y hy
  ·exact h'.ok y hy
 ·show kH (l++l')=[];unfold kH;rw [List.flatMap_append];show kH l++kH l'=[];rw [h.pl,h'.pl];rfl
 ·show tU (l++l')=[];unfold tU;rw [List.flatMap_append];show tU l++tU l'=[];rw [h.jl,h'.jl];rfl
theorem lG.mono {l:List cO} (h:lG l n) (hn:n<=n'):lG l n':=⟨h.ok,h.pl,h.jl,Nat.le_trans h.len hn⟩
theorem tG (h:12<=op/\op<=27) (hd:AC d) (hm:AC m):(iP op d m).okI/\(iP op d m).pl=[]/\(iP op d m).jl=[]:=⟨bCm h hd hm,rfl,rfl⟩
theorem UV {n:Int} (h:8<=op/\op<=11) (hd:AC d) (hn:0<=n/\n<=255):(jK op d n).okI/\(jK op d n).pl=[]/\(jK op d n).jl=[]:=⟨DA h hd hn,rfl,rfl⟩
theorem bFb (h:op=4\/op=5):(cO.one ⟨op,0,0,1,0,0⟩).okI/\(cO.one ⟨op,0,0,1,0,0⟩).pl=[]/\(cO.one ⟨op,0,0,1,0,0⟩).jl=[]:=⟨.inr (.inr (.inr (.inr (.inl ⟨h,kI,kI,rO,rfl,rfl⟩)))),rfl,rfl⟩
theorem YC {r n:Int} (h:AC r):(cO.load r n).okI/\(cO.load r n).pl=[]/\(cO.load r n).jl=[]:=⟨h,rfl,rfl⟩
theorem NY:lG lR 3:=lG.nil.cons (tG (by decide) kI kI) |>.cons (tG (by decide) kI kI) |>.cons (tG (by decide) kI rO)
theorem aJt:lG rX 2:=lG.nil.cons (tG (by decide) kI kI) |>.cons (UV (by decide) kI (by decide))
theorem YE:lG rW 3:=aJt.cons (tG (by decide) kI kI)
theorem EY (h:12<=op/\op<=27):lG (pQ op) 3:=lG.nil.cons (tG h kI rO) |>.cons (tG (by decide) rO DO) |>.cons (UV (by decide) DO (by decide))
theorem UX (op:Int):lG (oZ op) 6:=by
 unfold oZ;have one:∀ {x:cO},(x.okI/\x.pl=[]/\x.jl=[])->lG [x] 6:=λh=>(lG.nil.cons h).mono (by decide);split;· exact one (bFb (.inl rfl))
 split;· exact one (bFb (.inr rfl))
 split;· exact one (tG (by decide) kI rO)
 split;· exact one (tG (by decide) kI rO)
 split;· exact one (tG (by decide) kI rO)
 split;· exact one (tG (by decide) kI rO)
 split;· exact (EY (by decide)).mono (by decide)
 split;· exact (EY (by decide)).mono (by decide)
 split;· exact (EY (by decide)).mono (by decide)
 split;· exact (YE.cons (bFb (.inr rfl))).mono (by decide)
 split
 ·exact (NY.cons (tG (by decide) rO DO)).cons (tG (by decide) kI DO) |>.cons (YC DO)
 ·exact NY.mono (by decide)
theorem aJn (op:Int):lG (eUn op) 3:=by
 unfold eUn;split;· exact (lG.nil.cons (tG (by decide) kI kI)).mono (by decide)
 split;· exact (lG.nil.cons (tG (by decide) kI kI)).mono (by decide)
 exact YE
theorem aEg:lG lC 5:=lG.nil.cons (tG (by decide) kI DO) |>.cons (tG (by decide) kI rO) |>.cons (tG (by decide) rO DO) |>.cons (tG (by decide) kI kI) |>.cons (tG (by decide) kI kI)
theorem bFf {of:List Int} {l:List Int} (ho:ON of R) (hl:∀ r∈l,0<=r/\r < R) (h5:l.length<=5):lG (jU of l) 5:=by
 have each:∀ x∈jU of l,x.okI/\x.pl=[]/\x.jl=[]:=λx hx=>by
  simp only [jU,List.mem_map,List.mem_range] at hx;obtain ⟨k,hk,rfl⟩:=hx;have hm:l.getD k 0∈l:=by rw [List.getD_eq_getElem?_getD,List.getElem?_eq_getElem hk];exact List.getElem_mem hk
  obtain ⟨a,b⟩:=hl _ hm;exact bFg ho ⟨by omega,by omega⟩ a b
 have fl:∀ m:List cO,(∀ x∈m,x.okI/\x.pl=[]/\x.jl=[])->lG m m.length:=λm=>by
  induction m with
  | nil=>exact λ_=>lG.nil
  | cons x m ih=>exact λh=>(ih λy hy=>h y (List.mem_cons_of_mem _ hy)).cons (h x List.mem_cons_self)
 exact (fl _ each).mono (by simpa [jU] using h5)
theorem pV.us5 {n:aD} {k r c:Int} (h:pV n k r c):n.us.length<=5:=by
 have hf:=h.f;cases n with
 | serve op a b d l=>
  have hf:nO op=l.length:=hf;unfold nO at hf;show l.length<=5;split at hf
  ·omega
  ·split at hf
   ·omega
   ·split at hf
    ·omega
    ·split at hf<;>omega
 | call m d l=>have:=hf.2;show l.length<=5;omega
 | callX m d l=>have:=hf.2;show l.length<=5;omega
 | ret s=>simp only [aD.us];split<;>simp
 | _=>simp [aD.us]
theorem rP (l l':List cO):kH (l++l')=kH l++kH l':=by unfold kH;rw [List.flatMap_append]
theorem NB (l l':List cO):tU (l++l')=tU l++tU l':=by unfold tU;rw [List.flatMap_append]
theorem bFh {of:List Int} {n:aD} {k c:Int} (ho:ON of R) (hn:pV n k R c):lG (vW of n) 1:=by
 unfold vW;split
 ·rename_i h
  rcases hn.d with h1|h1
  ·exact lG.nil.cons (aJo ho kI h1.1 h1.2)
  ·omega
 ·exact lG.nil.mono (by decide)
structure NOk (n:aD) (N:Nat) (k:Nat) (l:List cO):Prop where
 ok:∀ x∈l,x.okI
 pl:kH l=if n.tkB then [(N:Int)+k] else []
 jl:∀ q∈tU l,(0<=q/\q < N)\/(n.tkB=true/\q=(N:Int)+k)
 len:l.length<=13
theorem NOk.of_flat {n:aD} {m:Nat} {l:List cO} (hn:n.tkB=false) (h:lG l m) (hm:m<=13):NOk n N k l:=⟨h.ok,(by rw [hn,h.pl];rfl),λq hq=>(by rw [h.jl] at hq;cases hq),Nat.le_trans h.len hm⟩
theorem aJp {of:List Int} {tl:Nat} {n:aD} (ho:ON of R) (hn:pV n k R N) (hN:N<=250) (hk:k < N) (ht:tl<=k):NOk n N k (pH of N applet tl n k):=by
 have h5:=hn.us5;have hl:lG (jU of n.us) 5:=bFf ho hn.u h5;have hd:=bFh ho hn;have hd0:∀ {n:aD},n.df=-1->vW of n=[]:=λh=>by unfold vW;rw [if_neg (by omega)]
 have jump:∀ {c t:Int} {l:List cO} {m:Nat},lG l m->m<=12->(0<=t/\t < N)->0<=c/\c<=14->n.tkB=false->NOk n N k (l++[.jump c t]):=λ{c t l m} hf hm h2 hc hne=>⟨λx hx=>by
   rcases List.mem_append.1 hx with hx|hx
   ·exact hf.ok x hx
   ·rw [List.mem_singleton] at hx;subst hx;exact ⟨⟨h2.1,by omega⟩,hc⟩,by rw [rP,hf.pl,hne];rfl,λq hq=>by
   rw [NB,hf.jl] at hq;have:q=t:=by simpa [tU,cO.jl] using hq
   subst this;exact .inl h2,by rw [List.length_append];have:=hf.len;simp;omega⟩
 cases n with
 | const d v=>exact .of_flat rfl ((lG.nil.cons (YC (n:=v) kI)).app hd) (by decide)
 | move d s=>exact .of_flat rfl (hl.app hd) (by decide)
 | bin op d a b=>exact .of_flat rfl ((hl.app (UX op)).app hd) (by decide)
 | un op d a=>exact .of_flat rfl ((hl.app (aJn op)).app hd) (by decide)
 | choose d c a b=>exact .of_flat rfl ((hl.app aEg).app hd) (by decide)
 | tick=>
  show NOk .tick N k (nC ((N:Int)+k)++vW of .tick);rw [hd0 rfl,List.append_nil];refine ⟨λx hx=>?_,by simp [nC,kH,cO.pl,jK,aD.tkB],λq hq=>.inr ⟨rfl,by simpa [nC,tU,cO.jl,jK] using hq⟩,by simp [nC]⟩;simp only [nC,List.mem_cons,List.not_mem_nil,or_false] at hx;rcases hx with rfl|rfl|rfl|rfl|rfl
  ·exact DA (by decide) ⟨by decide,by decide⟩ (by decide)
  ·exact ⟨⟨by omega,by omega⟩,by decide⟩
  ·exact .inr (.inr (.inr (.inr (.inr (.inr ⟨rfl,rfl,rfl,rfl,by decide,rfl⟩)))))
  ·exact ⟨by omega,by omega⟩
  ·exact DA (by decide) ⟨by decide,by decide⟩ (by decide)
 | goto t=>
  show NOk (.goto t) N k ([.jump 14 t]++vW of (.goto t));rw [hd0 rfl,List.append_nil];exact jump (l:=[]) lG.nil (by decide) (hn.t t (by simp [aD.nx])) (by decide) rfl
 | branch c t=>
  show NOk (.branch c t) N k ((jU of _++[jK 9 0 0,.jump 1 t])++vW of (.branch c t));rw [hd0 rfl,List.append_nil,show [jK 9 0 0,cO.jump 1 t]=[jK 9 0 0]++[.jump 1 t] from rfl,<- List.append_assoc]
  have h2:0<=t/\t < N:=by
   refine hn.t t ?_;simp only [aD.nx];split
   ·rename_i h;rw [h];exact List.mem_singleton.2 rfl
   ·simp
  exact jump (hl.app (lG.nil.cons (UV (by decide) kI (by decide)))) (by decide) h2 (by decide) rfl
 | getField d f=>
  have hf:0<=f/\f < 8:=hn.f;refine .of_flat rfl (((lG.nil.cons (x:=.one ⟨31,0,1,0,4*f,0⟩) ⟨.inr (.inr (.inr (.inr (.inr (.inl ⟨.inl rfl,kI,rO,rfl,⟨?_,?_,?_⟩,rfl⟩))))),rfl,rfl⟩).cons (YC rO)).app hd) (by decide)<;>dsimp only<;>omega
 | putField f s=>
  have hf:0<=f/\f < 8:=hn.f;refine .of_flat rfl ((hl.app ((lG.nil.cons (x:=.one ⟨32,0,1,0,4*f,0⟩) ⟨.inr (.inr (.inr (.inr (.inr (.inl ⟨.inr rfl,kI,rO,rfl,⟨?_,?_,?_⟩,rfl⟩))))),rfl,rfl⟩).cons (YC rO))).app hd) (by decide)<;>dsimp only<;>omega
 | serve op a b d l=>exact .of_flat rfl ((hl.app (lG.nil.cons (x:=.one ⟨44,0,0,0,(tl:Int)+1,0⟩) ⟨.inr (.inr (.inr (.inr (.inr (.inr ⟨rfl,rfl,rfl,rfl,⟨by dsimp only;omega,by dsimp only;omega⟩,rfl⟩))))),rfl,rfl⟩)).app hd) (by decide)
 | call m d l=>exact .of_flat rfl ((hl.app (lG.nil.cons (x:=.one ⟨44,0,0,0,(tl:Int)+1,0⟩) ⟨.inr (.inr (.inr (.inr (.inr (.inr ⟨rfl,rfl,rfl,rfl,⟨by dsimp only;omega,by dsimp only;omega⟩,rfl⟩))))),rfl,rfl⟩)).app hd) (by decide)
 | callX m d l=>exact .of_flat rfl ((hl.app (lG.nil.cons (x:=.one ⟨44,0,0,0,(tl:Int)+1,0⟩) ⟨.inr (.inr (.inr (.inr (.inr (.inr ⟨rfl,rfl,rfl,rfl,⟨by dsimp only;omega,by dsimp only;omega⟩,rfl⟩))))),rfl,rfl⟩)).app hd) (by decide)
 | ret s=>exact .of_flat rfl ((hl.app (lG.nil.cons (x:=.one ⟨44,0,0,0,(tl:Int)+1,0⟩) ⟨.inr (.inr (.inr (.inr (.inr (.inr ⟨rfl,rfl,rfl,rfl,⟨by dsimp only;omega,by dsimp only;omega⟩,rfl⟩))))),rfl,rfl⟩)).app hd) (by decide)
structure EOk (p:fU) (N k:Nat) (l:List cO) (tab:List aD):Prop where
 ok:∀ x∈l,x.okI
 pl:∀ q∈kH l,(∃ i:Nat,i < k/\q=i)\/∃ i:Nat,i < k/\q=(N:Int)+i/\(p.at' i).tkB=true
 nd:(kH l).Nodup
 mem:∀ i:Nat,i < k->(i:Int)∈kH l
 jl:∀ q∈tU l,(0<=q/\q < N)\/q∈kH l
 len:l.length<=4+14*k
 tab:tab=((List.range k).map p.at').filter aD.srvB
theorem EX {p:fU} {of:List Int} {R N:Nat} {applet:Int} (hv:lA p) (hR:p.regs=R) (hN:p.nodes.length=N) (ho:ON of R):∀ k,k<=N->EOk p N k (gN p of applet k).1 (gN p of applet k).2
 | 0,_=>by
  have hp1:=hv.p1;have hp2:=hv.p2;have hp3:=hv.p3
  have each:∀ x∈(gN p of applet 0).1,x.okI/\x.pl=[]/\x.jl=[]:=λx hx=>by
   simp only [gN,List.mem_map,List.mem_range] at hx;obtain ⟨k,hk,rfl⟩:=hx;exact aJo ho ⟨by omega,by omega⟩ (by omega) (by omega)
  have h1:kH (gN p of applet 0).1=[]:=List.flatMap_eq_nil_iff.2 λx hx=>(each x hx).2.1;have h2:tU (gN p of applet 0).1=[]:=List.flatMap_eq_nil_iff.2 λx hx=>(each x hx).2.2;exact ⟨λx hx=>(each x hx).1,λq hq=>(by rw [h1] at hq;cases hq),(by rw [h1];exact List.nodup_nil),λi hi=>(by omega),λq hq=>(by rw [h2] at hq;cases hq),by simp [gN];omega,rfl⟩
 | k+1,hk=>by
  have ih:=EX (applet:=applet) hv hR hN ho k (by omega);have l2:=hv.l2;obtain ⟨hpk,hrk⟩:=hv.at (k:=k) (by omega);rw [hR,hN] at hrk;have htl:(gN p of applet k).2.length<=k:=by rw [ih.tab];exact Nat.le_trans (List.length_filter_le _ _) (by simp)
  have hn:=aJp (applet:=applet) (tl:=(gN p of applet k).2.length) ho hrk (by omega) (by omega) htl;have e1:(gN p of applet (k+1)).1=(gN p of applet k).1++.place k::pH of N applet (gN p of applet k).2.length (p.at' k) k:=by rw [<- hN];rfl
  have e2:(gN p of applet (k+1)).2=if (p.at' k).srvB then (gN p of applet k).2++[p.at' k] else (gN p of applet k).2:=rfl
  generalize gN p of applet k=s at *;rw [e1,e2]
  have epl:kH (s.1++.place k::pH of N applet s.2.length (p.at' k) k)=kH s.1++((k:Int)::if (p.at' k).tkB then [(N:Int)+k] else []):=by
   rw [rP,show kH (.place k::pH of N applet s.2.length (p.at' k) k)=(k:Int)::kH (pH of N applet s.2.length (p.at' k) k) from rfl,hn.pl]
  refine ⟨λx hx=>?_,λq hq=>?_,?_,λi hi=>?_,λq hq=>?_,?_,?_⟩
  ·rcases List.mem_append.1 hx with hx|hx
   ·exact ih.ok x hx
   ·rcases List.mem_cons.1 hx with rfl|hx
    ·exact ⟨by omega,by omega⟩
    ·exact hn.ok x hx
  ·rw [epl] at hq;rcases List.mem_append.1 hq with hq|hq
   ·rcases ih.pl q hq with ⟨i,h1,h2⟩|⟨i,h1,h2⟩
    ·exact .inl ⟨i,by omega,h2⟩
    ·exact .inr ⟨i,by omega,h2⟩
   ·rcases List.mem_cons.1 hq with rfl|hq
    ·exact .inl ⟨k,by omega,rfl⟩
    ·split at hq
     ·rename_i ht
      rw [List.mem_singleton] at hq;exact .inr ⟨k,by omega,hq,ht⟩
     ·cases hq
  ·rw [epl];refine List.nodup_append.2 ⟨ih.nd,?_,λa ha b hb he=>?_⟩
   ·split
    ·refine List.nodup_cons.2 ⟨λh=>?_,by simp⟩;rw [List.mem_singleton] at h;omega
    ·simp
   ·subst he
    have hb2:a=(k:Int)\/a=(N:Int)+k:=by
     rcases List.mem_cons.1 hb with hb|hb
     ·exact .inl hb
     ·split at hb
      ·exact .inr (by simpa using hb)
      ·cases hb
    rcases ih.pl a ha with ⟨i,h1,h2⟩|⟨i,h1,h2,_⟩<;>omega
  ·rw [epl];by_cases hik:i=k
   ·subst hik;exact List.mem_append_right _ List.mem_cons_self
   ·exact List.mem_append_left _ (ih.mem i (by omega))
  ·rw [epl];rw [NB,show tU (.place k::pH of N applet s.2.length (p.at' k) k)=tU (pH of N applet s.2.length (p.at' k) k) from rfl] at hq;rcases List.mem_append.1 hq with hq|hq
   ·rcases ih.jl q hq with h1|h1
    ·exact .inl h1
    ·exact .inr (List.mem_append_left _ h1)
   ·rcases hn.jl q hq with h1|⟨h1,h2⟩
    ·exact .inl h1
    ·right;rw [if_pos h1];exact List.mem_append_right _ (by rw [h2];simp)
  ·have:=ih.len;have:=hn.len;rw [List.length_append,List.length_cons];omega
  ·rw [List.range_succ,List.map_append,List.filter_append,<- ih.tab];simp only [List.map_cons,List.map_nil,List.filter_cons,List.filter_nil];split<;>simp
structure uK (l:List cO):Prop where
 len:l.length<=6000
 ok:∀ x∈l,x.okI
 nd:(kH l).Nodup
 jl:∀ q∈tU l,q∈kH l
def nB (p:fU) (of:List Int) (applet:Int):List cO:=(gN p of applet p.nodes.length).1
def kG (p:fU):List aD:=p.nodes.filter aD.srvB
theorem aGo {p:fU}:(List.range p.nodes.length).map p.at'=p.nodes:=by
 apply List.ext_getElem?;intro i;by_cases hi:i < p.nodes.length
 ·rw [List.getElem?_map,List.getElem?_range hi,List.getElem?_eq_getElem hi];show some (p.nodes.getD i _)=_;rw [List.getD_eq_getElem?_getD,List.getElem?_eq_getElem hi];rfl
 ·rw [List.getElem?_eq_none (by simp;omega),List.getElem?_eq_none (by omega)]
theorem zD {p:fU} {of:List Int} (hv:lA p) (hR:p.regs=R) (ho:ON of R):uK (nB p of applet)/\(gN p of applet p.nodes.length).2=kG p:=by
 have h:=EX (applet:=applet) hv hR rfl ho p.nodes.length (Nat.le_refl _);have l2:=hv.l2;refine ⟨⟨by have:=h.len;unfold nB;omega,h.ok,h.nd,λq hq=>?_⟩,by rw [h.tab,aGo];rfl⟩;rcases h.jl q hq with ⟨h1,h2⟩|h1
 ·obtain ⟨k,rfl⟩:∃ k:Nat,q=k:=⟨q.toNat,by omega⟩;exact h.mem k (by omega)
 ·exact h1
def aD.pk:aD->Int
 | .const _ _=>1|.move _ _=>2|.bin _ _ _ _=>3|.un _ _ _=>4|.choose _ _ _ _=>5|.tick=>6|.goto _=>7|.branch _ _=>8
 | .getField _ _=>9|.putField _ _=>10|.serve _ _ _ _ _=>11|.call _ _ _=>12|.callX _ _ _=>13|.ret _=>14
def aD.pop:aD->Int
 | .bin op _ _ _|.un op _ _|.serve op _ _ _ _=>op
 | _=>0
def aD.pN (_:Int):aD->Int
 | .const _ n=>IntKind.i64.wrap n
 | .getField _ f|.putField f _=>f
 | .call k _ _|.callX k _ _=>k
 | _=>0
def aD.pA:aD->Int
 | .serve _ a _ _ _=>a
 | _=>0
def aD.pB:aD->Int
 | .serve _ _ b _ _=>b
 | _=>0
def aD.pT:aD->Int
 | .goto t|.branch _ t=>t
 | _=>0
def aD.pcs (g:aD) (m:Int) (sv:Y):List Y:=[i64 g.pk,i64 g.df,i64 g.pop,i64 (g.pN m),i64 g.pA,i64 g.pB,i64 g.pT,sv]
def vT (w:O) (v:Y) (g:aD):Prop:=∃ m sv,v=.agg (g.pcs m sv).toArray/\aO w sv g.us
theorem vT.ext {w w':O} {v:Y} {g:aD} (h:vT w v g) (hx:aG w w'):vT w' v g:=by
 obtain ⟨m,sv,h1,h2⟩:=h;exact ⟨m,sv,h1,h2.ext hx⟩
theorem aIr (w:O):aO w (.slice none 0 0) []:=aA.nil w 1
theorem kW {R:Y->O->Prop} {w1:O} {g:Nat} {old:List Y} {parts:Array (Nat × Y)} (n:aD) (m:Int) (sv:Y) (l:List (Nat × Y)) (hp:parts=l.toArray) (h1:(l.all λx=>decide (x.1 < 8)&&bX x.2)=true)
  (hl:l.foldl (λcs x=>cs.set x.1 x.2) [i64 0,i64 0,i64 0,i64 0,i64 0,i64 0,i64 0,.slice none 0 0]=n.pcs m sv) (hsv:bX sv=true) (hb:bO w1 g old 58) (ho:old.length=8)
  (hx:aG w0 w1) (hg:w0.heap.size<=g) (hk:∀ w',aG w0 w'->LF w1 g w'->R (.agg (n.pcs m sv).toArray) w') :
  V prog (Instr.build 58 parts) w1 λt w2=>U prog (Instr.storeAt 58 (.pointer (some ⟨g,0,none⟩)) t) w2 λ_ w3=>
   ∃ r1,(loadVar 58 (match (Value.pointer (some ⟨g,0,none⟩)) with|.pointer (some p)=>p|_=>⟨0,0,none⟩)).run prog w3=.ok r1 w3/\(∃ p,(Value.pointer (some ⟨g,0,none⟩))=Value.pointer (some p))/\R r1 w3:=by
 refine lF hY l hp h1 ?_;have hl':l.foldl (λcs x=>cs.set x.1 x.2) [.int .i64 0,.int .i64 0,.int .i64 0,.int .i64 0,.int .i64 0,.int .i64 0,.int .i64 0,.slice none 0 0]=n.pcs m sv:=hl;rw [hl'];refine wR rT hb (l:=n.pcs m sv) rfl rfl ho (by simp [aD.pcs,bX];cases sv<;>simp_all [bX]) λw' h2 hc=>?_;exact ⟨_,oF underlying58 rfl rT h2 rfl,⟨_,rfl⟩,hk w' (hc.ext _ hx hg) hc⟩
def KV (v0:Y) (w w':O) (v:Y) (g:aD):Prop:=∃ m sv,v=.agg (g.pcs m sv).toArray/\((∀ w0,iO w0 v0 g->aO w0 sv g.us)\/w'.ownsRow w.heap.size 3 1 sv g.us.length (g.us.map i64))
theorem TR {e:Nat} {v:Y} {xs:List Y} (h:w.ownsRow B e 1 v n xs):bX v=true:=by
 obtain ⟨a,c,rfl⟩:=(aA.of_own h).shape;rfl
theorem aDd {n:aD} {v:Y} (h:iO w v n):aB prog 14 #[v] w λr w'=>KV v w w' r n/\aG w w':=by
 obtain ⟨sv,rfl,hs⟩:=h;obtain ⟨sa,sc,rfl⟩:=hs.shape;apply bJs;unfold aCa;refine zU rT λw0 h0 x0=>?_;have fin0:∀ {n:aD} {v0:Y} {m:Int} {w1 w2:O},aG w w2->LF w1 w.heap.size w2->n.us=[]->KV v0 w w2 (.agg (n.pcs m (.slice none 0 0)).toArray) n/\aG w w2:=λ{n v0 m w1 w2} hx _ hu=>⟨⟨m,_,rfl,.inl λ_ _=>by rw [hu];exact aIr _⟩,hx⟩;cases n with
 | const d m=>
  dsimp only [aD.val];(repeat (first|(with_reducible refine th (by first|exact bD|exact kR) ?_)|((with_reducible refine tm bD (by decide) ?_);intro _ _ _)));refine sG aGa rfl rfl λb w1 hb x1=>?_;refine aV hb YB aE rfl ?_;refine aV hb YA kT rfl ?_;refine aEx.2 ?_;exact kW (.const d m) 0 (.slice none 0 0) [(0,i64 1),(1,i64 d),(3,_)] rfl rfl rfl rfl (h0.ext x1) rfl (x0.trans x1) (Nat.le_refl _) λw' hx hc=>fin0 hx hc rfl
 | tick=>
  dsimp only [aD.val];(repeat (first|(with_reducible refine th (by first|exact bD|exact nV) ?_)|((with_reducible refine tm (by first|exact bD|exact dA|exact dP|exact eV|exact kR) (by decide) ?_);intro _ _ _)));refine sG bBe rfl rfl λb w1 hb x1=>?_;exact kW .tick 0 (.slice none 0 0) [(0,i64 6),(1,i64 (-1))] rfl rfl rfl rfl (h0.ext x1) rfl (x0.trans x1) (Nat.le_refl _) λw' hx hc=>fin0 hx hc rfl
 | goto t=>
  dsimp only [aD.val];(repeat (first|(with_reducible refine th (by first|exact bD|exact eE) ?_)|((with_reducible refine tm (by first|exact bD|exact dA|exact dP|exact eV|exact eE|exact eU|exact fX|exact fW|exact iM|exact iQ|exact jM|exact kM|exact nV|exact kR) (by decide) ?_);intro _ _ _)));refine sG tN rfl rfl λb w1 hb x1=>?_;refine aV hb bW aE rfl ?_;exact kW (.goto t) 0 (.slice none 0 0) [(0,i64 7),(1,i64 (-1)),(6,i64 t)] rfl rfl rfl rfl (h0.ext x1) rfl (x0.trans x1) (Nat.le_refl _) λw' hx hc=>fin0 hx hc rfl
 | getField d f=>
  dsimp only [aD.val];(repeat (first|(with_reducible refine th (by first|exact bD|exact fX) ?_)|((with_reducible refine tm (by first|exact bD|exact dA|exact dP|exact eV|exact eE|exact eU|exact fX|exact fW|exact iM|exact iQ|exact jM|exact kM|exact nV|exact kR) (by decide) ?_);intro _ _ _)));refine sG zY rfl rfl λb w1 hb x1=>?_;refine aV hb dG aE rfl ?_;refine aV hb cQ aE rfl ?_;exact kW (.getField d f) 0 (.slice none 0 0) [(0,i64 9),(1,i64 d),(3,i64 f)] rfl rfl rfl rfl (h0.ext x1) rfl (x0.trans x1) (Nat.le_refl _) λw' hx hc=>fin0 hx hc rfl
 | move d s=>
  dsimp only [aD.val];(repeat (first|(with_reducible refine th bD ?_)|((with_reducible refine tm (by first|exact bD|exact kR) (by decide) ?_);intro _ _ _)));refine sG wV rfl rfl λb w1 hb x1=>?_;refine aV hb cX aE rfl ?_;refine aV hb cW aE rfl ?_;refine jG bB [i64 s] rfl rfl (by simp) rfl λv w2 ho x2=>?_;exact kW (.move d s) 0 v [(0,i64 2),(1,i64 d),(7,v)] rfl (by obtain ⟨_,_,rfl⟩:=(aA.of_own ho).shape;rfl) rfl (TR ho) ((h0.ext x1).ext x2) rfl ((x0.trans x1).trans x2) (Nat.le_refl _) λw' hx hc=>⟨⟨0,v,rfl,.inr (aU (hc.ownRow ho (Nat.lt_of_lt_of_le h0.lt x1.size)) (x0.trans x1).size)⟩,hx⟩
 | bin op d a c=>
  dsimp only [aD.val];(repeat (first|(with_reducible refine th (by first|exact bD|exact dA) ?_)|((with_reducible refine tm (by first|exact bD|exact kR) (by decide) ?_);intro _ _ _)));refine sG tO rfl rfl λb w1 hb x1=>?_;refine aV hb cA aE rfl ?_;refine aV hb cV aE rfl ?_;refine aV hb cK aE rfl ?_;refine aV hb cJ aE rfl ?_;refine jG bB [i64 a,i64 c] rfl rfl (by simp) rfl λv w2 ho x2=>?_;exact kW (.bin op d a c) 0 v [(0,i64 3),(2,i64 op),(1,i64 d),(7,v)] rfl (by obtain ⟨_,_,rfl⟩:=(aA.of_own ho).shape;rfl) rfl (TR ho) ((h0.ext x1).ext x2) rfl ((x0.trans x1).trans x2) (Nat.le_refl _) λw' hx hc=>⟨⟨0,v,rfl,.inr (aU (hc.ownRow ho (Nat.lt_of_lt_of_le h0.lt x1.size)) (x0.trans x1).size)⟩,hx⟩
 | un op d a=>
  dsimp only [aD.val];(repeat (first|(with_reducible refine th (by first|exact bD|exact dP) ?_)|((with_reducible refine tm (by first|exact bD|exact dA|exact kR) (by decide) ?_);intro _ _ _)));refine sG uR rfl rfl λb w1 hb x1=>?_;refine aV hb bZ aE rfl ?_;refine aV hb cU aE rfl ?_;refine aV hb cT aE rfl ?_;refine jG bB [i64 a] rfl rfl (by simp) rfl λv w2 ho x2=>?_;exact kW (.un op d a) 0 v [(0,i64 4),(2,i64 op),(1,i64 d),(7,v)] rfl (by obtain ⟨_,_,rfl⟩:=(aA.of_own ho).shape;rfl) rfl (TR ho) ((h0.ext x1).ext x2) rfl ((x0.trans x1).trans x2) (Nat.le_refl _) λw' hx hc=>⟨⟨0,v,rfl,.inr (aU (hc.ownRow ho (Nat.lt_of_lt_of_le h0.lt x1.size)) (x0.trans x1).size)⟩,hx⟩
 | choose d c a e=>
  dsimp only [aD.val];(repeat (first|(with_reducible refine th (by first|exact bD|exact eV) ?_)|((with_reducible refine tm (by first|exact bD|exact dA|exact dP|exact kR) (by decide) ?_);intro _ _ _)));refine sG uQ rfl rfl λb w1 hb x1=>?_;refine aV hb cS aE rfl ?_;refine aV hb cI aE rfl ?_;refine aV hb cH aE rfl ?_;refine aV hb cG aE rfl ?_;refine jG bB [i64 c,i64 a,i64 e] rfl rfl (by simp) rfl λv w2 ho x2=>?_;exact kW (.choose d c a e) 0 v [(0,i64 5),(1,i64 d),(7,v)] rfl (by obtain ⟨_,_,rfl⟩:=(aA.of_own ho).shape;rfl) rfl (TR ho) ((h0.ext x1).ext x2) rfl ((x0.trans x1).trans x2) (Nat.le_refl _) λw' hx hc=>⟨⟨0,v,rfl,.inr (aU (hc.ownRow ho (Nat.lt_of_lt_of_le h0.lt x1.size)) (x0.trans x1).size)⟩,hx⟩
 | branch c t=>
  dsimp only [aD.val];(repeat (first|(with_reducible refine th (by first|exact bD|exact eU) ?_)|((with_reducible refine tm (by first|exact bD|exact dA|exact dP|exact eV|exact eE|exact eU|exact fX|exact fW|exact iM|exact iQ|exact jM|exact kM|exact nV|exact kR) (by decide) ?_);intro _ _ _)));refine sG tM rfl rfl λb w1 hb x1=>?_;refine aV hb bV aE rfl ?_;refine aV hb cR aE rfl ?_;refine jG bB [i64 c] rfl rfl (by simp) rfl λv w2 ho x2=>?_;exact kW (.branch c t) 0 v [(0,i64 8),(1,i64 (-1)),(6,i64 t),(7,v)] rfl (by obtain ⟨_,_,rfl⟩:=(aA.of_own ho).shape;rfl) rfl (TR ho) ((h0.ext x1).ext x2) rfl ((x0.trans x1).trans x2) (Nat.le_refl _) λw' hx hc=>⟨⟨0,v,rfl,.inr (aU (hc.ownRow ho (Nat.lt_of_lt_of_le h0.lt x1.size)) (x0.trans x1).size)⟩,hx⟩
 | putField f s=>
  dsimp only [aD.val];(repeat (first|(with_reducible refine th (by first|exact bD|exact fW) ?_)|((with_reducible refine tm (by first|exact bD|exact dA|exact dP|exact eV|exact eE|exact eU|exact fX|exact fW|exact iM|exact iQ|exact jM|exact kM|exact nV|exact kR) (by decide) ?_);intro _ _ _)));refine sG wU rfl rfl λb w1 hb x1=>?_;refine aV hb cP aE rfl ?_;refine aV hb dF aE rfl ?_;refine jG bB [i64 s] rfl rfl (by simp) rfl λv w2 ho x2=>?_;exact kW (.putField f s) 0 v [(0,i64 10),(1,i64 (-1)),(3,i64 f),(7,v)] rfl (by obtain ⟨_,_,rfl⟩:=(aA.of_own ho).shape;rfl) rfl (TR ho) ((h0.ext x1).ext x2) rfl ((x0.trans x1).trans x2) (Nat.le_refl _) λw' hx hc=>⟨⟨0,v,rfl,.inr (aU (hc.ownRow ho (Nat.lt_of_lt_of_le h0.lt x1.size)) (x0.trans x1).size)⟩,hx⟩
 | serve op a c d l=>
  dsimp only [aD.val];(repeat (first|(with_reducible refine th (by first|exact bD|exact iM) ?_)|((with_reducible refine tm (by first|exact bD|exact dA|exact dP|exact eV|exact eE|exact eU|exact fX|exact fW|exact iM|exact iQ|exact jM|exact kM|exact nV|exact kR) (by decide) ?_);intro _ _ _)));refine sG DD rfl rfl λb w1 hb x1=>?_;refine aV hb dE aE rfl ?_;refine aV hb dL aE rfl ?_;refine aV hb dK aE rfl ?_;refine aV hb dJ aE rfl ?_;refine aV hb dD bE rfl ?_;exact kW (.serve op a c d l) 0 _ [(0,i64 11),(2,i64 op),(4,i64 a),(5,i64 c),(1,i64 d),(7,_)] rfl rfl rfl rfl (h0.ext x1) rfl (x0.trans x1) (Nat.le_refl _) λw' hx hc=>⟨⟨0,_,rfl,.inl λw0 h0=>by obtain ⟨sv',e,h⟩:=h0;simp only [aD.val] at e;cases e;exact h⟩,hx⟩
 | call k d l=>
  dsimp only [aD.val];(repeat (first|(with_reducible refine th (by first|exact bD|exact iQ) ?_)|((with_reducible refine tm (by first|exact bD|exact dA|exact dP|exact eV|exact eE|exact eU|exact fX|exact fW|exact iM|exact iQ|exact jM|exact kM|exact nV|exact kR) (by decide) ?_);intro _ _ _)));refine sG JG rfl rfl λb w1 hb x1=>?_;refine aV hb dI aE rfl ?_;refine aV hb dT aE rfl ?_;refine aV hb dS bE rfl ?_;exact kW (.call k d l) 0 _ [(0,i64 12),(3,i64 k),(1,i64 d),(7,_)] rfl rfl rfl rfl (h0.ext x1) rfl (x0.trans x1) (Nat.le_refl _) λw' hx hc=>⟨⟨0,_,rfl,.inl λw0 h0=>by obtain ⟨sv',e,h⟩:=h0;simp only [aD.val] at e;cases e;exact h⟩,hx⟩
 | callX k d l=>
  dsimp only [aD.val];(repeat (first|(with_reducible refine th (by first|exact bD|exact jM) ?_)|((with_reducible refine tm (by first|exact bD|exact dA|exact dP|exact eV|exact eE|exact eU|exact fX|exact fW|exact iM|exact iQ|exact jM|exact kM|exact nV|exact kR) (by decide) ?_);intro _ _ _)));refine sG JF rfl rfl λb w1 hb x1=>?_;refine aV hb eC aE rfl ?_;refine aV hb eQ aE rfl ?_;refine aV hb eB bE rfl ?_;exact kW (.callX k d l) 0 _ [(0,i64 13),(3,i64 k),(1,i64 d),(7,_)] rfl rfl rfl rfl (h0.ext x1) rfl (x0.trans x1) (Nat.le_refl _) λw' hx hc=>⟨⟨0,_,rfl,.inl λw0 h0=>by obtain ⟨sv',e,h⟩:=h0;simp only [aD.val] at e;cases e;exact h⟩,hx⟩
 | ret s=>
  dsimp only [aD.val];(repeat (first|(with_reducible refine th (by first|exact bD|exact kM) ?_)|((with_reducible refine tm (by first|exact bD|exact dA|exact dP|exact eV|exact eE|exact eU|exact fX|exact fW|exact iM|exact iQ|exact jM|exact kM|exact nV|exact kR) (by decide) ?_);intro _ _ _)));refine sG TI rfl rfl λb w1 hb x1=>?_;refine aV hb dR aE rfl ?_;refine aJ.2 (aC (λheq=>?_) λhne=>?_)
  ·exact kW (.ret s) 0 (.slice none 0 0) [(0,i64 14),(1,i64 (-1))] rfl rfl rfl rfl (h0.ext x1) rfl (x0.trans x1) (Nat.le_refl _) λw' hx hc=>fin0 hx hc (by simp [aD.us,heq])
  ·refine aV hb dR aE rfl ?_;refine jG bB [i64 s] rfl rfl (by simp) rfl λv w2 ho x2=>?_
   exact kW (.ret s) 0 v [(0,i64 14),(1,i64 (-1)),(7,v)] rfl (by obtain ⟨_,_,rfl⟩:=(aA.of_own ho).shape;rfl) rfl (TR ho) ((h0.ext x1).ext x2) rfl ((x0.trans x1).trans x2) (Nat.le_refl _) λw' hx hc=>⟨⟨0,v,rfl,by
    have hu:aD.us (.ret s)=[s]:=by simp only [aD.us];rw [if_neg hne]
    rw [hu];exact .inr (aU (hc.ownRow ho (Nat.lt_of_lt_of_le h0.lt x1.size)) (x0.trans x1).size)⟩,hx⟩
theorem KV.is {v0:Y} {w':O} {v:Y} {g:aD} (h:KV v0 w w' v g) (hx:iO w' v0 g):vT w' v g:=by
 obtain ⟨m,sv,h1,h2⟩:=h;refine ⟨m,sv,h1,?_⟩;rcases h2 with h2|h2
 ·exact h2 _ hx
 ·exact aA.of_own h2
theorem dU:aB prog 63 #[i64 op] w λr w'=>r=i64 (nO op)/\w'=w:=by
 apply bHz;unfold aAk;refine ⟨λv w'=>v=.bool (decide (op=27\/op=28))/\w'=w,?_,?_⟩
 ·refine aJ.2 (aC (λh=>?_) λh=>aJ.2 ?_)<;>exact ⟨by simp [h],rfl⟩
 rintro _ w1 ⟨rfl,rfl⟩ _;refine aC (λh=>⟨by simp [nO,h],rfl⟩) λh1=>?_;refine ⟨λv w'=>v=.bool (decide (op=17\/op=18\/op=29))/\w'=w1,?_,?_⟩
 ·refine aJ.2 (aC (λh=>?_) λh=>aJ.2 (aC (λh'=>?_) λh'=>aJ.2 ?_))
  ·exact ⟨by simp [h],rfl⟩
  ·exact ⟨by simp [h'],rfl⟩
  ·exact ⟨by simp [h,h'],rfl⟩
 rintro _ w2 ⟨rfl,rfl⟩ _;refine aC (λh=>⟨by simp [nO,h1,h],rfl⟩) λh2=>?_;refine ⟨λv w'=>v=.bool (decide (op=30\/op=36))/\w'=w2,?_,?_⟩
 ·refine aJ.2 (aC (λh=>?_) λh=>aJ.2 ?_)<;>exact ⟨by simp [h],rfl⟩
 rintro _ w3 ⟨rfl,rfl⟩ _;refine aC (λh=>⟨by simp [nO,h1,h2,h],rfl⟩) λh3=>?_;refine aJ.2 (aC (λh=>?_) λh=>?_)
 ·exact aC (λ_=>⟨by subst h;rfl,rfl⟩) λh'=>absurd h h'
 refine aJ.2 (aC (λh'=>?_) λh'=>?_)
 ·exact ⟨by subst h';rfl,rfl⟩
 ·exact ⟨by simp [nO,h1,h2,h3,h,h'],rfl⟩
def aD.wr:aD->Int
 | .const _ _|.move _ _|.bin _ _ _ _|.un _ _ _|.choose _ _ _ _|.getField _ _=>1
 | .serve _ _ _ _ _|.call _ _ _|.callX _ _ _=>0
 | _=>-1
theorem aCk {g:aD} {v:Y} (h:vT w v g):aB prog 64 #[v] w λr w'=>r=i64 g.wr/\aG w w':=by
 obtain ⟨m,sv,rfl,hs⟩:=h;apply bHy;unfold aAj;refine bx λb w1 hb x1=>?_;refine aV hb oA aE rfl ?_;refine ⟨λv w'=>v=.bool (decide (g.wr=1))/\w'=w1,?_,?_⟩
 ·cases g<;>(simp only [aD.pk,aJ,Int.reduceEq,decide_true,decide_false,bH,aM];first|exact ⟨rfl,rfl⟩|simp [aD.wr])
 ·rintro _ w2 ⟨rfl,rfl⟩ _;cases g<;>(simp only [aD.wr,aD.pk,aJ,Int.reduceEq,Int.reduceNeg,decide_true,decide_false,bH,aM];first|exact ⟨rfl,x1⟩|exact ⟨trivial,x1⟩)
def aSy (w:O) (v:Y) (params regs:Int) (gs:List aD):Prop:=∃ ns cs,v=.agg #[i64 params,i64 regs,ns]/\aA w ns 8 gs.length cs/\∀ (i:Nat) g,gs[i]?=some g->∃ m sv,(cs.drop (i*8)).take 8=g.pcs m sv/\aO w sv g.us
end Go.Proofs.YtjcmcfidblhnnaaGreatDoor
namespace Go.Vc
open Go.Proofs
section
variable {P:Program} {w:O}
theorem uT {w:O} {B B' e e' s s' n n':Nat} {v v':Y} {xs xs':List Y} (h:w.ownsRow B e s v n xs) (h':w.ownsRow B' e' s' v' n' xs') (hne:e≠e'):v.ownBlock=none\/v.ownBlock≠v'.ownBlock:=by
 rcases h.2 with ⟨rfl,_⟩|⟨g,cap,cur,rfl,_,h1,_⟩
 ·exact .inl rfl
 ·refine .inr ?_;rcases h'.2 with ⟨rfl,_⟩|⟨g',cap',cur',rfl,_,h2,_⟩
  ·simp [Value.ownBlock]
  ·simp only [Value.ownBlock,ne_eq,Option.some.injEq];rintro rfl;rw [h1] at h2;cases h2;exact hne rfl
theorem aQz {w:O} {B e s n g:Nat} {v:Y} {xs:List Y} (h:w.ownsRow B e s v n xs) (hg:g < B):v.ownBlock≠some g:=λhe=>by have:=(h.lt g he).1;omega
theorem aCr {w:O} {g o:Nat} {u:Y}:w.grownBy (w.setCell ⟨g,o,none⟩ u) (some g):=⟨rfl,rfl,rfl,by simp,λ_ _ hne=>heap_setCell_other _ _ _ _ (λhe=>hne (by simp [he]))⟩
theorem mG {w:O} {B e s n g o:Nat} {v u:Y} {xs:List Y} (h:w.ownsRow B e s v n xs) (hg:g < B):(w.setCell ⟨g,o,none⟩ u).ownsRow B e s v n xs:=
 h.kept aCr (.inr (aQz h hg))
theorem bFd {cs l:List Y} {i j sz:Nat} (hl:cs.length=i*sz) (hj:j < i):((cs++l).drop (j*sz)).take sz=(cs.drop (j*sz)).take sz:=by
 have h1:(j+1)*sz<=i*sz:=Nat.mul_le_mul_right sz hj;rw [Nat.add_mul,Nat.one_mul] at h1;rw [List.drop_append_of_le_length (by omega),List.take_append_of_le_length (by rw [List.length_drop];omega)]
theorem bFe {cs l:List Y} {i sz:Nat} (hl:cs.length=i*sz) (h2:l.length=sz):((cs++l).drop (i*sz)).take sz=l:=by
 rw [<- hl,List.drop_left,<- h2,List.take_length]
end
end Go.Vc
namespace Go.Proofs.YtjcmcfidblhnnaaGreatDoor
open Tryz
open Go.Vc
variable {w w0:O} {R g0 sg ub:Nat} {m:Mx} {ov:Y} {gs:List Nat} {sb:List Bool}
theorem oQ {B e s n:Nat} {v:Y} {xs:List Y} (h:w.ownsRow B e s v n xs):bX v=true:=by
 obtain ⟨a,c,rfl⟩:=(aA.of_own h).shape;rfl
def El (p:fU) (w0 w:O) (B i:Nat) (cs:List Y):Prop:=∀ j,j < i->∃ g m sv,p.nodes[j]?=some g/\(cs.drop (j*8)).take 8=g.pcs m sv/\(aO w0 sv g.us\/w.ownsRow B 3 1 sv g.us.length (g.us.map i64))
def bOk (l:List Bool) (of:List Int):Prop:=∀ (r s:Nat),s < r->l[r]?=some true->l[s]?=some true->of[r]?≠of[s]?
def xX (l:List Bool) (d:Int):List Bool:=if 0<=d then l.set d.toNat true else l
theorem aCm (l:List Bool) (d:Int):(xX l d).length=l.length:=by unfold xX;split<;>simp
theorem aPy {l:List Bool} {lv:Y} {d:Int} (hl:gO w lv l) (hb:l.length<=1000) (hd:d < l.length) :
  aB prog 85 #[lv,i64 d] w λr w'=>w'.ownsRow w.heap.size 4 1 r l.length ((xX l d).map Value.bool)/\aG w w':=by
 apply bHd;unfold ZO;refine jG aFc [] rfl rfl (by simp) rfl λv0 w2 ho2 x2=>?_;refine LD aFc ho2 (hl.ext x2) (by simp [bX]) (by omega) (by unfold maxLen;omega) x2.size λov w3 ho3 hg3=>?_;have x3:aG w w3:=x2.grown hg3 λk hk=>(ho2.lt k hk).1;simp only [Nat.zero_add,List.nil_append] at ho3;refine fK.2 (aC (λhge=>?_) λhlt=>?_)
 ·have hge':0<=d:=hge;refine stO hO lE ho3 hge' hd rfl λw5 ho5 hg=>?_;rw [oH] at ho5;refine ⟨?_,x3.grown hg λk hk=>(ho3.lt k hk).1⟩;unfold xX;rw [if_pos hge'];exact ho5
 ·refine ⟨?_,x3⟩;unfold xX;rw [if_neg (by simpa using hlt)];exact ho3
def BU (m:Mx) (sl:List Bool) (of:List Int) (r:Nat) (at':Int):Prop:=(sl[r]?=some true->16<=at')/\∀ (o:Nat) (y:Int),of[o]?=some y->m r o=true->y≠at'
theorem aHx {sl:List Bool} {of:List Int} {mv slv ofv:Y} {r:Nat} {at':Int} (hR:R<=40) (hm:zQ w mv R R m) (hs:gO w slv sl) (hsl:sl.length=R) (ho:aO w ofv of) (hof:of.length=R) (hr:r < R) :
  aB prog 41 #[.agg #[mv,slv,ov],i64 r,i64 at',ofv] w λq w'=>(∃ ok:Bool,q=.bool ok/\(ok=true↔BU m sl of r at'))/\aG w w':=by
 apply bIt;unfold aBb;obtain ⟨cs,hcs,hrow⟩:=hm.row (by omega) hR;obtain ⟨u,hu,hub⟩:=hrow r hr;obtain ⟨oa,oc,rfl⟩:=ho.shape;obtain ⟨s,hss⟩:=bI (l:=sl) (j:=r) (by omega);refine bx λb w1 hb1 x1=>?_;refine aV hb1 dZ oU rfl ?_;refine mH hO oM (hs.ext x1) (by omega) (by omega) (NQ hss) ?_;have key:∀ {X:Prop},((s=true/\at' < 16)->(∃ ok:Bool,Value.bool false=.bool ok/\(ok=true↔BU m sl of r at'))/\aG w w1)/\(¬ (s=true/\at' < 16)->X)->True:=λ_=>trivial;have no:∀ {w'},aG w w'->¬ BU m sl of r at'->(∃ ok:Bool,Value.bool false=.bool ok/\(ok=true↔BU m sl of r at'))/\aG w w':=λhx hn=>⟨⟨false,rfl,λh=>(by cases h),λh=>absurd h hn⟩,hx⟩
 have rest:(s=true->16<=at')->∃ (I1:NP 1) (μ1:NF 1),I1 (Value.int IntKind.i64 0) w1 /\
   ∀ (t22:Y),∀ w10:O,I1 t22 w10->∀ _f:bM,
   V prog (binOp .lss 3 t22 (i64 of.length)) w10 λt23 w11=>
   aI t23 (
   V prog (Instr.indexAt 23 (.slice oa of.length oc) t22) w11 λt25 w12=>
   V prog (Instr.loadAt 3 t25) w12 λt26 w13=>
   V prog (Instr.fieldAt 141 (.pointer (some ⟨b,0,none⟩)) 0) w13 λt27 w14=>
   V prog (Instr.loadAt 139 t27) w14 λt28 w15=>
   V prog (Instr.indexAt 139 t28 (i64 r)) w15 λt30 w16=>
   V prog (Instr.loadAt 95 t30) w16 λt31 w17=>
   V prog (Instr.indexAt 95 t31 t22) w17 λt33 w18=>
   V prog (Instr.loadAt 4 t33) w18 λt34 w19=>
   gd t34 true (λK=>K t26 w19) w19 λt36 w20=>
   gd t34 true (λK=>K (i64 at') w20) w20 λt37 w21=>
   gd t34 true (λK=>V prog (do eqGuard .eql 3 (Operand.tmp 36) (Operand.tmp 37) t36 t37;binOp .eql 3 t36 t37) w21 K) w21 λt38 w22=>
   aH t34 t38 (Value.bool false) λt39=>
   aI t39 (
   (∃ ok:Bool,Value.bool false=.bool ok/\(ok=true↔BU m sl of r at'))/\aG w w22) (
   V prog (binOp .add 3 t22 (Value.int IntKind.i64 1)) w22 λt40 w24=>
   I1 t40 w24/\μ1 t40 w24 < μ1 t22 w10)) (
   (∃ ok:Bool,Value.bool true=.bool ok/\(ok=true↔BU m sl of r at'))/\aG w w11):=by
  intro hslot;refine ⟨λv w'=>∃ i:Nat,v=i64 i/\i<=of.length/\w1=w'/\∀ (o:Nat) (y:Int),o < i->of[o]?=some y->m r o=true->y≠at',λv _=>of.length - (RowKit.intOf v).toNat,⟨0,rfl,Nat.zero_le _,rfl,λo y h=>by omega⟩,?_⟩;rintro _ _ ⟨i,rfl,hi,rfl,hdone⟩ _;refine aZ.2 (aC (λhlt=>?_) λhge=>?_)
  ·have hi':i < of.length:=by omega
   obtain ⟨y,hy⟩:=bI hi';refine mH aP aE (ho.ext x1) (by omega) (by omega) (cM hy) ?_;refine aV hb1 eA iD rfl ?_;refine mH sR oU (hcs.ext x1) (by omega) (by omega) (by simpa using hu) ?_;have hub':aA w u 1 R ((nE m r R).map Value.bool):=by have:=hub;unfold gO at this;rw [gX] at this;exact this
   refine mH hO oM (hub'.ext x1) (by omega) (by omega) (NQ (mN (by omega))) ?_
   have go:(m r i=true->y≠at')->V prog (binOp .add 3 (i64 i) (Value.int IntKind.i64 1)) w1 λt40 w24=>(∃ i:Nat,t40=i64 i/\i<=of.length/\w1=w24/\∀ (o:Nat) (y:Int),o < i->of[o]?=some y->m r o=true->y≠at')/\of.length - (RowKit.intOf t40).toNat < of.length - (RowKit.intOf (i64 (i:Int))).toNat:=by
    intro h;refine jS (by omega) ?_;refine ⟨⟨i+1,rfl,by omega,rfl,λo y' ho1 ho2=>?_⟩,by simp only [aK];omega⟩;by_cases hoi:o=i
    ·subst hoi;rw [hy] at ho2;cases ho2;exact h
    ·exact hdone o y' (by omega) ho2
   cases hmi:m r i with
   | false=>
    simp only [lY,bA,Bool.false_eq_true,reduceIte,aM];exact go λh=>by rw [hmi] at h;cases h
   | true=>
    simp only [mD];refine aJ.2 ?_;simp only [bA,reduceIte];refine aC (λheq=>?_) λhne=>?_
    ·exact no x1 λh=>h.2 i y hy hmi heq
    ·exact go λ_ h=>hne h
  ·have hil:i=of.length:=by omega
   refine ⟨⟨true,rfl,λ_=>⟨λh=>hslot (by rw [hss] at h;exact Option.some.inj h),λo y h1 h2=>hdone o y (by have:=(List.getElem?_eq_some_iff.1 h1).1;omega) h1 h2⟩,λ_=>rfl⟩,x1⟩
 clear key;cases s with
 | false=>
  simp only [lY,bA,Bool.false_eq_true,reduceIte,aM];refine YZ.2 ?_;exact rest λh=>by cases h
 | true=>
  simp only [mD];refine aZ.2 ?_;simp only [bA,reduceIte];refine aC (λhlt=>?_) λhge=>?_
  ·exact no x1 λh=>by have:=h.1 hss;omega
  ·refine YZ.2 ?_;exact rest λ_=>by omega
def aD.pureB:aD->Bool
 | .const _ _|.move _ _|.bin _ _ _ _|.un _ _ _|.choose _ _ _ _|.tick|.goto _|.branch _ _=>true
 | _=>false
def aD.leavesB:aD->Bool
 | .getField _ _|.putField _ _=>true
 | g=>g.pureB
theorem aQt {g:aD} {v:Y} (h:iO w v g):aB prog 137 #[v] w λr w'=>r=.bool g.pureB/\w'=w:=by
 obtain ⟨sv,rfl,hs⟩:=h;apply aZh;unfold RT;cases g<;>(dsimp only [aD.val];(repeat (first|(with_reducible refine thK (by first|exact bD|exact dA|exact dP|exact eV|exact eE|exact eU|exact fX|exact fW|exact iM|exact iQ|exact jM|exact kM|exact nV|exact kR) ?_)|(with_reducible refine tmK (by first|exact bD|exact dA|exact dP|exact eV|exact eE|exact eU|exact fX|exact fW|exact iM|exact iQ|exact jM|exact kM|exact nV|exact kR) (by decide) λ_=>?_)));simp only [bA,bH,aM,Bool.false_eq_true,reduceIte];first|exact ⟨rfl,rfl⟩|exact ⟨trivial,rfl⟩|exact ⟨trivial,trivial⟩|exact ⟨rfl,trivial⟩)
theorem aDr {g:aD} {v:Y} (h:iO w v g):aB prog 86 #[v] w λr w'=>r=.bool g.leavesB/\w'=w:=by
 have h0:=h;obtain ⟨sv,rfl,hs⟩:=h;apply bHc;unfold ZN;have hp:=aQt h0;cases g<;>(dsimp only [aD.val] at hp ⊢;(repeat (first|(with_reducible refine thK (by first|exact bD|exact dA|exact dP|exact eV|exact eE|exact eU|exact fX|exact fW) ?_)|(with_reducible refine tmK (by first|exact bD|exact dA|exact dP|exact eV|exact eE|exact eU|exact fX|exact fW) (by decide) λ_=>?_)));simp only [bA,bH,aM,Bool.false_eq_true,reduceIte];first|exact ⟨rfl,rfl⟩|exact ⟨trivial,rfl⟩|exact ⟨trivial,trivial⟩|exact ⟨rfl,trivial⟩|exact hp)
structure Ru (w0 w:O) (ub g0 sg:Nat) (ov:Y) (gs:List Nat) (R:Nat) (m:Mx) (sb:List Bool):Prop where
 x:aG w0 w
 u:bO w ub [.slice (some ⟨g0,0,none⟩) R R,.slice (some ⟨sg,0,none⟩) R R,ov] 141
 out:bO w g0 (gs.map (sl R)) 95
 slot:bO w sg (sb.map Value.bool) 4
 rows:∀ (k g:Nat),gs[k]?=some g->bO w g ((nE m k R).map Value.bool) 4
 lo:w0.heap.size<=ub/\w0.heap.size<=g0/\w0.heap.size<=sg/\∀ g∈gs,w0.heap.size<=g
 ne:ub≠g0/\ub≠sg/\g0≠sg/\∀ g∈gs,g≠ub/\g≠g0/\g≠sg
 nd:gs.Nodup
theorem Ru.setRow (h:Ru w0 w ub g0 sg ov gs R m sb) {k g:Nat} (hk:gs[k]?=some g) (r:Nat) (v:Bool) :
  Ru w0 (w.setCell ⟨g,r,none⟩ (.bool v)) ub g0 sg ov gs R (tL m k r v) sb:=by
 have hgm:=List.mem_of_getElem? hk;obtain ⟨n1,n2,n3⟩:=h.ne.2.2.2 g hgm;refine ⟨h.x.setCell (h.lo.2.2.2 g hgm) _,h.u.other (Ne.symm n1),h.out.other (Ne.symm n2),h.slot.other (Ne.symm n3),λk' g' hk'=>?_,h.lo,h.ne,h.nd⟩;by_cases he:k'=k
 ·subst he;rw [hk] at hk';cases hk';rw [LU,<- oH];exact (h.rows _ _ hk).set r _
 ·rw [DG he];exact (h.rows k' g' hk').other λhgg=>he (aHm h.nd hk' (hgg▸hk))
theorem Ru.setSlot (h:Ru w0 w ub g0 sg ov gs R m sb) (r:Nat) (v:Bool) :
  Ru w0 (w.setCell ⟨sg,r,none⟩ (.bool v)) ub g0 sg ov gs R m (sb.set r v):=by
 refine ⟨h.x.setCell h.lo.2.2.1 _,h.u.other h.ne.2.1,h.out.other h.ne.2.2.1,?_,λk' g' hk'=>(h.rows k' g' hk').other ((h.ne.2.2.2 g' (List.mem_of_getElem? hk')).2.2),h.lo,h.ne,h.nd⟩;rw [<- oH];exact h.slot.set r _
end Go.Proofs.YtjcmcfidblhnnaaGreatDoor
