/- An applet, made. -/
import Derived.Test.YtjcmcfidblhnnaaGreatDoorFf
set_option maxHeartbeats 4000000
namespace Go.Proofs.YtjcmcfidblhnnaaGreatDoor
open Tryz
open Go.Vc Go.Tc
variable {w:O} {K:Y->O->Prop}
variable {lv3 mv p1 p2:Y} {w':O} {g4 gi j:Nat}
def tT (code:Nat->List kJ):List jN:=[⟨[],0,[1,2,3,4],code 0⟩,⟨[1,2],2,[1,2,3,4],code 1⟩,⟨[4,3],3,[1,2],code 2⟩]
def KI (n1 n2:ByteArray):List IF:=[⟨n1,0,[1,2],2⟩,⟨n2,1,[4,3],3⟩]
def apC (lv p1 p2 lv3:Y) (c:Nat->Y):List Y:=[aX,i64 0,lv,c 0,p1,i64 2,lv,c 1,p2,i64 3,lv3,c 2]
theorem aIw {lv:Y} {c:Nat->Y} {code:Nat->List kJ} (h:aA w mv 4 3 (apC lv p1 p2 lv3 c)) (hl:aN w lv [1,2,3,4]) (h1:aN w p1 [1,2]) (h2:aN w p2 [4,3]) (h3:aN w lv3 [1,2]) (hc:∀ k,k < 3->lT w (c k) (code k)):rO w mv (tT code):=by
 refine ⟨_,h,λk x hk=>?_⟩
 match k,hk with
 | 0,hk=>cases hk;exact ⟨_,rfl,aX,lv,c 0,rfl,aA.nil _ _,hl,hc 0 (by decide)⟩
 | 1,hk=>cases hk;exact ⟨_,rfl,p1,lv,c 1,rfl,h1,hl,hc 1 (by decide)⟩
 | 2,hk=>cases hk;exact ⟨_,rfl,p2,lv3,c 2,rfl,h2,h3,hc 2 (by decide)⟩
 | k+3,hk=>simp [tT] at hk
theorem bEi {iv q1 q2:Y} {n1 n2:ByteArray} (h:aA w iv 4 2 [.string n1,i64 0,q1,i64 2,.string n2,i64 1,q2,i64 3]) (h1:aN w q1 [1,2]) (h2:aN w q2 [4,3]):rP w iv (KI n1 n2):=by
 refine ⟨_,h,λk x hk=>?_⟩
 match k,hk with
 | 0,hk=>cases hk;exact ⟨_,rfl,q1,rfl,h1⟩
 | 1,hk=>cases hk;exact ⟨_,rfl,q2,rfl,h2⟩
 | k+2,hk=>simp [KI] at hk
theorem rE {g:Nat} (h:UY w g w'):Fr (λk=>k=g) w w':=Fr.of_grown h.grown λk hk=>by cases hk;rfl
structure NK (g4 gi:Nat) (w:O) (v:Y) (l:List Int):Prop where
 own:w.ownsRow (g4+1) 3 1 v l.length (l.map i64)
 ne:∀ k,v.ownBlock=some k->k≠gi
theorem NK.ext {v:Y} {l:List Int} (h:NK g4 gi w v l) (hx:aE w w'):NK g4 gi w' v l:=⟨hx.own h.own,h.ne⟩
theorem NK.fr {N:Nat} {v:Y} {l:List Int} (h:NK g4 gi w v l) (f:Fr (λk=>k=gi\/k<=g4\/N<=k) w w') (hN:w.heap.size<=N):NK g4 gi w' v l:=
 ⟨f.own h.own λk hk hS=>by have:=h.own.lt k hk;have:=h.ne k hk;omega,h.ne⟩
theorem NK.ints {v:Y} {l:List Int} (h:NK g4 gi w v l):aN w v l:=aA.of_own h.own
theorem AJ (n:Int):bY (i64 n)=true:=rfl
theorem LT (s:ByteArray):bY (.string s)=true:=rfl
theorem aZz (a:Option Addr) (n c:Nat):bY (.slice a n c)=true:=rfl
theorem aDo {code:Nat->List kJ} {m:jN} (h:(tT code)[j]?=some m):m.params.length<=4/\m.locals.length<=4:=by
 match j,h with
 | 0,hm=>cases hm;exact ⟨by simp,by simp⟩
 | 1,hm=>cases hm;exact ⟨by simp,by simp⟩
 | 2,hm=>cases hm;exact ⟨by simp,by simp⟩
 | k+3,hm=>simp [tT] at hm
theorem aRo {lv v:Y} {c:Nat->Y} (h:j < 3):(apC lv p1 p2 lv3 c).set (j*4+3) v=apC lv p1 p2 lv3 (λk=>if k=j then v else c k):=by
 match j,h with
 | 0,_=>rfl
 | 1,_=>rfl
 | 2,_=>rfl
theorem aRn {lv:Y} {c:Nat->Y} {code:Nat->List kJ} (h:aA w mv 4 3 (apC lv p1 p2 lv3 c)) (hl:aN w lv [1,2,3,4]) (h1:aN w p1 [1,2]) (h2:aN w p2 [4,3]) (h3:aN w lv3 [1,2]) (hc:∀ k,k < 3->lT w (c k) (code k)) :
  aA w mv 4 3 (apC lv p1 p2 lv3 c)/\∀ (k:Nat) (x:jN),(tT code)[k]?=some x->lH w (((apC lv p1 p2 lv3 c).drop (k*4)).take 4) x:=by
 refine ⟨h,λk x hk=>?_⟩
 match k,hk with
 | 0,hk=>cases hk;exact ⟨aX,lv,c 0,rfl,aA.nil _ _,hl,hc 0 (by decide)⟩
 | 1,hk=>cases hk;exact ⟨p1,lv,c 1,rfl,h1,hl,hc 1 (by decide)⟩
 | 2,hk=>cases hk;exact ⟨p2,lv3,c 2,rfl,h2,h3,hc 2 (by decide)⟩
 | k+3,hk=>simp [tT] at hk
theorem aRm {n:Int} {rv:Y} {rl:List Rw} (hr:kL w rv rl) (hb:wU w) (hT:tV w) (rn:rl.length<=5000000000000)
  (hk:∀ p i w',kP w' p i->lA w' i->i.rg->i.methods.length=3->(∀ m∈i.methods,m.code.length<=700000)->(∀ w'',Fr (λk=>k < w.heap.size) w' w''->tV w''->kP w'' p i/\lA w'' i)->(∃ cs:List Y,∀ w'',Fr (λk=>k < w.heap.size) w' w''->aA w'' p.mv 4 i.methods.length cs/\∀ (k:Nat) (x:jN),i.methods[k]?=some x->lH w'' ((cs.drop (k*4)).take 4) x)->aE w w'->K (p.val i) w'):aC prog 20 #[i64 n,rv] w K:=by
 apply bHn;unfold aAr;refine zA qZ λw1 hB4 x1=>?_;have hlt4:=hB4.lt;have hg4:w.heap.size<=w.heap.size:=Nat.le_refl _;generalize hgg4:w.heap.size=g4 at hB4 hg4 hlt4;refine jX bB [i64 1,i64 2,i64 3,i64 4] rfl rfl (by simp) rfl λlv w2 hol x2=>?_;refine SY λnm hnm=>?_;refine jX bB [i64 1,i64 2,i64 3,i64 4] rfl rfl (by simp) rfl λfv w3 hof x3=>?_;refine jX bB [i64 1,i64 2] rfl rfl (by simp) rfl λxv w4 hox x4=>?_;have o1:=jB hof;have o2:=jB hox;refine oD bAl [(0,.string nm),(1,fv),(4,xv)] rfl (by simp [o1,o2,LT]) ?_;refine rX aZt rfl (show ([.string nm,fv,aX,aX,xv]:List Y).all bY=true by simp [o1,o2,LT,aZz]) λw5 hBi x5=>?_;have hBi:bO w5 w4.heap.size [.string nm,fv,aX,aX,xv] 27:=hBi;have s1:=x1.size;have s2:=x2.size;have s3:=x3.size;have s4:=x4.size;have s5:=x5.size;have R0:∀ {v:Y} {l:List Int} {wa wb:O},wb.ownsRow wa.heap.size 3 1 v l.length (l.map i64)->w1.heap.size<=wa.heap.size->wb.heap.size<=w4.heap.size->NK g4 w4.heap.size wb v l:=λho h1 h2=>⟨aU ho (by omega),λk hk=>by have:=(ho.lt k hk).2;omega⟩;have rl5:NK g4 w4.heap.size w5 lv [1,2,3,4]:=(R0 (l:=[1,2,3,4]) hol (by omega) (by omega)).ext ((x3.trans x4).trans x5);have rf5:NK g4 w4.heap.size w5 fv [1,2,3,4]:=(R0 (l:=[1,2,3,4]) hof (by omega) (by omega)).ext (x4.trans x5);have rx5:NK g4 w4.heap.size w5 xv [1,2]:=(R0 (l:=[1,2]) hox (by omega) (by omega)).ext x5
 clear R0 hol hof hox;have x15:=(((x2.trans x3).trans x4).trans x5);have hB4:=hB4.ext x15;have hgi4:g4≠w4.heap.size:=by omega
 have hiw:w4.heap.size < w5.heap.size:=hBi.lt;have hiw0:w.heap.size<=w4.heap.size:=by omega
 have x05:=x1.trans x15;have hr0:=hr;have hr:=hr.ext x05;generalize w4.heap.size=gi at *;have R1:∀ {v:Y} {l:List Int} {wa wb:O},wb.ownsRow wa.heap.size 3 1 v l.length (l.map i64)->w5.heap.size<=wa.heap.size->NK g4 gi wb v l:=λho h1=>⟨aU ho (by omega),λk hk=>by have:=(ho.lt k hk).1;omega⟩;refine bA.2 (SY λn1 hn1=>?_);refine jX bB [i64 1,i64 2] rfl rfl (by simp) rfl λq1 w6 hq1 x6=>?_;have s6:=x6.size;have rq1:NK g4 gi w6 q1 [1,2]:=R1 (l:=[1,2]) hq1 (by omega);have oq1:=jB hq1;refine oD aIu [(0,.string n1),(1,i64 0),(2,q1),(3,i64 2)] rfl (by simp [oq1,AJ,LT]) ?_;refine bA.2 (lnR AC (hr.ext x6) ?_);refine eJ (by decide) (by decide) λ_ _ _=>bA.2 (SY λn2 hn2=>?_);refine jX bB [i64 4,i64 3] rfl rfl (by simp) rfl λq2 w7 hq2 x7=>?_;have s7:=x7.size;have rq2:NK g4 gi w7 q2 [4,3]:=R1 (l:=[4,3]) hq2 (by omega);have oq2:=jB hq2;refine oD aIu [(0,.string n2),(1,i64 1),(2,q2),(3,i64 3)] rfl (by simp [oq2,AJ,LT]) ?_;refine zX underlying24 DZ rfl (by decide) [.agg #[.string n1,i64 0,q1,i64 2],.agg #[.string n2,i64 1,q2,i64 3]] rfl rfl (by intro v hv;simp only [List.mem_cons,List.not_mem_nil,or_false] at hv;rcases hv with rfl|rfl<;>rfl) (by decide) (by decide) λiv w8 hoi x8=>?_;have s8:=x8.size;have hoi:w8.ownsRow w7.heap.size 146 4 iv 2 [.string n1,i64 0,q1,i64 2,.string n2,i64 1,q2,i64 3]:=hoi
 have x58:=(x6.trans x7).trans x8;refine FS fH bAd (hBi.ext x58) (n:=5) rfl (by decide) (jB hoi) ?_;have hB9:bO (w8.setCell ⟨gi,2,none⟩ iv) gi [.string nm,fv,iv,aX,xv] 27:=(hBi.ext x58).set 2 iv;have f9:Fr (λk=>k=gi\/k<=g4\/w8.heap.size<=k) w8 (w8.setCell ⟨gi,2,none⟩ iv):=Fr.of_set (.inl rfl);have rl9:=(rl5.ext x58).fr f9 (Nat.le_refl _);have rf9:=(rf5.ext x58).fr f9 (Nat.le_refl _);have rx9:=(rx5.ext x58).fr f9 (Nat.le_refl _);have rq19:=(rq1.ext (x7.trans x8)).fr f9 (Nat.le_refl _);have rq29:=(rq2.ext x8).fr f9 (Nat.le_refl _);have hoi9:=f9.own hoi λk hk hS=>by have:=hoi.lt k hk;omega
 have hB49:bO (w8.setCell ⟨gi,2,none⟩ iv) g4 _ _:=(hB4.ext x58).other hgi4;have f59:aE w (w8.setCell ⟨gi,2,none⟩ iv):=(x05.trans x58).setCell hiw0 iv;have xr9:∀ {w'},Fr (λk=>k=gi\/k=g4\/w8.heap.size<=k) (w8.setCell ⟨gi,2,none⟩ iv) w'->aE w w':=λf=>f.ext f59 λk hk=>by omega
 have sz9:(w8.setCell ⟨gi,2,none⟩ iv).heap.size=w8.heap.size:=by simp
 generalize w8.setCell ⟨gi,2,none⟩ iv=w9 at *;have hoi0:=hoi;clear rl5 rf5 rx5 rq1 rq2 hoi hB4 hBi hq1 hq2 f9;have ol:=jB rl9.own;refine oD XR [(2,lv)] rfl (by simp [ol]) ?_;refine jX bB [i64 1,i64 2] rfl rfl (by simp) rfl λp1 w10 hp1 x10=>?_;have s10:=x10.size;have rp1:NK g4 gi w10 p1 [1,2]:=R1 (l:=[1,2]) hp1 (by omega);have op1:=jB hp1;refine oD XR [(0,p1),(1,i64 2),(2,lv)] rfl (by simp [ol,op1,AJ]) ?_;refine jX bB [i64 4,i64 3] rfl rfl (by simp) rfl λp2 w11 hp2 x11=>?_;have s11:=x11.size;have rp2:NK g4 gi w11 p2 [4,3]:=R1 (l:=[4,3]) hp2 (by omega);have op2:=jB hp2;obtain ⟨lv3,urun,usl⟩:=aBv underlying23 bW rl9.ints (lo:=none) (hi':=some (.int .i64 ((2:Nat):Int))) (a:=0) (b:=2) (.inl ⟨rfl,rfl⟩) (.inr rfl) (by decide) (by decide);refine V.ok (urun _) ?_;have ol3:bY lv3=true:=by obtain ⟨a,c,rfl⟩:=(usl _ rl9.ints).shape;rfl
 refine oD XR [(0,p2),(1,i64 3),(2,lv3)] rfl (by simp [ol3,op2,AJ]) ?_;refine zX underlying25 tO rfl (by decide) [.agg #[aX,i64 0,lv,aX],.agg #[p1,i64 2,lv,aX],.agg #[p2,i64 3,lv3,aX]] rfl rfl (by intro v hv;simp only [List.mem_cons,List.not_mem_nil,or_false] at hv;rcases hv with rfl|rfl|rfl<;>rfl) (by decide) (by decide) λmv w12 hom x12=>?_;have s12:=x12.size;have hom:w12.ownsRow w11.heap.size 38 4 mv 3 (apC lv p1 p2 lv3 λ_=>aX):=hom
 obtain ⟨gm,cap,rfl⟩:∃ gm cap,mv=.slice (some ⟨gm,0,none⟩) 3 cap:=by
  rcases hom.2 with ⟨_,e⟩|⟨gm,cap,cur,rfl,_⟩
  ·cases e
  ·exact ⟨gm,cap,rfl⟩
 have hgm:=hom.lt gm rfl;have x9b:=x10.trans x11;have x9c:=x9b.trans x12;refine FS bP aHp (hB9.ext x9c) (n:=5) rfl (by decide) rfl ?_;have hBC:bO (w12.setCell ⟨gi,3,none⟩ (.slice (some ⟨gm,0,none⟩) 3 cap)) gi [.string nm,fv,iv,.slice (some ⟨gm,0,none⟩) 3 cap,xv] 27:=(hB9.ext x9c).set 3 _;have fC:Fr (λk=>k=gi\/k=g4\/w11.heap.size<=k) w11 (w12.setCell ⟨gi,3,none⟩ (.slice (some ⟨gm,0,none⟩) 3 cap)):=(Fr.of_ext x12).set (.inl rfl);have homC:(w12.setCell ⟨gi,3,none⟩ (.slice (some ⟨gm,0,none⟩) 3 cap)).ownsRow w11.heap.size 38 4 (.slice (some ⟨gm,0,none⟩) 3 cap) 3 (apC lv p1 p2 lv3 λ_=>aX):=(Fr.of_set (S:=λk=>k=gi) rfl).own hom λk hk hS=>by have:=hom.lt k hk;omega
 have hB4C:bO (w12.setCell ⟨gi,3,none⟩ (.slice (some ⟨gm,0,none⟩) 3 cap)) g4 _ _:=(hB49.ext x9c).other hgi4;have szC:(w12.setCell ⟨gi,3,none⟩ (.slice (some ⟨gm,0,none⟩) 3 cap)).heap.size=w12.heap.size:=by simp
 generalize w12.setCell ⟨gi,3,none⟩ (.slice (some ⟨gm,0,none⟩) 3 cap)=wC at *;have hb11:aE w w11:=(aE.refl w).trans (f59.trans x9b);have hr0:∀ {w'},aE w w'->kL w' rv rl:=λhx=>(hr0:kL w rv rl).ext hx
 have hall:∀ {w'},Fr (λk=>k=gi\/k<=g4\/w11.heap.size<=k) w11 w'->aN w' fv [1,2,3,4]/\aN w' xv [1,2]/\aN w' lv [1,2,3,4]/\aN w' p1 [1,2]/\aN w' p2 [4,3]/\aN w' lv3 [1,2]/\rP w' iv (KI n1 n2):=by
  intro w' f;have hN:=Nat.le_refl w11.heap.size;have hl:=((rl9.ext x9b).fr f hN).ints;refine ⟨((rf9.ext x9b).fr f hN).ints,((rx9.ext x9b).fr f hN).ints,hl,((rp1.ext x11).fr f hN).ints,(rp2.fr f hN).ints,usl w' hl,bEi (aA.of_own (f.own (x9b.own hoi9) λk hk hS=>?_)) ((rq19.ext x9b).fr f hN).ints ((rq29.ext x9b).fr f hN).ints⟩;have:=(x9b.own hoi9).lt k hk;omega
 have hallX:∀ {w'},Fr (λk=>k=gi\/k=g4\/w11.heap.size<=k) w11 w'->aE w w':=λf=>f.ext hb11 λk hS=>by omega
 have hS:∀ {w'},Fr (λk=>k=gi\/k=g4\/w11.heap.size<=k) w11 w'->Fr (λk=>k=gi\/k<=g4\/w11.heap.size<=k) w11 w':=λf=>f.mono λk hk=>by omega
 clear rl9 rf9 rx9 rq19 rq29 hoi9 rp1 rp2 hB9 hB49 hom usl urun hp1 hp2;refine lnR AC (hr0 (hallX fC)) ?_;have hgmC:gm < wC.heap.size:=by omega
 refine ⟨λv w'=>∃ (j:Nat) (c:Nat->Y) (code:Nat->List kJ),v=i64 j/\j<=3/\Fr (λk=>k=gi\/k=g4\/w11.heap.size<=k) w11 w'/\wC.heap.size<=w'.heap.size/\bO w' gi [.string nm,fv,iv,.slice (some ⟨gm,0,none⟩) 3 cap,xv] 27/\bO w' g4 [.string ByteArray.empty,aX,aX,aX,aX] 27/\w'.ownsRow w11.heap.size 38 4 (.slice (some ⟨gm,0,none⟩) 3 cap) 3 (apC lv p1 p2 lv3 c)/\∀ k,w'.ownsRow (gm+1) 88 3 (c k) (code k).length (iI (code k))/\(∀ x∈code k,x.rg)/\(code k).length<=700000,
  λv _=>3 - (RowKit.intOf v).toNat,⟨0,λ_=>aX,λ_=>[],rfl,Nat.zero_le _,fC,Nat.le_refl _,hBC,hB4C,homC,λk=>⟨World.ownsRow_nil _ _ _ _,λ_ h=>by simp at h,Nat.zero_le _⟩⟩,?_⟩
 clear hBC hB4C homC fC;rintro _ wD ⟨j,c,code,rfl,hj,f,hsz,hBi,hB4,hom,hcs⟩ _;obtain ⟨rf,rx,rl',rp1,rp2,rl3,rim⟩:=hall (hS f);have xw:=hallX f;have hms:rO wD (.slice (some ⟨gm,0,none⟩) 3 cap) (tT code):=aIw (aA.of_own hom) rl' rp1 rp2 rl3 λk _=>aA.of_own (hcs k).1;refine aW.2 (aB (λhlt=>?_) λhge=>?_)
 ·have hrD:=hr0 xw;have e1:∀ m:Nat,m<=3->V prog (binOp .mul 3 (i64 m) (i64 rl.length)) wD=V prog (binOp .mul 3 (i64 m) (i64 rl.length)) wD:=λ_ _=>rfl
  have e2:∀ m:Nat,m<=3->IntKind.i64.wrap ((m:Int)*(rl.length:Int))=((m*rl.length:Nat):Int):=λm hm=>by
   have:m*rl.length<=3*rl.length:=Nat.mul_le_mul_right _ hm;rw [<- Int.natCast_mul];exact aM (by omega)
  have e3:∀ (m d:Nat),m<=15000000000000->IntKind.i64.wrap (((m:Nat):Int).tdiv ((d:Nat):Int))=((m / d:Nat):Int):=λm d hm=>by
   have h1:((m:Nat):Int).tdiv ((d:Nat):Int)=((m / d:Nat):Int):=by
    rw [Int.tdiv_eq_ediv_of_nonneg (by omega)];rfl
   have h2:m / d<=m:=Nat.div_le_self _ _;rw [h1];clear h1;generalize m / d=q at *;exact aM (by omega)
  have e4:∀ a b:Nat,min ((a:Nat):Int) ((b:Nat):Int)=((min a b:Nat):Int):=λa b=>by omega
  have hj3:j*rl.length<=3*rl.length:=Nat.mul_le_mul_right _ hj;have hj4:(j+1)*rl.length<=3*rl.length:=Nat.mul_le_mul_right _ (by omega);refine oS.2 ?_;rw [e2 j hj];refine (NJ (by decide)).2 ?_;rw [show (3:Int)=((3:Nat):Int) from rfl,e3 _ 3 (by omega)];refine V.ok VO (bA.2 ?_);rw [e4,lI (n:=(j:Int)+1) (by omega) (by omega),bK];refine oS.2 ?_;rw [e2 (j+1) (by omega)];refine (NJ (by decide)).2 ?_;rw [e3 _ 3 (by omega)];refine V.ok VO ?_;rw [e4];have hd1:j*rl.length / 3<=(j+1)*rl.length / 3:=Nat.div_le_div_right (Nat.mul_le_mul_right _ (by omega));obtain ⟨v1,r1,hs1⟩:=kL.part underlying22 JR hrD (lo:=some (.int .i64 ((min rl.length (j*rl.length / 3):Nat):Int))) (hi':=some (.int .i64 ((min rl.length ((j+1)*rl.length / 3):Nat):Int))) (.inr rfl) (.inr rfl) (by omega) (by omega);refine V.ok (r1 _) ?_;refine ⟨λv w'=>∃ l,kL wD v l/\l.length<=5000000000000/\w'=wD,aH.2 (aB (λhz=>?_) λhz=>⟨_,hs1,by simp;omega,rfl⟩),?_⟩
  ·refine (NJ (by decide)).2 ?_;rw [show (2:Int)=((2:Nat):Int) from rfl,e3 _ 2 (by omega)];refine V.ok VO ?_;rw [e4];obtain ⟨v2,r2,hs2⟩:=kL.part underlying22 JR hrD (lo:=none) (hi':=some (.int .i64 ((min rl.length (rl.length / 2):Nat):Int))) (a:=0) (.inl ⟨rfl,rfl⟩) (.inr rfl) (by omega) (by omega);exact V.ok (r2 _) ⟨_,hs2,by simp;omega,rfl⟩
  rintro v3 wD' ⟨l,hl,hll,hwD⟩ _;have hwD:=hwD.symm;subst hwD;have D1:aE wD wD.drew:=(aE.refl _).drew;have hBid:=hBi.ext D1;obtain ⟨m,hm⟩:=bE (l:=tT code) (j:=j) (by simp [tT];omega);refine aK.mk' (λw'=>aE wD.drew w') (aE.refl _) ?_;refine jG (λw' hx=>bO.boxed (hBid.ext hx)) bP dE rfl ?_;refine jG (λw' hx=>bO.boxed (hBid.ext hx)) bP dE rfl ?_;refine ySS gO oK (hms.ext D1) (λ_ h=>h) hm qL λrow hrow=>?_;refine jG (λw' hx=>bO.boxed (hBid.ext hx)) bP dE rfl ?_;refine jG (λw' hx=>bO.boxed (hBid.ext hx)) fH iN rfl ?_;have xwd:=xw.trans D1;have hmp:=aDo hm;refine bDq (hl.ext D1) hrow (hms.ext D1) (rim.ext D1) (λq hq=>?_) hll (by omega) (by omega) ⟨by simp [tT],by simp [tT]⟩ (by simp [tT]) (by simp [KI]) (by simp [KI]) λv4 code4 wE ho4 hrg4 hlen4 xE=>⟨xE,?_⟩
  ·obtain ⟨z,hz⟩:=hb q hq;exact ⟨z,xwd.cell hz⟩
  have x3E:=D1.trans xE;refine aD.ok (λw' _=>iL underlying25 tO (by omega) (by omega)) ?_;refine aD.ok (λw' _=>FA.ex cG w' _ _) ?_;rw [Int.toNat_natCast];refine aPa underlying25 tO cG HL (x3E.own hom) (by omega) (by decide) (jB ho4) λwF hwF hoF fF=>bA.2 ?_;rw [aM (by omega),bK];have sE:=x3E.size;have sD:=D1.size;have sF:=fF.size;rw [aRo (by omega)] at hoF;refine ⟨⟨j+1,λk=>if k=j then v4 else c k,λk=>if k=j then code4 else code k,rfl,by omega,(f.trans (Fr.of_ext x3E) λ_ _ h=>h).trans fF λk _ hk=>by omega,by omega,fF.blk (hBi.ext x3E) (by omega),fF.blk (hB4.ext x3E) (by omega),hoF,λk=>?_⟩,by simp only [aL];omega⟩;by_cases hkj:k=j
  ·simp only [hkj,if_true];exact ⟨aU (fF.own ho4 λq hq hS=>by have:=(ho4.lt q hq).1;omega) (by omega),hrg4,hlen4⟩
  ·simp only [hkj,if_false];obtain ⟨c1,c2,c3⟩:=hcs k;exact ⟨fF.own (x3E.own c1) λq hq hS=>by have:=(c1.lt q hq).1;omega,c2,c3⟩
 ·refine iF (bO.boxed hBi) lM rfl ?_;refine yW qZ hB4 (l:=[.string nm,fv,iv,.slice (some ⟨gm,0,none⟩) 3 cap,xv]) rfl rfl rfl (by simp [o1,o2,jB hoi0,LT,aZz]) λwE hBE hc=>?_;refine ⟨_,nS underlying27 rfl qZ hBE rfl,⟨_,rfl⟩,?_⟩;have fE:Fr (λk=>k=gi\/k=g4\/w11.heap.size<=k) w11 wE:=f.trans ((rE hc).mono λk hk=>.inr (.inl hk)) λ_ _ h=>h;have xw:=hallX fE;have hg4m:g4 < gm:=by omega
  have homE:=(rE hc).own hom λk hk hS=>by have:=(hom.lt k hk).1;omega
  have hcsE:∀ k,wE.ownsRow (gm+1) 88 3 (c k) (code k).length (iI (code k)):=λk=>(rE hc).own (hcs k).1 λq hq hS=>by have:=((hcs k).1.lt q hq).1;omega
  have stay:∀ w'',Fr (λk=>k < g4) wE w''->tV w''->kP w'' ⟨fv,iv,.slice (some ⟨gm,0,none⟩) 3 cap,xv⟩ ⟨nm,[1,2,3,4],KI n1 n2,tT code,[1,2]⟩/\lA w'' ⟨nm,[1,2,3,4],KI n1 n2,tT code,[1,2]⟩:=by
   intro w'' f'' hT'';have f3:Fr (λk=>k=gi\/k<=g4\/w11.heap.size<=k) w11 w'':=(hS fE).trans f'' λk _ hk=>by omega
   obtain ⟨rf,rx,rl',rp1,rp2,rl3,rim⟩:=hall f3;refine ⟨⟨rf,rim,aIw (aA.of_own (f''.own homE λk hk hS=>by have:=(homE.lt k hk).1;omega)) rl' rp1 rp2 rl3 λk _=>aA.of_own (f''.own (hcsE k) λq hq hS=>by have:=((hcsE k).lt q hq).1;omega),rx⟩,SX hnm hT'',λx hx=>?_⟩;simp only [KI,List.mem_cons,List.not_mem_nil,or_false] at hx;rcases hx with rfl|rfl
   ·exact SX hn1 hT''
   ·exact SX hn2 hT''
  have stayM:∃ cs:List Y,∀ w'',Fr (λk=>k < g4) wE w''->aA w'' (.slice (some ⟨gm,0,none⟩) 3 cap) 4 3 cs/\∀ (k:Nat) (x:jN),(tT code)[k]?=some x->lH w'' ((cs.drop (k*4)).take 4) x:=by
   refine ⟨apC lv p1 p2 lv3 c,λw'' f''=>?_⟩;have f3:Fr (λk=>k=gi\/k<=g4\/w11.heap.size<=k) w11 w'':=(hS fE).trans f'' λk _ hk=>by omega
   obtain ⟨rf,rx,rl',rp1,rp2,rl3,rim⟩:=hall f3;exact aRn (w:=w'') (aA.of_own (f''.own homE λk hk hS=>by have:=(homE.lt k hk).1;omega)) rl' rp1 rp2 rl3 λk _=>aA.of_own (f''.own (hcsE k) λq hq hS=>by have:=((hcsE k).lt q hq).1;omega)
  have hTE:=hT.ext xw;obtain ⟨hat,hnmE⟩:=stay wE (Fr.refl _ _) hTE;refine hk ⟨fv,iv,.slice (some ⟨gm,0,none⟩) 3 cap,xv⟩ ⟨nm,[1,2,3,4],KI n1 n2,tT code,[1,2]⟩ wE hat hnmE (λm hm x hx=>?_) rfl (λm hm=>?_) (by rw [hgg4];exact stay) (by rw [hgg4];exact stayM) xw
  ·simp only [tT,List.mem_cons,List.not_mem_nil,or_false] at hm;rcases hm with rfl|rfl|rfl
   ·exact (hcs 0).2.1 x hx
   ·exact (hcs 1).2.1 x hx
   ·exact (hcs 2).2.1 x hx
  ·simp only [tT,List.mem_cons,List.not_mem_nil,or_false] at hm;rcases hm with rfl|rfl|rfl
   ·exact (hcs 0).2.2
   ·exact (hcs 1).2.2
   ·exact (hcs 2).2.2
end Go.Proofs.YtjcmcfidblhnnaaGreatDoor
namespace Go.Vc
section
variable {P:Program} {w:O} {K:Y->O->Prop}
theorem bKv {t:TypeId} {z:Y} {by_ g n cap B k:Nat} {e:TypeId} {xs:List Y} {a b c:Y} {K':Y->O->Prop} (hi:dD P t z 3 by_) (ho:w.ownsRow B e 3 (.slice (some ⟨g,0,none⟩) n cap) n xs) (hk:k < n) (h1:bY a=true) (h2:bY b=true) (h3:bY c=true)
  (hK:∀ w',w'.ownsRow B e 3 (.slice (some ⟨g,0,none⟩) n cap) n (((xs.set (k*3) a).set (k*3+1) b).set (k*3+2) c)->Fr (λi=>i=g) w w'->K' undef w'):U P (Instr.storeAt t (.pointer (some ⟨g,0+k*3,none⟩)) (.agg #[a,b,c])) w K':=by
 have hl:xs.length=n*3:=ho.1;have hle:k*3+3<=n*3:=by omega
 obtain ⟨o1,_⟩:=ho.stored (k*3) a;obtain ⟨o2,_⟩:=o1.stored (k*3+1) b;obtain ⟨o3,_⟩:=o2.stored (k*3+2) c;have c1:=ho.cellAt (k*3) (by omega);rw [List.getElem?_eq_getElem (by omega)] at c1;have c2:=o1.cellAt (k*3+1) (by omega);rw [List.getElem?_eq_getElem (by rw [List.length_set];omega)] at c2;have c3:=o2.cellAt (k*3+2) (by omega);rw [List.getElem?_eq_getElem (by rw [List.length_set,List.length_set];omega)] at c3;have r1:=pE (P:=P) h1 c1 (ho.frozenAt _);have r2:=pE (P:=P) h2 c2 (o1.frozenAt _);have r3:=pE (P:=P) h3 c3 (o2.frozenAt _)
 have hs:(storeCells ⟨g,k*3,none⟩ [a,b,c] 0).run P w=.ok () (((w.setCell ⟨g,k*3,none⟩ a).setCell ⟨g,k*3+1,none⟩ b).setCell ⟨g,k*3+2,none⟩ c):=by
  simp only [storeCells,lE,Sem.run_bind,Nat.add_zero,Nat.zero_add];rw [r1,Result.andThen_ok,r2,Result.andThen_ok,r3,Result.andThen_ok];simp
 rw [Nat.zero_add];refine U.ok ?_ (hK _ o3 ((Fr.of_set (S:=λi=>i=g) rfl).set rfl |>.set rfl));simp [Instr.storeAt,Instr.sureAddr,storeVar,fX hi,Value.cells,hs]
theorem slO {t e sz:Nat} {z:Y} {by_:Nat} (ht:P.underlying t=some (.slice e)) (hi:dD P e z sz by_) (_:0 < sz) {B n g cap:Nat} {xs:List Y} (ho:w.ownsRow B e sz (.slice (some ⟨g,0,none⟩) n cap) n xs) {k:Nat} (hk:k<=n) (h0:0 < n)
  (hK:w.ownsRow B e sz (.slice (some ⟨g,0,none⟩) k cap) k (xs.take (k*sz))->K (.slice (some ⟨g,0,none⟩) k cap) w):V P (Instr.sliceAt t (.slice (some ⟨g,0,none⟩) n cap) none (some (i64 k)) none) w K:=by
 have hcap:n<=cap:=by
  rcases ho.2 with ⟨he,_⟩|⟨g',cap',cur,he,_,_,h3,_⟩
  ·cases he
  ·cases he;exact h3
 have hc0:¬ cap=0:=by omega
 have hkc:k<=cap:=by omega
 refine V.ok ?_ (hK (GR ho hk));simp [Instr.sliceAt,Instr.slice,run_underlying ht,fX hi,Instr.sliceBounds,Instr.sliceBound,asIntOf,hkc,hc0,lE]
end
end Go.Vc
namespace Go.Proofs.YtjcmcfidblhnnaaGreatDoor
open Tryz
open Go.Vc Go.Tc
variable {w:O} {K:Y->O->Prop}
theorem aHn (l m:List kJ):iI (l++m)=iI l++iI m:=by simp [iI]
theorem HK:∀ (l:List kJ) (a:Nat),(iI l).drop (a*3)=iI (l.drop a)
 | [],a=>by simp [iI]
 | x::l,0=>by simp
 | x::l,a+1=>by
  have:=HK l a;simp only [iI,List.flatMap_cons,List.drop_succ_cons] at this ⊢;rw [show (a+1)*3=3+a*3 by omega,<- List.drop_drop,List.drop_left' (by rfl)];exact this
theorem zS:∀ (l:List kJ) (a:Nat),(iI l).take (a*3)=iI (l.take a)
 | [],a=>by simp [iI]
 | x::l,0=>by simp [iI]
 | x::l,a+1=>by
  have:=zS l a;simp only [iI,List.flatMap_cons,List.take_succ_cons] at this ⊢;rw [show (a+1)*3=3+a*3 by omega,List.take_add,List.take_left' (by rfl),List.drop_left' (by rfl),this]
theorem HJ:∀ {l:List kJ} {k:Nat} {x:kJ} {z:Int},l[k]?=some x->(iI l).set (k*3+0) (i64 z)=iI (l.set k ⟨z,x.a,x.b⟩)
 | [],_,_,_,h=>by simp at h
 | y::l,0,x,z,h=>by simp at h;subst h;simp [iI]
 | y::l,k+1,x,z,h=>by
  have:=HJ (l:=l) (k:=k) (z:=z) (by simpa using h);simp only [iI,List.flatMap_cons,List.set_cons_succ] at this ⊢;rw [show (k+1)*3+0=k*3+0+3 by omega];simpa using this
theorem HI:∀ {l:List kJ} {k:Nat} {x:kJ},k < l.length->(((iI l).set (k*3) (i64 x.op)).set (k*3+1) (i64 x.a)).set (k*3+2) (i64 x.b)=iI (l.set k x)
 | [],_,_,h=>by simp at h
 | y::l,0,x,h=>by simp [iI]
 | y::l,k+1,x,h=>by
  have:=HI (l:=l) (k:=k) (x:=x) (by simpa using h);simp only [iI,List.flatMap_cons,List.set_cons_succ] at this ⊢;rw [show (k+1)*3=k*3+3 by omega,show k*3+3+1=k*3+1+3 by omega,show k*3+3+2=k*3+2+3 by omega];simpa using this
theorem aPe {cs row:List Y} {sz k q o:Nat} {v:Y} (h:(cs.drop (k*sz)).take sz=row) (hrow:row.length=sz) (ho:o < sz):((cs.set (q*sz+o) v).drop (k*sz)).take sz=if k=q then row.set o v else row:=by
 apply List.ext_getElem?;intro j
 have hj:∀ l:List Y,((l.drop (k*sz)).take sz)[j]?=if j < sz then l[k*sz+j]? else none:=λl=>by
  rw [List.getElem?_take,List.getElem?_drop]
 have hr:row[j]?=if j < sz then cs[k*sz+j]? else none:=by rw [<- h,hj]
 rw [hj];by_cases hjs:j < sz
 ·rw [if_pos hjs];by_cases hkq:k=q
  ·subst hkq;rw [if_pos rfl,List.getElem?_set,List.getElem?_set];rw [if_pos hjs] at hr;by_cases hoj:o=j
   ·subst hoj;rw [if_pos rfl,if_pos rfl];have h1:o < row.length:=by omega
    have h2:k*sz+o < cs.length:=by
     have:row[o]?≠none:=by rw [List.getElem?_eq_getElem h1];simp
     rw [hr] at this;exact Nat.lt_of_not_le λhle=>this (List.getElem?_eq_none hle)
    rw [if_pos h1,if_pos h2]
   ·rw [if_neg hoj,if_neg (by omega),hr]
  ·rw [if_neg hkq,List.getElem?_set,if_neg ?_]
   ·rw [hr,if_pos hjs]
   ·intro he;rcases Nat.lt_or_gt_of_ne hkq with hlt|hgt
    ·have:=Nat.mul_le_mul_right sz (show k+1<=q by omega);rw [Nat.add_mul,Nat.one_mul] at this;omega
    ·have:=Nat.mul_le_mul_right sz (show q+1<=k by omega);rw [Nat.add_mul,Nat.one_mul] at this;omega
 ·rw [if_neg hjs];split
  ·rw [List.getElem?_eq_none (by rw [List.length_set];omega)]
  ·rw [List.getElem?_eq_none (by omega)]
end Go.Proofs.YtjcmcfidblhnnaaGreatDoor
namespace Go.Tc
def iK.withCode (i:iK) (q:Nat) (code:List kJ):iK:={ i with methods:=i.methods.set q { i.meth q with code:=code } }
end Go.Tc
namespace Go.Proofs.YtjcmcfidblhnnaaGreatDoor
open Tryz
open Go.Vc Go.Tc
variable {w:O} {K:Y->O->Prop}
variable {k:Int} {x:kJ} {B:Nat} {w':O} {i:iK} {n:aJ}
theorem SL {l:List kJ} {k:Nat} (h:∀ y∈l,y.rg) (hx:x.rg):∀ y∈l.set k x,y.rg:=λy hy=>by
 rcases List.mem_or_eq_of_mem_set hy with hy|rfl
 ·exact h y hy
 ·exact hx
theorem rg0 (op a:Int):kJ.rg ⟨op,a,0⟩:=⟨by show (-9223372036854775808:Int)<=0;decide,by show (0:Int)<=9223372036854775807;decide⟩
structure Apl (w:O) (p:jO) (i:iK):Prop where
 at_:kP w p i
 nm:lA w i
 rg:i.rg
 ml:i.methods.length=3
 cl:∀ m∈i.methods,m.code.length<=2000000
theorem Apl.ext {w':O} {p:jO} {i:iK} (h:Apl w p i) (hx:aE w w'):Apl w' p i:=⟨h.at_.ext hx,h.nm.ext hx,h.rg,h.ml,h.cl⟩
theorem aHm (l:List kJ):(iI l).all bY=true:=List.all_eq_true.2 λv hv=>by
 simp only [iI,List.mem_flatMap,List.mem_cons,List.not_mem_nil,or_false] at hv;obtain ⟨x,_,rfl|rfl|rfl⟩:=hv<;>rfl
theorem bLg (hk:∀ v w',w'.ownsRow w.heap.size 38 4 v 0 []->aE w w'->K v w'):V prog (Instr.buildSlice 25 0 #[]) w K:=by
 refine V.ok (v:=.slice (some ⟨w.heap.size,0,none⟩) 0 0) (w':=w.alloc (.cells (([]:List Y)).toArray 38)) (by kernel_rfl) ?_;exact hk _ _ (World.ownsRow_lit (base:=w.heap.size) (e:=38) (size:=4) w (([]:List Y)).toArray 0 (Nat.le_refl _) (Nat.zero_le _) rfl) ((aE.refl _).alloc _)
theorem aRi (hk:∀ v w',w'.ownsRow w.heap.size 88 3 v 0 (iI [])->aE w w'->K v w'):V prog (Instr.buildSlice 36 0 #[]) w K:=by
 refine V.ok (v:=.slice (some ⟨w.heap.size,0,none⟩) 0 0) (w':=w.alloc (.cells (([]:List Y)).toArray 88)) (by kernel_rfl) ?_;exact hk _ _ (World.ownsRow_lit (base:=w.heap.size) (e:=88) (size:=3) w (([]:List Y)).toArray 0 (Nat.le_refl _) (Nat.zero_le _) rfl) ((aE.refl _).alloc _)
theorem apI {v x:Y} {l m:List kJ} (ho:w.ownsRow B 88 3 v l.length (iI l)) (hs:lT w x m) (hl:l.length+m.length<=10000000) (hB:B<=w.heap.size)
  (hk:∀ v' w',w'.ownsRow B 88 3 v' (l++m).length (iI (l++m))->w.grownBy w' v.ownBlock->K v' w'):V prog (Builtin.append_ #[36,36] 36 #[v,x]) w K:=by
 refine apG underlying36 nJ rfl (by decide) ho hs (aHm _) (by omega) (by unfold maxLen;omega) hB λv' w' h1 h2 _=>hk v' w' ?_ h2;rw [List.length_append,aHn];exact h1
theorem DW {v:Y} {l:List kJ} (h:lT w v l) {lo hi':Option Y} {a b:Nat} (ha:(lo=none/\a=0)\/lo=some (.int .i64 a)) (hb:(hi'=none/\b=l.length)\/hi'=some (.int .i64 b)) (hab:a<=b) (hbn:b<=l.length) :
  ∃ v',(∀ w',(Instr.sliceAt 36 v lo hi' none).run prog w'=.ok v' w')/\lT w v' ((l.drop a).take (b - a)):=by
 obtain ⟨v',h1,h2⟩:=aFg underlying36 nJ h ha hb hab hbn;refine ⟨v',h1,?_⟩;have:=h2 w h;rw [HK,zS] at this;unfold lT
 rwa [show ((l.drop a).take (b - a)).length=b - a by simp;omega]
def BJ (N0:Nat) (w0:O) (v:Y) (w':O):Prop:=∃ code':List kJ,w'.ownsRow N0 88 3 v code'.length (iI code')/\(∀ x∈code',x.rg)/\code'.length<=2000000/\Fr (λk=>N0<=k) w0 w'
structure FC (B:Nat) (w:O) (p:jO) (i:iK):Prop where
 ap:∀ w'',Fr (λk=>k < B) w w''->tV w''->Apl w'' p i
 mt:∃ cs:List Y,∀ w'',Fr (λk=>k < B) w w''->aA w'' p.mv 4 i.methods.length cs/\∀ (k:Nat) (x:jN),i.methods[k]?=some x->lH w'' ((cs.drop (k*4)).take 4) x
theorem FC.by_ {B':Nat} {p:jO} (h:FC B w p i) (hf:∀ w'',Fr (λk=>k < B') w' w''->Fr (λk=>k < B) w w''):FC B' w' p i:=by
 obtain ⟨h1,cs,h2⟩:=h;exact ⟨λw'' f hT=>h1 w'' (hf w'' f) hT,cs,λw'' f=>h2 w'' (hf w'' f)⟩
theorem FC.ext {p:jO} (h:FC B w p i) (hx:aE w w'):FC B w' p i:=h.by_ λ_ f=>(Fr.of_ext hx).trans f λ_ _ h=>h
theorem FC.now {p:jO} (h:FC B w p i) (hT:tV w):Apl w p i:=h.ap w (Fr.refl _ _) hT
theorem bJv {p:jO} {a b e:Int} (hst:FC B w p i) (hT:tV w) (hB0:B<=w.heap.size) (hc7:∀ m∈i.methods,m.code.length<=700000) (hk:∀ p' i' w',FC B w' p' i'->aE w w'->K (p'.val i') w') :
  aC prog 19 #[p.val i,i64 a,i64 b,i64 e] w K:=by
 apply bHo;unfold aAs jO.val;have h:=hst.now hT;have ml:=h.ml;refine bxK λw1 hB4 x1=>?_;have hB4:bO w1 w.heap.size [.string i.name,p.fv,p.iv,p.mv,p.xv] 27:=hB4;have l4:=hB4.lt;refine zA qZ λw2 hB8 x2=>?_;have hB8:bO w2 w1.heap.size [.string ByteArray.empty,aX,aX,aX,aX] 27:=hB8;have l8:=hB8.lt;have hB4:=hB4.ext x2;generalize hg4:w.heap.size=g4 at *;generalize hg8:w1.heap.size=g8 at *;obtain ⟨cs,hcsA⟩:=hst.mt;obtain ⟨hcs,hrowsA⟩:=hcsA w (Fr.refl _ _);have hrows:∀ (k:Nat) x,i.methods[k]?=some x->∃ row,(cs.drop (k*4)).take 4=row/\lH w row x:=λk x hx=>⟨_,rfl,hrowsA k x hx⟩;have hcl:cs.length=i.methods.length*4:=hcs.1;have x12:=x1.trans x2;refine bLg λv3 w3 ho3 x3=>?_;have s3:=x3.size;refine bC (bO.boxed (hB4.ext x3)) bP dE rfl ?_
 have hone:cs.all bY=true:=List.all_eq_true.2 λu hu=>by
  obtain ⟨j,hj⟩:=List.getElem?_of_mem hu;have hjl:=(List.getElem?_eq_some_iff.1 hj).1;obtain ⟨row,hrow,pv,lv,cv,hre,hp,hl,hc⟩:=hrows (j / 4) _ (List.getElem?_eq_getElem (show j / 4 < i.methods.length by omega))
  have hj4:row[j % 4]?=some u:=by
   rw [<- hrow,List.getElem?_take,if_pos (by omega),List.getElem?_drop,show j / 4*4+j % 4=j by omega];exact hj
  rw [hre] at hj4;obtain ⟨a1,c1,rfl⟩:=hp.shape;obtain ⟨a2,c2,rfl⟩:=hl.shape;obtain ⟨a3,c3,rfl⟩:=aA.shape hc;have h4:j % 4=0\/j % 4=1\/j % 4=2\/j % 4=3:=by omega
  rcases h4 with h4|h4|h4|h4<;>rw [h4] at hj4<;>cases hj4<;>rfl
 refine apG underlying25 tO rfl (by decide) ho3 (hcs.ext (x12.trans x3)) hone (by omega) (by unfold maxLen;omega) s3 λv4 w4 ho4 hg4' _=>?_;have ho4:w4.ownsRow w2.heap.size 38 4 v4 (0+i.methods.length) cs:=by simpa using ho4
 rw [Nat.zero_add,ml] at ho4;have x4:aE w2 w4:=x3.grown hg4' λk hk=>(ho3.lt k hk).1;have s4:=x4.size
 obtain ⟨gm,capm,rfl⟩:∃ gm cap,v4=.slice (some ⟨gm,0,none⟩) 3 cap:=by
  rcases ho4.2 with ⟨_,e⟩|⟨gm,cap,cur,rfl,_⟩
  ·cases e
  ·exact ⟨gm,cap,rfl⟩
 have hgm:=ho4.lt gm rfl;refine fQ gO (aA.of_own ho4) (eJ (by decide) (by decide) λq hq0 hq1=>?_);obtain ⟨q,rfl⟩:∃ q2:Nat,q=q2:=⟨q.toNat,by omega⟩;have hq3:q < 3:=by omega
 have x04:=x12.trans x4;obtain ⟨m,hm⟩:=bE (l:=i.methods) (j:=q) (by omega);obtain ⟨row,hrow,pv,lv,cv,rfl,hp,hl,hc⟩:=hrows q m hm;have hmm:=List.mem_of_getElem? hm;have hml:=hc7 m hmm;have hmrg:=h.rg m hmm
 have hrow3:cs[q*4+3]?=some cv:=by
  have:((cs.drop (q*4)).take 4)[3]?=some cv:=by rw [hrow];rfl
  rwa [List.getElem?_take,if_pos (by decide),List.getElem?_drop] at this
 refine aRi λv5 w5 ho5 x5=>?_;have s5:=x5.size;have x05:=x04.trans x5;refine aQi gO cG iM (aA.of_own (x5.own ho4)) (by omega) (by omega) (u:=cv) (by simpa using hrow3) ?_;refine apI (l:=[]) ho5 (hc.ext x05) (by simp;omega) s5 λv6 w6 ho6 hg6=>?_;have x6:aE w4 w6:=x5.grown hg6 λk hk=>(ho5.lt k hk).1;have s6:=x6.size;have x06:=x04.trans x6;rw [List.nil_append] at ho6;have hB46:=hB4.ext (x4.trans x6);have hB86:=hB8.ext (x4.trans x6);have ho46:=x6.own ho4;refine fQ jY (aA.of_own ho6) (aH.2 (aB (λhz=>?_) λhz=>?_))
 ·refine iF (bO.boxed hB46) lM rfl ?_
  have hv:([.string i.name,p.fv,p.iv,p.mv,p.xv]:List Y).all bY=true:=by
   obtain ⟨a1,c1,e1⟩:=aA.shape h.at_.fl;obtain ⟨_,hx1,_⟩:=h.at_.im;obtain ⟨a2,c2,e2⟩:=aA.shape hx1;obtain ⟨a3,c3,e3⟩:=aA.shape hcs;obtain ⟨a4,c4,e4⟩:=aA.shape h.at_.ex;rw [e1,e2,e3,e4];rfl
  refine yW qZ hB86 (l:=[.string i.name,p.fv,p.iv,p.mv,p.xv]) rfl rfl rfl hv λw7 hB7 hc7'=>?_;refine ⟨_,nS underlying27 rfl qZ hB7 rfl,⟨_,rfl⟩,?_⟩;have x07:aE w w7:=hc7'.ext _ x06 (by omega);exact hk p i w7 (hst.ext x07) x07
 obtain ⟨gq,capq,rfl⟩:∃ gm cap,v6=.slice (some ⟨gm,0,none⟩) m.code.length cap:=by
  rcases ho6.2 with ⟨_,e⟩|⟨gm,cap,cur,rfl,_⟩
  ·omega
  ·exact ⟨gm,cap,rfl⟩
 have hgq:=ho6.lt gq rfl;refine (NJ (by decide)).2 ?_;refine fQ jY (aA.of_own ho6) (eJ (by omega) (by omega) λk hk0 hk1=>?_);obtain ⟨k,rfl⟩:∃ q2:Nat,k=q2:=⟨k.toNat,by omega⟩;have hkl:k < m.code.length:=by omega
 obtain ⟨x,hx⟩:=bE hkl;have hxr:=hmrg x (List.mem_of_getElem? hx);have hIA:lT w6 (.slice (some ⟨gq,0,none⟩) m.code.length capq) m.code:=aA.of_own ho6;refine ⟨BJ w4.heap.size w6,?_,?_⟩
 ·refine eJ (by decide) (by decide) λz hz0 hz1=>?_;have same:BJ w4.heap.size w6 (.slice (some ⟨gq,0,none⟩) m.code.length capq) w6:=⟨m.code,ho6,hmrg,by omega,Fr.refl _ _⟩
  have whole:∀ {op av:Int},V prog (Instr.indexAt 36 (.slice (some ⟨gq,0,none⟩) m.code.length capq) (i64 k)) w6 λt w1=>U prog (Instr.storeAt 88 t (.agg #[i64 op,i64 av,i64 0])) w1 λ_ w2=>BJ w4.heap.size w6 (.slice (some ⟨gq,0,none⟩) m.code.length capq) w2:=by
   intro op av;refine V.ok (iL underlying36 nJ (by omega) (by omega)) ?_;rw [Int.toNat_natCast];refine bKv nJ ho6 hkl rfl rfl rfl λw7 ho7 f7=>?_;refine ⟨m.code.set k ⟨op,av,0⟩,?_,SL hmrg (rg0 _ _),by rw [List.length_set];omega,f7.mono λi hi=>by omega⟩;rw [List.length_set,<- HI hkl];exact ho7
  refine aH.2 (aB (λ_=>?_) λ_=>?_)
  ·refine eJ (by decide) (by decide) λy hy0 hy1=>bA.2 ?_;refine V.ok (iL underlying36 nJ (by omega) (by omega)) (V.ok (FA.ex bH _ _ _) ?_);rw [Int.toNat_natCast];refine aPa underlying36 nJ bH bW ho6 hkl (by decide) rfl λw7 _ ho7 f7=>?_;refine ⟨m.code.set k ⟨IntKind.i64.wrap (1+y),x.a,x.b⟩,?_,SL hmrg hxr,by rw [List.length_set];omega,f7.mono λi hi=>by omega⟩;rw [List.length_set,<- HJ hx];exact ho7
  refine aH.2 (aB (λ_=>?_) λ_=>?_)
  ·refine eJ (by decide) (by decide) λy hy0 hy1=>?_;refine V.ok (iL underlying36 nJ (by omega) (by omega)) (V.ok (FA.ex bD _ _ _) ?_);rw [Int.toNat_natCast];refine aPa underlying36 nJ bD bW ho6 hkl (by decide) rfl λw7 _ ho7 f7=>?_;refine ⟨m.code.set k ⟨x.op,y,x.b⟩,?_,SL hmrg hxr,by rw [List.length_set];omega,f7.mono λi hi=>by omega⟩;rw [List.length_set,<- zT hx];exact ho7
  have D1:aE w6 w6.drew:=(aE.refl _).drew;have hIAd:=hIA.ext D1;have sd:w4.heap.size<=w6.drew.heap.size:=by have:=D1.size;omega
  obtain ⟨u1,ur1,us1⟩:=DW hIAd (lo:=none) (hi':=some (.int .i64 (k:Int))) (a:=0) (b:=k) (.inl ⟨rfl,rfl⟩) (.inr rfl) (by omega) (by omega);obtain ⟨u2,ur2,us2⟩:=DW hIAd (lo:=some (.int .i64 ((k+1:Nat):Int))) (hi':=none) (a:=k+1) (b:=m.code.length) (.inr rfl) (.inl ⟨rfl,rfl⟩) (by omega) (by omega);obtain ⟨u3,ur3,us3⟩:=DW hIAd (lo:=some (.int .i64 (k:Int))) (hi':=none) (a:=k) (b:=m.code.length) (.inr rfl) (.inl ⟨rfl,rfl⟩) (by omega) (by omega);have rgp:∀ {a b:Nat},∀ y∈(m.code.drop a).take b,y.rg:=λy hy=>hmrg y (List.mem_of_mem_drop (List.mem_of_mem_take hy));have lnp:∀ {a b:Nat},((m.code.drop a).take b).length<=m.code.length:=by intro a b;simp;omega
  refine aH.2 (aB (λ_=>?_) λ_=>?_)
  ·refine aK.mk' (λw'=>aE w6.drew w') (aE.refl _) ?_;refine aD.ok (λw' _=>ur1 _) (aD.ok (λw' _=>DD) ?_);rw [aM (by omega),bK];refine aD.ok (λw' _=>ur2 _) ?_;refine aRi λv7 w7 ho7 x7=>⟨x7,?_⟩;have:=lnp (a:=0) (b:=k - 0);have:=lnp (a:=k+1) (b:=m.code.length - (k+1));refine apI (l:=[]) ho7 (us1.ext x7) (by simp only [List.length_nil];omega) x7.size λv8 w8 ho8 hg8=>?_;have x8:aE w6.drew w8:=x7.grown hg8 λk hk=>(ho7.lt k hk).1;refine ⟨x8,apI ho8 (us2.ext x8) (by simp only [List.nil_append];omega) x8.size λv9 w9 ho9 hg9=>?_⟩;have x9:aE w6.drew w9:=x8.grown hg9 λk hk=>(ho8.lt k hk).1;refine ⟨x9,_,aU ho9 sd,λy hy=>?_,by simp only [List.nil_append,List.length_append];omega,Fr.of_ext (D1.trans x9)⟩;rw [List.nil_append] at hy;rcases List.mem_append.1 hy with hy|hy
   iterate 2
    ·exact rgp y hy
  refine aH.2 (aB (λ_=>?_) λ_=>?_)
  ·refine aK.mk' (λw'=>aE w6.drew w') (aE.refl _) ?_;refine aD.ok (λw' _=>ur1 _) ?_;refine yI hIAd (λ_ h=>h) hx ?_;refine aD.ok (λw' _=>ur3 _) ?_;have l1:=lnp (a:=0) (b:=k - 0);have l3:=lnp (a:=k) (b:=m.code.length - k)
   have one:∀ {K':Y->O->Prop} {w':O},(∀ v w2,w2.ownsRow w'.heap.size 88 3 v 1 (iI [x])->aE w' w2->K' v w2)->V prog (Instr.buildSlice 36 1 #[(0,.agg #[i64 x.op,i64 x.a,i64 x.b])]) w' K':=λhK=>by
    refine zX underlying36 nJ rfl (by decide) [.agg #[i64 x.op,i64 x.a,i64 x.b]] rfl rfl (by intro v hv;rw [List.mem_singleton] at hv;subst hv;rfl) (by decide) (by decide) λv w2 h1 h2=>hK v w2 h1 h2
   have tail:∀ {w':O} {t74 t79:Y},aE w6.drew w'->w'.ownsRow w6.drew.heap.size 88 3 t74 ([]++(m.code.drop 0).take (k - 0)).length (iI ([]++(m.code.drop 0).take (k - 0)))->lT w' t79 [x]->V prog (Builtin.append_ #[36,36] 36 #[t74,t79]) w' λt80 w43=>aE w6.drew w43/\V prog (Builtin.append_ #[36,36] 36 #[t80,u3]) w43 λt84 w44=>aE w6.drew w44/\BJ w4.heap.size w6 t84 w44:=by
    intro w' t74 t79 xw ho hs;refine apI ho hs (by simp only [List.nil_append,List.length_cons,List.length_nil];omega) xw.size λv8 w8 ho8 hg8=>?_;have x8:aE w6.drew w8:=xw.grown hg8 λk hk=>(ho.lt k hk).1;refine ⟨x8,apI ho8 (us3.ext x8) (by simp only [List.nil_append,List.length_append,List.length_cons,List.length_nil];omega) x8.size λv9 w9 ho9 hg9=>?_⟩;have x9:aE w6.drew w9:=x8.grown hg9 λk hk=>(ho8.lt k hk).1;refine ⟨x9,_,aU ho9 sd,λy hy=>?_,by simp only [List.nil_append,List.length_append,List.length_cons,List.length_nil];omega,Fr.of_ext (D1.trans x9)⟩;simp only [List.nil_append,List.mem_append,List.mem_cons,List.not_mem_nil,or_false] at hy;rcases hy with (hy|rfl)|hy
    ·exact rgp y hy
    ·exact hxr
    ·exact rgp y hy
   have tail0:∀ {w':O} {t70 t79:Y},aE w6.drew w'->w'.ownsRow w6.drew.heap.size 88 3 t70 0 (iI [])->w'.ownsRow w6.drew.heap.size 88 3 t79 1 (iI [x])->(∀ k,t70.ownBlock=some k->t79.ownBlock≠some k)->V prog (Builtin.append_ #[36,36] 36 #[t70,u1]) w' λt74 w41=>aE w6.drew w41/\V prog (Builtin.append_ #[36,36] 36 #[t74,t79]) w41 λt80 w43=>aE w6.drew w43/\V prog (Builtin.append_ #[36,36] 36 #[t80,u3]) w43 λt84 w44=>aE w6.drew w44/\BJ w4.heap.size w6 t84 w44:=by
    intro w' t70 t79 xw ho ho79 hne;refine apI (l:=[]) ho (us1.ext xw) (by simp only [List.length_nil];omega) xw.size λv8 w8 ho8 hg8=>?_;have x8:aE w6.drew w8:=xw.grown hg8 λk hk=>(ho.lt k hk).1;exact ⟨x8,tail x8 ho8 (aA.of_own ((Fr.of_grown (S:=λk=>t70.ownBlock=some k) hg8 λk hk=>hk).own ho79 λk hk hk'=>hne k hk' hk))⟩
   refine ⟨?_,?_⟩
   ·refine aRi λv7 w7 ho7 x7=>⟨x7,?_,?_⟩
    ·refine apI (l:=[]) ho7 (us1.ext x7) (by simp only [List.length_nil];omega) x7.size λv8 w8 ho8 hg8=>?_;have x8:aE w6.drew w8:=x7.grown hg8 λk hk=>(ho7.lt k hk).1;refine ⟨x8,?_⟩;refine one λv9 w9 ho9 x9=>⟨x8.trans x9,?_⟩;exact tail (x8.trans x9) (x9.own ho8) (aA.of_own ho9)
    ·refine one λv9 w9 ho9 x9=>⟨x7.trans x9,?_⟩
     exact tail0 (x7.trans x9) (x9.own ho7) (aU ho9 x7.size) λk hk hk'=>by
      have:=(ho7.lt k hk).2;have:=(ho9.lt k hk').1;omega
   ·refine one λv9 w9 ho9 x9=>⟨x9,?_⟩;refine aRi λv7 w7 ho7 x7=>⟨x9.trans x7,?_⟩
    exact tail0 (x9.trans x7) (aU ho7 x9.size) (x7.own ho9) λk hk hk'=>by
     have:=(ho7.lt k hk).1;have:=(ho9.lt k hk').2;omega
  refine aH.2 (aB (λ_=>?_) λ_=>?_)
  ·refine oD yN [(0,i64 35),(1,i64 2)] rfl rfl ?_;exact whole
  refine aH.2 (aB (λ_=>?_) λ_=>?_)
  ·refine fQ jY hIA (eJ (by omega) (by omega) λy hy0 hy1=>?_);refine oD yN [(0,i64 23),(1,i64 y)] rfl rfl ?_;exact whole
  refine aH.2 (aB (λ_=>?_) λ_=>?_)
  ·refine oD yN [(0,i64 4)] rfl rfl ?_;exact whole
  refine aH.2 (aB (λ_=>?_) λ_=>?_)
  ·refine slO underlying36 nJ (by decide) ho6 (by omega) (by omega) λho7=>?_;refine ⟨m.code.take k,?_,λy hy=>hmrg y (List.mem_of_mem_take hy),by simp;omega,Fr.refl _ _⟩;rw [zS] at ho7;rw [show (m.code.take k).length=k by simp;omega];exact ho7
  refine aH.2 (aB (λ_=>?_) λ_=>same);refine eJ (by decide) (by decide) λy hy0 hy1=>?_;refine oD yN [(0,i64 33),(1,i64 y)] rfl rfl ?_;exact whole
 rintro v7 w7 ⟨code',hoJ,hrgJ,hlenJ,fJ⟩ _;have ho4J:=fJ.own ho46 λk hk hS=>by cases hk;have hS:w4.heap.size<=gm:=hS;omega
 have hB4J:=fJ.blk hB46 (by omega);have hB8J:=fJ.blk hB86 (by omega);have x07:aE w w7:=fJ.ext x06 λk hS=>by omega
 refine V.ok (iL underlying25 tO (by omega) (by omega)) (V.ok (FA.ex cG _ _ _) ?_);rw [Int.toNat_natCast];refine aPa underlying25 tO cG HL ho4J hq3 (by decide) (jB hoJ) λw8 _ ho8 f8=>?_;have hB48:=f8.blk hB4J (by omega);have hB88:=f8.blk hB8J (by omega);have hoJ8:=f8.own hoJ λk hk hS=>by have:=(hoJ.lt k hk).1;omega
 have x08:aE w w8:=f8.ext x07 λk hS=>by omega
 refine FS bP aHp hB48 (n:=5) rfl (by decide) rfl ?_;have f9:Fr (λk=>k=g4) w8 (w8.setCell ⟨g4,3,none⟩ (.slice (some ⟨gm,0,none⟩) 3 capm)):=Fr.of_set rfl;have hB49:=hB48.set 3 (.slice (some ⟨gm,0,none⟩) 3 capm);generalize w8.setCell ⟨g4,3,none⟩ (.slice (some ⟨gm,0,none⟩) 3 capm)=w9 at f9 hB49;have hB49:bO w9 g4 [.string i.name,p.fv,p.iv,.slice (some ⟨gm,0,none⟩) 3 capm,p.xv] 27:=hB49;have hB89:=f9.blk hB88 (by omega);have hoJ9:=f9.own hoJ8 λk hk hS=>by have:=(hoJ8.lt k hk).1;omega
 have ho9:=f9.own ho8 λk hk hS=>by cases hk;have hS:gm=g4:=hS;omega
 have x09:aE w w9:=f9.ext x08 λk hS=>by omega
 refine iF (bO.boxed hB49) lM rfl ?_
 have hv:([.string i.name,p.fv,p.iv,.slice (some ⟨gm,0,none⟩) 3 capm,p.xv]:List Y).all bY=true:=by
  obtain ⟨a1,c1,e1⟩:=aA.shape h.at_.fl;obtain ⟨_,hx1,_⟩:=h.at_.im;obtain ⟨a2,c2,e2⟩:=aA.shape hx1;obtain ⟨a4,c4,e4⟩:=aA.shape h.at_.ex;rw [e1,e2,e4];rfl
 refine yW qZ hB89 (l:=[.string i.name,p.fv,p.iv,.slice (some ⟨gm,0,none⟩) 3 capm,p.xv]) rfl rfl rfl hv λwE hBE hcE=>?_;refine ⟨_,nS underlying27 rfl qZ hBE rfl,⟨_,rfl⟩,?_⟩;have xE:aE w wE:=hcE.ext _ x09 (by omega);have hoE:=(rE hcE).own ho9 λk hk hS=>by cases hk;have hS:gm=g8:=hS;omega
 have hoJE:=(rE hcE).own hoJ9 λk hk hS=>by have:=(hoJ9.lt k hk).1;omega
 have hmeq:i.meth q=m:=by
  have:=fY (i:=i) (a:=(q:Int)) (by omega) (by omega);rw [Int.toNat_natCast,hm] at this;cases this;rfl
 have hwE:=xE.size
 have key:∀ w'',Fr (λk=>k < B) wE w''->aA w'' (.slice (some ⟨gm,0,none⟩) 3 capm) 4 (i.withCode q code').methods.length (cs.set (q*4+3) v7)/\∀ (k:Nat) (x:jN),(i.withCode q code').methods[k]?=some x->lH w'' (((cs.set (q*4+3) v7).drop (k*4)).take 4) x:=by
  intro w'' f'';have fw:Fr (λk=>k < B) w w'':=(Fr.of_ext xE).trans f'' λ_ _ h=>h;obtain ⟨_,hrows''⟩:=hcsA w'' fw;have hoE':=f''.own hoE λk hk hS=>by cases hk;have hS:gm < B:=hS;omega
  have hoJE':=f''.own hoJE λk hk hS=>by have:=(hoJE.lt k hk).1;have hS:k < B:=hS;omega
  refine ⟨by rw [show (i.withCode q code').methods.length=3 by simp [iK.withCode,ml]];exact aA.of_own hoE',λk y hy=>?_⟩;have hy:(i.methods.set q { i.meth q with code:=code' })[k]?=some y:=hy
  have hk3:k < i.methods.length:=by
   have:=(List.getElem?_eq_some_iff.1 hy).1;simpa using this
  have hTk:=hrows'' k _ (List.getElem?_eq_getElem hk3);rw [aPe rfl (qL _ _ _ hTk) (by decide)];rw [List.getElem?_set] at hy;by_cases hkq:q=k
  ·subst hkq;rw [if_pos rfl,if_pos hk3] at hy;cases hy;rw [if_pos rfl];have hTq:=hrows'' q m hm;rw [hrow] at hTq ⊢;obtain ⟨pv',lv',cv',e1,hp',hl',_⟩:=hTq;simp only [List.cons.injEq,and_true,true_and] at e1;obtain ⟨rfl,rfl,rfl⟩:=e1;rw [hmeq];exact ⟨pv,lv,v7,rfl,hp',hl',aA.of_own hoJE'⟩
  ·rw [if_neg hkq] at hy;rw [if_neg (λe=>hkq e.symm)];rw [List.getElem?_eq_getElem hk3] at hy;cases hy;exact hTk
 refine hk ⟨p.fv,p.iv,.slice (some ⟨gm,0,none⟩) 3 capm,p.xv⟩ (i.withCode q code') wE ⟨λw'' f'' hT''=>?_,_,key⟩ xE;have hA:=hst.ap w'' ((Fr.of_ext xE).trans f'' λ_ _ h=>h) hT'';refine ⟨⟨hA.at_.fl,hA.at_.im,⟨_,(key w'' f'').1,λk x hx=>⟨_,rfl,(key w'' f'').2 k x hx⟩⟩,hA.at_.ex⟩,hA.nm,λm' hm' y hy=>?_,by simp [iK.withCode,ml],λm' hm'=>?_⟩
 ·have hm':m'∈i.methods.set q { i.meth q with code:=code' }:=hm';rcases List.mem_or_eq_of_mem_set hm' with hm'|rfl
  ·exact h.rg m' hm' y hy
  ·exact hrgJ y hy
 ·have hm':m'∈i.methods.set q { i.meth q with code:=code' }:=hm';rcases List.mem_or_eq_of_mem_set hm' with hm'|rfl
  ·exact h.cl m' hm'
  ·exact hlenJ
def jO.cells (p:jO) (i:iK):List Y:=[.string i.name,p.fv,p.iv,p.mv,p.xv]
theorem Apl.one {p:jO} (h:Apl w p i):(p.cells i).all bY=true:=by
 obtain ⟨a1,c1,e1⟩:=aA.shape h.at_.fl;obtain ⟨_,hx1,_⟩:=h.at_.im;obtain ⟨a2,c2,e2⟩:=aA.shape hx1;obtain ⟨_,hx3,_⟩:=h.at_.mt;obtain ⟨a3,c3,e3⟩:=aA.shape hx3;obtain ⟨a4,c4,e4⟩:=aA.shape h.at_.ex;unfold jO.cells;rw [e1,e2,e3,e4];rfl
theorem bLj {n:Int} {rv:Y} {rl:List Rw} (hr:kL w rv rl) (hb:wU w) (hT:tV w) (rn:rl.length<=5000000000000)
  (hk:∀ p i w',FC w.heap.size w' p i->(∀ m∈i.methods,m.code.length<=700000)->aE w w'->K (p.val i) w'):aC prog 20 #[i64 n,rv] w K:=
 aRm hr hb hT rn λp i w' _ _ h3 h4 h5 h7 h8 h6=>hk p i w' ⟨λw'' f hT''=>⟨(h7 w'' f hT'').1,(h7 w'' f hT'').2,h3,h4,λm hm=>Nat.le_trans (h5 m hm) (by decide)⟩,h8⟩ h5 h6
def bMu (l:List (jO × iK)):List Y:=l.flatMap λx=>x.1.cells x.2
def bHw (w:O) (row:List Y) (x:jO × iK):Prop:=row=x.1.cells x.2/\Apl w x.1 x.2/\mU x.2
def bKp (w:O) (v:Y) (l:List (jO × iK)):Prop:=cA bHw 5 w v l
def bKl (w:O) (v:Y) (ll:List (List Rw)):Prop:=∃ vs:List Y,aA w v 1 ll.length vs/\∀ (k:Nat) (l:List Rw),ll[k]?=some l->∃ u,vs[k]?=some u/\kL w u l/\l.length<=5000000000000
def mK (op:Int):Int × Bool:=if op=27\/op=28 then (1,true) else if op=17\/op=18\/op=29 then (2,true) else if op=30\/op=36 then (3,false) else if op=31 then (5,false) else if op=32 then (5,true) else (0,false)
def tS (h n:Nat):List Int:=(List.range n).map λk=>10+((h - n+k:Nat):Int)
def CZ (r:Int) (k:Int):Int:=if r=0 then -1 else 10+k
def jH (i:iK) (m:jN) (x:kJ) (h:Nat):Option aJ:=
 if x.op=1 then some (.const (10+(h:Int)) (IntKind.i32.wrap x.a)) else if x.op=2 then some (.move (10+(h:Int)) x.a) else if x.op=3 then some (.move x.a (10+((h:Int) - 1))) else if x.op=4 then none
 else if x.op=5 then some (.move (10+(h:Int)) (10+((h:Int) - 1))) else if x.op=15\/x.op=16\/x.op=26 then some (.un x.op (10+((h:Int) - 1)) (10+((h:Int) - 1)))
 else if x.op=22 then some (.choose (10+((h:Int) - 3)) (10+((h:Int) - 3)) (10+((h:Int) - 2)) (10+((h:Int) - 1))) else if x.op=23 then some (.goto x.a) else if x.op=24 then some (.branch (10+((h:Int) - 1)) x.a)
 else if x.op=25 then some (.const (10+(h:Int)) 0) else if x.op=35 then some (.const (10+(h:Int)) (IntKind.i32.wrap x.a)) else if x.op=33 then some (.getField (10+(h:Int)) x.a) else if x.op=34 then some (.putField x.a (10+((h:Int) - 1)))
 else if x.op=37 then some (.call x.a (CZ (i.meth x.a).result ((h:Int) - (i.meth x.a).params.length)) (tS h (i.meth x.a).params.length))
 else if x.op=38 then some (.callX x.a (CZ (i.imp x.a).result ((h:Int) - (i.imp x.a).params.length)) (tS h (i.imp x.a).params.length))
 else if x.op=39 then some (.ret (CZ m.result ((h:Int) - 1)))
 else if (mK x.op).1≠0 then some (.serve x.op x.a x.b (if (mK x.op).2 then 10+((h:Int) - (mK x.op).1) else -1) (tS h (mK x.op).1.toNat))
 else some (.bin x.op (10+((h:Int) - 2)) (10+((h:Int) - 2)) (10+((h:Int) - 1)))
def jT (B:Nat) (w:O) (v:Y) (n:aJ):Prop:=∃ sv,v=n.val sv/\w.ownsRow B 3 1 sv n.args.length (n.args.map i64)
theorem jT.is {v:Y} (h:jT B w v n):jA w v n:=by
 obtain ⟨sv,h1,h2⟩:=h;exact ⟨sv,h1,aA.of_own h2⟩
theorem jT.fr {v:Y} {S:Nat->Prop} (h:jT B w v n) (f:Fr S w w') (hS:∀ k,B<=k->k < w.heap.size->¬ S k):jT B w' v n:=by
 obtain ⟨sv,h1,h2⟩:=h;exact ⟨sv,h1,f.own h2 λk hk=>hS k (h2.lt k hk).1 (h2.lt k hk).2⟩
def LN (B:Nat) (w:O) (v:Y):Option aJ->Prop
 | none=>v=Value.nilIface
 | some n=>jT B w v n
theorem oF (h:-1000<=k/\k<=1000) (hk:K (i64 (10+k)) w):aC prog 52 #[i64 k] w K:=by
 apply bGl;unfold ZR;refine bA.2 ?_;rw [aM (by omega)];exact hk
theorem CY {r:Int} (h:-1000<=k/\k<=1000) (hk:K (i64 (CZ r k)) w):aC prog 53 #[i64 r,i64 k] w K:=by
 apply bGk;unfold ZQ;unfold CZ at hk;refine aH.2 (aB (λhe=>?_) λhe=>?_)
 ·rw [if_pos he] at hk;exact hk
 ·rw [if_neg he] at hk;exact oF h hk
theorem aBr {h n j:Nat} (hj:j < n):(tS h n).take (j+1)=(tS h n).take j++[10+((h - n+j:Nat):Int)]:=by
 have hl:(tS h n).length=n:=by simp [tS]
 rw [List.take_add_one]
 congr 1
 simp [tS,hj]
theorem aEx {h n:Nat} (hn:n<=h) (hh:h<=500) (hk:∀ v w',w'.ownsRow w.heap.size 3 1 v (tS h n).length ((tS h n).map i64)->aE w w'->K v w'):aC prog 54 #[i64 h,i64 n] w K:=by
 have hl:(tS h n).length=n:=by simp [tS]
 apply bGj;unfold ZP;refine eY.2 ?_;rw [aM (by omega)];refine ⟨λtv v w'=>∃ j:Nat,v=i64 ((h - n+j:Nat):Int)/\j<=n/\aE w w'/\w'.ownsRow w.heap.size 3 1 tv j (((tS h n).take j).map i64),λ_ v _=>h - (RowKit.intOf v).toNat,⟨0,by congr 1;omega,Nat.zero_le _,aE.refl _,World.ownsRow_nil _ _ _ _⟩,?_⟩;rintro tv _ w1 ⟨j,rfl,hj,x1,ho⟩ _;refine aW.2 (aB (λhlt=>?_) λhge=>?_)
 ·refine oF (by omega) ?_;refine jX bB [i64 (10+((h - n+j:Nat):Int))] rfl rfl (by simp) rfl λv2 w2 ho2 x2=>?_;refine UQ bB (x2.own ho) (aA.of_own ho2) rfl (by omega) (by unfold maxLen;omega) (x1.trans x2).size λv3 w3 ho3 hg3=>?_;refine kQ (by omega) ?_;refine ⟨⟨j+1,rfl,by omega,(x1.trans x2).grown hg3 λq hq=>((x2.own ho).lt q hq).1,?_⟩,by simp only [aL];omega⟩;rw [aBr (by omega),List.map_append];exact ho3
 ·have hjn:j=n:=by omega
  subst hjn;refine hk tv w1 ?_ x1;rw [hl];have:=ho;rw [List.take_of_length_le (by omega)] at this;exact this
theorem aBo {op:Int} (hk:K (.tuple #[i64 (mK op).1,.bool (mK op).2]) w):aC prog 105 #[i64 op] w K:=by
 apply aZc;unfold RT;by_cases c27:op=27
 ·subst c27;simp only [aR,Int.reduceEq];exact hk
 by_cases c28:op=28
 ·subst c28;simp only [aR,Int.reduceEq];exact hk
 by_cases c17:op=17
 ·subst c17;simp only [aR,Int.reduceEq];intros;exact hk
 by_cases c18:op=18
 ·subst c18;simp only [aR,Int.reduceEq];intros;exact hk
 by_cases c29:op=29
 ·subst c29;simp only [aR,Int.reduceEq];intros;exact hk
 by_cases c30:op=30
 ·subst c30;simp only [aR,Int.reduceEq];intros;exact hk
 by_cases c36:op=36
 ·subst c36;simp only [aR,Int.reduceEq];intros;exact hk
 by_cases c31:op=31
 ·subst c31;simp only [aR,Int.reduceEq];intros;exact hk
 by_cases c32:op=32
 ·subst c32;simp only [aR,Int.reduceEq];intros;exact hk
 simp only [c27,c28,c17,c18,c29,c30,c36,c31,c32,aR]
 intros
 simp only [mK,c27,c28,c17,c18,c29,c30,c36,c31,c32,or_self,if_false] at hk;exact hk
theorem jE {v:Y} (h:v=n.val aX) (ha:n.args=[]):jT B w v n:=⟨aX,h,by rw [ha];exact World.ownsRow_nil _ _ _ _⟩
theorem aPb (op:Int):0<=(mK op).1/\(mK op).1<=5:=by
 unfold mK;split
 ·exact ⟨by decide,by decide⟩
 split
 ·exact ⟨by decide,by decide⟩
 split
 ·exact ⟨by decide,by decide⟩
 split
 ·exact ⟨by decide,by decide⟩
 split
 iterate 2
  ·exact ⟨by decide,by decide⟩
theorem gQ {h:Nat} (hn:(mK x.op).1.toNat<=h) (hh:h<=500) (hk:∀ v w',LN w.heap.size w' v (if (mK x.op).1=0 then none else some (.serve x.op x.a x.b (if (mK x.op).2 then 10+((h:Int) - (mK x.op).1) else -1) (tS h (mK x.op).1.toNat)))->aE w w'->K v w') :
  aC prog 55 #[.agg #[i64 x.op,i64 x.a,i64 x.b],i64 h] w K:=by
 have h0:=aPb x.op;apply bGi;unfold ZO;refine bx λb1 w1 hb1 x1=>?_;refine bC hb1 bH aG rfl (aBo (hU.2 (hO.2 (aH.2 ?_))));by_cases hz:(mK x.op).1=0
 ·simp only [hz,aR,Int.reduceNeg];exact hk _ _ (by rw [if_pos hz];rfl) x1
 simp only [hz,aR,Int.reduceNeg];rw [if_neg hz] at hk;obtain ⟨n,hn1⟩:∃ n:Nat,(mK x.op).1=n:=⟨(mK x.op).1.toNat,by omega⟩;rw [hn1] at hk hn h0 ⊢;rw [Int.toNat_natCast] at hk hn;refine ⟨λv w'=>v=i64 (if (mK x.op).2 then 10+((h:Int) - (n:Int)) else -1)/\w'=w1,?_,?_⟩
 ·cases h2:(mK x.op).2 with
  | true=>
   refine bJ.2 (eY.2 ?_);rw [aM (by omega)];exact oF (by omega) ⟨rfl,rfl⟩
  | false=>exact aP.2 ⟨rfl,rfl⟩
 rintro _ w9 ⟨rfl,hw⟩ _;have hw:=hw.symm;subst hw;have D1:aE w1 w1.drew:=(aE.refl _).drew;refine aK.mk' (λw'=>aE w1 w') D1 ?_;refine jG (λw' hw=>hb1.ext hw) bH aG rfl (jG (λw' hw=>hb1.ext hw) bD aG rfl (jG (λw' hw=>hb1.ext hw) tG aG rfl ?_));refine aEx hn hh λv w2 ho x2=>⟨D1.trans x2,?_⟩;refine nB bEb [(0,i64 x.op),(1,i64 x.a),(2,i64 x.b),(3,i64 _),(4,v)] rfl (by simp [jB ho,AJ]) (qA bCf ?_);refine hk _ _ ⟨v,rfl,aU ho (x1.trans D1).size⟩ ((x1.trans D1).trans x2)
theorem bBv {p:jO} {row:List Y} {m:jN} {h:Nat} (hA:kP w p i) (hm:lH w row m) (hx:BE i m x) (hh:h<=8) (ha:(aT i m x).length<=h) (hk:∀ v w',LN w.heap.size w' v (jH i m x h)->aE w w'->K v w') :
  aC prog 26 #[p.val i,.agg row.toArray,.agg #[i64 x.op,i64 x.a,i64 x.b],i64 h] w K:=by
 obtain ⟨op,a,b⟩:=x;obtain ⟨ir,mr,⟨ho,a1,a2,_⟩,hn⟩:=hx;obtain ⟨pv,lv,cv,rfl,hp,hl,hc⟩:=hm;have ho:1<=op/\op<=39:=ho;apply bHh;unfold aAl jO.val;refine bx λb4 w1 hb4 x1=>bx λb5 w2 hb5 x2=>bx λb6 w3 hb6 x3=>?_;have hb4:aY w3 b4 [.string i.name,p.fv,p.iv,p.mv,p.xv]:=(hb4.ext x2).ext x3;have hb5:aY w3 b5 [pv,i64 m.result,lv,cv]:=hb5.ext x3;have hb6:aY w3 b6 [i64 op,i64 a,i64 b]:=hb6;have xx:=(x1.trans x2).trans x3;have hA:=hA.ext xx;refine bC hb6 bH aG rfl ?_;have D1:aE w3 w3.drew:=(aE.refl _).drew;have xd:=xx.trans D1;rcases BB ho with rfl|rfl|rfl|rfl|rfl|rfl|rfl|rfl|rfl|rfl|rfl|rfl|rfl|rfl|rfl|rfl|rfl|rfl|rfl|rfl|rfl|rfl|rfl|rfl|rfl|rfl|rfl|rfl|rfl|rfl|rfl|rfl|rfl|rfl|rfl|rfl|rfl|rfl|rfl
 ·simp only [aR,Int.reduceEq]
  intros
  refine aK.mk' (λw'=>aE w3 w') D1 ?_;refine jG (λw' hw=>hb6.ext hw) bD aG rfl ?_;refine aD.ok (λw' _=>kM underlying3 underlying21) ?_;refine oF (by omega) ⟨D1,?_⟩;refine nB XQ [(0,i64 (10+(h:Int))),(1,i32 (IntKind.i32.wrap a))] rfl rfl (qA WH ?_);exact hk _ _ (jE rfl rfl) xd
 ·simp only [aR,Int.reduceEq]
  intros
  refine aK.mk' (λw'=>aE w3 w') D1 ?_;refine jG (λw' hw=>hb6.ext hw) bD aG rfl ?_;refine oF (by omega) ⟨D1,?_⟩;refine nB UN [(0,i64 (10+(h:Int))),(1,i64 a)] rfl rfl (qA JI ?_);exact hk _ _ (jE rfl rfl) xd
 ·simp only [aR,Int.reduceEq]
  intros
  refine aK.mk' (λw'=>aE w3 w') D1 ?_;refine jG (λw' hw=>hb6.ext hw) bD aG rfl ?_;refine aD.ok (λw' _=>eM) ?_;rw [aM (by omega)];refine oF (by omega) ⟨D1,?_⟩;refine nB UN [(0,i64 a),(1,i64 (10+((h:Int) - 1)))] rfl rfl (qA JI ?_);exact hk _ _ (jE rfl rfl) xd
 ·simp only [aR,Int.reduceEq]
  intros
  exact hk _ _ rfl xx
 ·simp only [aR,Int.reduceEq]
  intros
  refine oF (by omega) ?_;refine eY.2 ?_;rw [aM (by omega)];refine oF (by omega) ?_;refine oD UN [(0,i64 (10+(h:Int))),(1,i64 (10+((h:Int) - 1)))] rfl rfl (TB JI ?_);exact hk _ _ (jE rfl rfl) xx
 ·simp only [aR,Int.reduceEq]
  intros
  refine iF hb6 iG rfl ?_;refine gQ (x:=⟨6,a,b⟩) (show _<=h from Nat.zero_le _) (by omega) λv w4 hv x4=>?_;have hv:v=Value.nilIface:=hv;subst hv;refine V.ok (iA underlying43) (aP.2 ?_);have D4:aE w4 w4.drew:=(aE.refl _).drew;refine aK.mk' (λw'=>aE w4 w') D4 ?_;refine jG (λw' hw=>(hb6.ext x4).ext hw) bH aG rfl ?_;refine aD.ok (λw' _=>eM) ?_;rw [aM (by omega)];refine aD.ok (λw' _=>eM) ?_;rw [aM (by omega)];refine aD.ok (λw' _=>eM) ?_;rw [aM (by omega)];refine oF (by omega) ⟨D4,?_⟩;refine oF (by omega) ⟨D4,?_⟩;refine oF (by omega) ⟨D4,?_⟩;refine nB qE [(0,i64 6),(1,i64 (10+((h:Int) - 2))),(2,i64 (10+((h:Int) - 2))),(3,i64 (10+((h:Int) - 1)))] rfl rfl (qA pG ?_);exact hk _ _ (jE rfl rfl) ((xx.trans x4).trans D4)
 ·simp only [aR,Int.reduceEq]
  intros
  refine iF hb6 iG rfl ?_;refine gQ (x:=⟨7,a,b⟩) (show _<=h from Nat.zero_le _) (by omega) λv w4 hv x4=>?_;have hv:v=Value.nilIface:=hv;subst hv;refine V.ok (iA underlying43) (aP.2 ?_);have D4:aE w4 w4.drew:=(aE.refl _).drew;refine aK.mk' (λw'=>aE w4 w') D4 ?_;refine jG (λw' hw=>(hb6.ext x4).ext hw) bH aG rfl ?_;refine aD.ok (λw' _=>eM) ?_;rw [aM (by omega)];refine aD.ok (λw' _=>eM) ?_;rw [aM (by omega)];refine aD.ok (λw' _=>eM) ?_;rw [aM (by omega)];refine oF (by omega) ⟨D4,?_⟩;refine oF (by omega) ⟨D4,?_⟩;refine oF (by omega) ⟨D4,?_⟩;refine nB qE [(0,i64 7),(1,i64 (10+((h:Int) - 2))),(2,i64 (10+((h:Int) - 2))),(3,i64 (10+((h:Int) - 1)))] rfl rfl (qA pG ?_);exact hk _ _ (jE rfl rfl) ((xx.trans x4).trans D4)
 ·simp only [aR,Int.reduceEq]
  intros
  refine iF hb6 iG rfl ?_;refine gQ (x:=⟨8,a,b⟩) (show _<=h from Nat.zero_le _) (by omega) λv w4 hv x4=>?_;have hv:v=Value.nilIface:=hv;subst hv;refine V.ok (iA underlying43) (aP.2 ?_);have D4:aE w4 w4.drew:=(aE.refl _).drew;refine aK.mk' (λw'=>aE w4 w') D4 ?_;refine jG (λw' hw=>(hb6.ext x4).ext hw) bH aG rfl ?_;refine aD.ok (λw' _=>eM) ?_;rw [aM (by omega)];refine aD.ok (λw' _=>eM) ?_;rw [aM (by omega)];refine aD.ok (λw' _=>eM) ?_;rw [aM (by omega)];refine oF (by omega) ⟨D4,?_⟩;refine oF (by omega) ⟨D4,?_⟩;refine oF (by omega) ⟨D4,?_⟩;refine nB qE [(0,i64 8),(1,i64 (10+((h:Int) - 2))),(2,i64 (10+((h:Int) - 2))),(3,i64 (10+((h:Int) - 1)))] rfl rfl (qA pG ?_);exact hk _ _ (jE rfl rfl) ((xx.trans x4).trans D4)
 ·simp only [aR,Int.reduceEq]
  intros
  refine iF hb6 iG rfl ?_;refine gQ (x:=⟨9,a,b⟩) (show _<=h from Nat.zero_le _) (by omega) λv w4 hv x4=>?_;have hv:v=Value.nilIface:=hv;subst hv;refine V.ok (iA underlying43) (aP.2 ?_);have D4:aE w4 w4.drew:=(aE.refl _).drew;refine aK.mk' (λw'=>aE w4 w') D4 ?_;refine jG (λw' hw=>(hb6.ext x4).ext hw) bH aG rfl ?_;refine aD.ok (λw' _=>eM) ?_;rw [aM (by omega)];refine aD.ok (λw' _=>eM) ?_;rw [aM (by omega)];refine aD.ok (λw' _=>eM) ?_;rw [aM (by omega)];refine oF (by omega) ⟨D4,?_⟩;refine oF (by omega) ⟨D4,?_⟩;refine oF (by omega) ⟨D4,?_⟩;refine nB qE [(0,i64 9),(1,i64 (10+((h:Int) - 2))),(2,i64 (10+((h:Int) - 2))),(3,i64 (10+((h:Int) - 1)))] rfl rfl (qA pG ?_);exact hk _ _ (jE rfl rfl) ((xx.trans x4).trans D4)
 ·simp only [aR,Int.reduceEq]
  intros
  refine iF hb6 iG rfl ?_;refine gQ (x:=⟨10,a,b⟩) (show _<=h from Nat.zero_le _) (by omega) λv w4 hv x4=>?_;have hv:v=Value.nilIface:=hv;subst hv;refine V.ok (iA underlying43) (aP.2 ?_);have D4:aE w4 w4.drew:=(aE.refl _).drew;refine aK.mk' (λw'=>aE w4 w') D4 ?_;refine jG (λw' hw=>(hb6.ext x4).ext hw) bH aG rfl ?_;refine aD.ok (λw' _=>eM) ?_;rw [aM (by omega)];refine aD.ok (λw' _=>eM) ?_;rw [aM (by omega)];refine aD.ok (λw' _=>eM) ?_;rw [aM (by omega)];refine oF (by omega) ⟨D4,?_⟩;refine oF (by omega) ⟨D4,?_⟩;refine oF (by omega) ⟨D4,?_⟩;refine nB qE [(0,i64 10),(1,i64 (10+((h:Int) - 2))),(2,i64 (10+((h:Int) - 2))),(3,i64 (10+((h:Int) - 1)))] rfl rfl (qA pG ?_);exact hk _ _ (jE rfl rfl) ((xx.trans x4).trans D4)
 ·simp only [aR,Int.reduceEq]
  intros
  refine iF hb6 iG rfl ?_;refine gQ (x:=⟨11,a,b⟩) (show _<=h from Nat.zero_le _) (by omega) λv w4 hv x4=>?_;have hv:v=Value.nilIface:=hv;subst hv;refine V.ok (iA underlying43) (aP.2 ?_);have D4:aE w4 w4.drew:=(aE.refl _).drew;refine aK.mk' (λw'=>aE w4 w') D4 ?_;refine jG (λw' hw=>(hb6.ext x4).ext hw) bH aG rfl ?_;refine aD.ok (λw' _=>eM) ?_;rw [aM (by omega)];refine aD.ok (λw' _=>eM) ?_;rw [aM (by omega)];refine aD.ok (λw' _=>eM) ?_;rw [aM (by omega)];refine oF (by omega) ⟨D4,?_⟩;refine oF (by omega) ⟨D4,?_⟩;refine oF (by omega) ⟨D4,?_⟩;refine nB qE [(0,i64 11),(1,i64 (10+((h:Int) - 2))),(2,i64 (10+((h:Int) - 2))),(3,i64 (10+((h:Int) - 1)))] rfl rfl (qA pG ?_);exact hk _ _ (jE rfl rfl) ((xx.trans x4).trans D4)
 ·simp only [aR,Int.reduceEq]
  intros
  refine iF hb6 iG rfl ?_;refine gQ (x:=⟨12,a,b⟩) (show _<=h from Nat.zero_le _) (by omega) λv w4 hv x4=>?_;have hv:v=Value.nilIface:=hv;subst hv;refine V.ok (iA underlying43) (aP.2 ?_);have D4:aE w4 w4.drew:=(aE.refl _).drew;refine aK.mk' (λw'=>aE w4 w') D4 ?_;refine jG (λw' hw=>(hb6.ext x4).ext hw) bH aG rfl ?_;refine aD.ok (λw' _=>eM) ?_;rw [aM (by omega)];refine aD.ok (λw' _=>eM) ?_;rw [aM (by omega)];refine aD.ok (λw' _=>eM) ?_;rw [aM (by omega)];refine oF (by omega) ⟨D4,?_⟩;refine oF (by omega) ⟨D4,?_⟩;refine oF (by omega) ⟨D4,?_⟩;refine nB qE [(0,i64 12),(1,i64 (10+((h:Int) - 2))),(2,i64 (10+((h:Int) - 2))),(3,i64 (10+((h:Int) - 1)))] rfl rfl (qA pG ?_);exact hk _ _ (jE rfl rfl) ((xx.trans x4).trans D4)
 ·simp only [aR,Int.reduceEq]
  intros
  refine iF hb6 iG rfl ?_;refine gQ (x:=⟨13,a,b⟩) (show _<=h from Nat.zero_le _) (by omega) λv w4 hv x4=>?_;have hv:v=Value.nilIface:=hv;subst hv;refine V.ok (iA underlying43) (aP.2 ?_);have D4:aE w4 w4.drew:=(aE.refl _).drew;refine aK.mk' (λw'=>aE w4 w') D4 ?_;refine jG (λw' hw=>(hb6.ext x4).ext hw) bH aG rfl ?_;refine aD.ok (λw' _=>eM) ?_;rw [aM (by omega)];refine aD.ok (λw' _=>eM) ?_;rw [aM (by omega)];refine aD.ok (λw' _=>eM) ?_;rw [aM (by omega)];refine oF (by omega) ⟨D4,?_⟩;refine oF (by omega) ⟨D4,?_⟩;refine oF (by omega) ⟨D4,?_⟩;refine nB qE [(0,i64 13),(1,i64 (10+((h:Int) - 2))),(2,i64 (10+((h:Int) - 2))),(3,i64 (10+((h:Int) - 1)))] rfl rfl (qA pG ?_);exact hk _ _ (jE rfl rfl) ((xx.trans x4).trans D4)
 ·simp only [aR,Int.reduceEq]
  intros
  refine iF hb6 iG rfl ?_;refine gQ (x:=⟨14,a,b⟩) (show _<=h from Nat.zero_le _) (by omega) λv w4 hv x4=>?_;have hv:v=Value.nilIface:=hv;subst hv;refine V.ok (iA underlying43) (aP.2 ?_);have D4:aE w4 w4.drew:=(aE.refl _).drew;refine aK.mk' (λw'=>aE w4 w') D4 ?_;refine jG (λw' hw=>(hb6.ext x4).ext hw) bH aG rfl ?_;refine aD.ok (λw' _=>eM) ?_;rw [aM (by omega)];refine aD.ok (λw' _=>eM) ?_;rw [aM (by omega)];refine aD.ok (λw' _=>eM) ?_;rw [aM (by omega)];refine oF (by omega) ⟨D4,?_⟩;refine oF (by omega) ⟨D4,?_⟩;refine oF (by omega) ⟨D4,?_⟩;refine nB qE [(0,i64 14),(1,i64 (10+((h:Int) - 2))),(2,i64 (10+((h:Int) - 2))),(3,i64 (10+((h:Int) - 1)))] rfl rfl (qA pG ?_);exact hk _ _ (jE rfl rfl) ((xx.trans x4).trans D4)
 ·simp only [aR,Int.reduceEq]
  intros
  refine aK.mk' (λw'=>aE w3 w') D1 ?_;refine jG (λw' hw=>hb6.ext hw) bH aG rfl ?_;refine aD.ok (λw' _=>eM) ?_;rw [aM (by omega)];refine aD.ok (λw' _=>eM) ?_;rw [aM (by omega)];refine oF (by omega) ⟨D1,?_⟩;refine oF (by omega) ⟨D1,?_⟩;refine nB UM [(0,i64 15),(1,i64 (10+((h:Int) - 1))),(2,i64 (10+((h:Int) - 1)))] rfl rfl (qA JH ?_);exact hk _ _ (jE rfl rfl) xd
 ·simp only [aR,Int.reduceEq]
  intros
  refine aK.mk' (λw'=>aE w3 w') D1 ?_;refine jG (λw' hw=>hb6.ext hw) bH aG rfl ?_;refine aD.ok (λw' _=>eM) ?_;rw [aM (by omega)];refine aD.ok (λw' _=>eM) ?_;rw [aM (by omega)];refine oF (by omega) ⟨D1,?_⟩;refine oF (by omega) ⟨D1,?_⟩;refine nB UM [(0,i64 16),(1,i64 (10+((h:Int) - 1))),(2,i64 (10+((h:Int) - 1)))] rfl rfl (qA JH ?_);exact hk _ _ (jE rfl rfl) xd
 ·simp only [aR,Int.reduceEq]
  intros
  refine iF hb6 iG rfl ?_;refine gQ (x:=⟨17,a,b⟩) (show _<=h from ha) (by omega) λv w4 hv x4=>?_;obtain ⟨sv,rfl,hsv⟩:=(hv:jT w3.heap.size w4 v _);refine V.ok (gS underlying43) (bJ.2 ?_);exact hk _ _ ⟨sv,rfl,aU hsv xx.size⟩ (xx.trans x4)
 ·simp only [aR,Int.reduceEq]
  intros
  refine iF hb6 iG rfl ?_;refine gQ (x:=⟨18,a,b⟩) (show _<=h from ha) (by omega) λv w4 hv x4=>?_;obtain ⟨sv,rfl,hsv⟩:=(hv:jT w3.heap.size w4 v _);refine V.ok (gS underlying43) (bJ.2 ?_);exact hk _ _ ⟨sv,rfl,aU hsv xx.size⟩ (xx.trans x4)
 ·simp only [aR,Int.reduceEq]
  intros
  refine iF hb6 iG rfl ?_;refine gQ (x:=⟨19,a,b⟩) (show _<=h from Nat.zero_le _) (by omega) λv w4 hv x4=>?_;have hv:v=Value.nilIface:=hv;subst hv;refine V.ok (iA underlying43) (aP.2 ?_);have D4:aE w4 w4.drew:=(aE.refl _).drew;refine aK.mk' (λw'=>aE w4 w') D4 ?_;refine jG (λw' hw=>(hb6.ext x4).ext hw) bH aG rfl ?_;refine aD.ok (λw' _=>eM) ?_;rw [aM (by omega)];refine aD.ok (λw' _=>eM) ?_;rw [aM (by omega)];refine aD.ok (λw' _=>eM) ?_;rw [aM (by omega)];refine oF (by omega) ⟨D4,?_⟩;refine oF (by omega) ⟨D4,?_⟩;refine oF (by omega) ⟨D4,?_⟩;refine nB qE [(0,i64 19),(1,i64 (10+((h:Int) - 2))),(2,i64 (10+((h:Int) - 2))),(3,i64 (10+((h:Int) - 1)))] rfl rfl (qA pG ?_);exact hk _ _ (jE rfl rfl) ((xx.trans x4).trans D4)
 ·simp only [aR,Int.reduceEq]
  intros
  refine iF hb6 iG rfl ?_;refine gQ (x:=⟨20,a,b⟩) (show _<=h from Nat.zero_le _) (by omega) λv w4 hv x4=>?_;have hv:v=Value.nilIface:=hv;subst hv;refine V.ok (iA underlying43) (aP.2 ?_);have D4:aE w4 w4.drew:=(aE.refl _).drew;refine aK.mk' (λw'=>aE w4 w') D4 ?_;refine jG (λw' hw=>(hb6.ext x4).ext hw) bH aG rfl ?_;refine aD.ok (λw' _=>eM) ?_;rw [aM (by omega)];refine aD.ok (λw' _=>eM) ?_;rw [aM (by omega)];refine aD.ok (λw' _=>eM) ?_;rw [aM (by omega)];refine oF (by omega) ⟨D4,?_⟩;refine oF (by omega) ⟨D4,?_⟩;refine oF (by omega) ⟨D4,?_⟩;refine nB qE [(0,i64 20),(1,i64 (10+((h:Int) - 2))),(2,i64 (10+((h:Int) - 2))),(3,i64 (10+((h:Int) - 1)))] rfl rfl (qA pG ?_);exact hk _ _ (jE rfl rfl) ((xx.trans x4).trans D4)
 ·simp only [aR,Int.reduceEq]
  intros
  refine iF hb6 iG rfl ?_;refine gQ (x:=⟨21,a,b⟩) (show _<=h from Nat.zero_le _) (by omega) λv w4 hv x4=>?_;have hv:v=Value.nilIface:=hv;subst hv;refine V.ok (iA underlying43) (aP.2 ?_);have D4:aE w4 w4.drew:=(aE.refl _).drew;refine aK.mk' (λw'=>aE w4 w') D4 ?_;refine jG (λw' hw=>(hb6.ext x4).ext hw) bH aG rfl ?_;refine aD.ok (λw' _=>eM) ?_;rw [aM (by omega)];refine aD.ok (λw' _=>eM) ?_;rw [aM (by omega)];refine aD.ok (λw' _=>eM) ?_;rw [aM (by omega)];refine oF (by omega) ⟨D4,?_⟩;refine oF (by omega) ⟨D4,?_⟩;refine oF (by omega) ⟨D4,?_⟩;refine nB qE [(0,i64 21),(1,i64 (10+((h:Int) - 2))),(2,i64 (10+((h:Int) - 2))),(3,i64 (10+((h:Int) - 1)))] rfl rfl (qA pG ?_);exact hk _ _ (jE rfl rfl) ((xx.trans x4).trans D4)
 ·simp only [aR,Int.reduceEq]
  intros
  refine eY.2 ?_;rw [aM (by omega)];refine oF (by omega) ?_;refine eY.2 ?_;rw [aM (by omega)];refine oF (by omega) ?_;refine eY.2 ?_;rw [aM (by omega)];refine oF (by omega) ?_;refine eY.2 ?_;rw [aM (by omega)];refine oF (by omega) ?_;refine oD bEg [(0,i64 (10+((h:Int) - 3))),(1,i64 (10+((h:Int) - 3))),(2,i64 (10+((h:Int) - 2))),(3,i64 (10+((h:Int) - 1)))] rfl rfl (TB aGn ?_);exact hk _ _ (jE rfl rfl) xx
 ·simp only [aR,Int.reduceEq]
  intros
  refine bC hb6 bD aG rfl ?_;refine oD bEf [(0,i64 a)] rfl rfl (TB aGm ?_);exact hk _ _ (jE rfl rfl) xx
 ·simp only [aR,Int.reduceEq]
  intros
  refine aK.mk' (λw'=>aE w3 w') D1 ?_;refine aD.ok (λw' _=>eM) ?_;rw [aM (by omega)];refine jG (λw' hw=>hb6.ext hw) bD aG rfl ?_;refine oF (by omega) ⟨D1,?_⟩;refine nB bEe [(0,i64 (10+((h:Int) - 1))),(1,i64 a)] rfl rfl (qA TC ?_);exact hk _ _ (jE rfl rfl) xd
 ·simp only [aR,Int.reduceEq]
  intros
  refine oF (by omega) ?_;refine oD XQ [(0,i64 (10+(h:Int)))] rfl rfl (TB WH ?_);exact hk _ _ (jE rfl rfl) xx
 ·simp only [aR,Int.reduceEq]
  intros
  refine aK.mk' (λw'=>aE w3 w') D1 ?_;refine jG (λw' hw=>hb6.ext hw) bH aG rfl ?_;refine aD.ok (λw' _=>eM) ?_;rw [aM (by omega)];refine aD.ok (λw' _=>eM) ?_;rw [aM (by omega)];refine oF (by omega) ⟨D1,?_⟩;refine oF (by omega) ⟨D1,?_⟩;refine nB UM [(0,i64 26),(1,i64 (10+((h:Int) - 1))),(2,i64 (10+((h:Int) - 1)))] rfl rfl (qA JH ?_);exact hk _ _ (jE rfl rfl) xd
 ·simp only [aR,Int.reduceEq]
  intros
  refine iF hb6 iG rfl ?_;refine gQ (x:=⟨27,a,b⟩) (show _<=h from ha) (by omega) λv w4 hv x4=>?_;obtain ⟨sv,rfl,hsv⟩:=(hv:jT w3.heap.size w4 v _);refine V.ok (gS underlying43) (bJ.2 ?_);exact hk _ _ ⟨sv,rfl,aU hsv xx.size⟩ (xx.trans x4)
 ·simp only [aR,Int.reduceEq]
  intros
  refine iF hb6 iG rfl ?_;refine gQ (x:=⟨28,a,b⟩) (show _<=h from ha) (by omega) λv w4 hv x4=>?_;obtain ⟨sv,rfl,hsv⟩:=(hv:jT w3.heap.size w4 v _);refine V.ok (gS underlying43) (bJ.2 ?_);exact hk _ _ ⟨sv,rfl,aU hsv xx.size⟩ (xx.trans x4)
 ·simp only [aR,Int.reduceEq]
  intros
  refine iF hb6 iG rfl ?_;refine gQ (x:=⟨29,a,b⟩) (show _<=h from ha) (by omega) λv w4 hv x4=>?_;obtain ⟨sv,rfl,hsv⟩:=(hv:jT w3.heap.size w4 v _);refine V.ok (gS underlying43) (bJ.2 ?_);exact hk _ _ ⟨sv,rfl,aU hsv xx.size⟩ (xx.trans x4)
 ·simp only [aR,Int.reduceEq]
  intros
  refine iF hb6 iG rfl ?_;refine gQ (x:=⟨30,a,b⟩) (show _<=h from ha) (by omega) λv w4 hv x4=>?_;obtain ⟨sv,rfl,hsv⟩:=(hv:jT w3.heap.size w4 v _);refine V.ok (gS underlying43) (bJ.2 ?_);exact hk _ _ ⟨sv,rfl,aU hsv xx.size⟩ (xx.trans x4)
 ·simp only [aR,Int.reduceEq]
  intros
  refine iF hb6 iG rfl ?_;refine gQ (x:=⟨31,a,b⟩) (show _<=h from ha) (by omega) λv w4 hv x4=>?_;obtain ⟨sv,rfl,hsv⟩:=(hv:jT w3.heap.size w4 v _);refine V.ok (gS underlying43) (bJ.2 ?_);exact hk _ _ ⟨sv,rfl,aU hsv xx.size⟩ (xx.trans x4)
 ·simp only [aR,Int.reduceEq]
  intros
  refine iF hb6 iG rfl ?_;refine gQ (x:=⟨32,a,b⟩) (show _<=h from ha) (by omega) λv w4 hv x4=>?_;obtain ⟨sv,rfl,hsv⟩:=(hv:jT w3.heap.size w4 v _);refine V.ok (gS underlying43) (bJ.2 ?_);exact hk _ _ ⟨sv,rfl,aU hsv xx.size⟩ (xx.trans x4)
 ·simp only [aR,Int.reduceEq]
  intros
  refine aK.mk' (λw'=>aE w3 w') D1 ?_;refine jG (λw' hw=>hb6.ext hw) bD aG rfl ?_;refine oF (by omega) ⟨D1,?_⟩;refine nB bEd [(0,i64 (10+(h:Int))),(1,i64 a)] rfl rfl (qA bCg ?_);exact hk _ _ (jE rfl rfl) xd
 ·simp only [aR,Int.reduceEq]
  intros
  refine aK.mk' (λw'=>aE w3 w') D1 ?_;refine jG (λw' hw=>hb6.ext hw) bD aG rfl ?_;refine aD.ok (λw' _=>eM) ?_;rw [aM (by omega)];refine oF (by omega) ⟨D1,?_⟩;refine nB bEc [(0,i64 a),(1,i64 (10+((h:Int) - 1)))] rfl rfl (qA aGl ?_);exact hk _ _ (jE rfl rfl) xd
 ·simp only [aR,Int.reduceEq]
  intros
  refine aK.mk' (λw'=>aE w3 w') D1 ?_;refine jG (λw' hw=>hb6.ext hw) bD aG rfl ?_;refine aD.ok (λw' _=>kM underlying3 underlying21) ?_;refine oF (by omega) ⟨D1,?_⟩;refine nB XQ [(0,i64 (10+(h:Int))),(1,i32 (IntKind.i32.wrap a))] rfl rfl (qA WH ?_);exact hk _ _ (jE rfl rfl) xd
 ·simp only [aR,Int.reduceEq]
  intros
  refine iF hb6 iG rfl ?_;refine gQ (x:=⟨36,a,b⟩) (show _<=h from ha) (by omega) λv w4 hv x4=>?_;obtain ⟨sv,rfl,hsv⟩:=(hv:jT w3.heap.size w4 v _);refine V.ok (gS underlying43) (bJ.2 ?_);exact hk _ _ ⟨sv,rfl,aU hsv xx.size⟩ (xx.trans x4)
 ·simp only [aR,Int.reduceEq]
  intros
  have a1:0<=a:=a1;have hn:a < (i.methods.length:Int):=hn;have ha:(i.meth a).params.length<=h:=ha;refine bC hb4 bP dE rfl (bC hb6 bD aG rfl ?_);obtain ⟨ka,rfl⟩:∃ ka:Nat,a=ka:=⟨a.toNat,by omega⟩;have hmi:=fY a1 hn;rw [Int.toNat_natCast] at hmi;refine ldS gO oK hA.mt hmi qL λrow hrow=>?_;obtain ⟨pv9,lv9,cv9,rfl,hp9,_,_⟩:=hrow;obtain ⟨a7,c7,rfl⟩:=hp9.shape
  rename_i hl9 hc9
  obtain ⟨a8,c8,rfl⟩:=hl9.shape;obtain ⟨a9,c9,rfl⟩:=aA.shape hc9;refine wV GK rfl rfl λb9 w9 hb9 x9=>?_;have hb9:aY w9 b9 [.slice a7 (i.meth (ka:Int)).params.length c7,i64 (i.meth (ka:Int)).result,.slice a8 (i.meth (ka:Int)).locals.length c8,.slice a9 (i.meth (ka:Int)).code.length c9]:=hb9;have D9:aE w9 w9.drew:=(aE.refl _).drew;have xd9:=(xx.trans x9).trans D9;have hp9:=(hp9.ext x9).ext D9;refine aK.mk' (λw'=>aE w9 w') D9 ?_;refine jG (λw' hw=>(hb6.ext x9).ext hw) bD aG rfl ?_;refine jG (λw' hw=>hb9.ext hw) fW aG rfl ?_;refine jG (λw' hw=>hb9.ext hw) dM bF rfl (sS aQ hp9 ?_);refine aD.ok (λw' _=>eM) ?_;rw [aM (by omega)];refine jG (λw' hw=>hb9.ext hw) dM bF rfl (sS aQ hp9 ?_);refine CY (by omega) ⟨D9,?_⟩;refine aEx ha (by omega) λv w10 ho10 x10=>⟨D9.trans x10,?_⟩;refine nB bEa [(0,i64 (ka:Nat)),(1,i64 _),(2,v)] rfl (by simp [jB ho10,AJ]) (qA bCe ?_);exact hk _ _ ⟨v,rfl,aU ho10 xd9.size⟩ (xd9.trans x10)
 ·simp only [aR,Int.reduceEq]
  intros
  have a1:0<=a:=a1;have hn:a < (i.imports.length:Int):=hn;have ha:(i.imp a).params.length<=h:=ha;refine bC hb4 fH iN rfl (bC hb6 bD aG rfl ?_);obtain ⟨ka,rfl⟩:∃ ka:Nat,a=ka:=⟨a.toNat,by omega⟩;have hmi:=tE a1 hn;rw [Int.toNat_natCast] at hmi;refine ldS nQ JP hA.im hmi BR λrow hrow=>?_;obtain ⟨pv9,rfl,hp9⟩:=hrow;obtain ⟨a7,c7,rfl⟩:=hp9.shape;refine wV aEs rfl rfl λb9 w9 hb9 x9=>?_;have hb9:aY w9 b9 [.string (i.imp (ka:Int)).name,i64 (i.imp (ka:Int)).exp,.slice a7 (i.imp (ka:Int)).params.length c7,i64 (i.imp (ka:Int)).result]:=hb9;have D9:aE w9 w9.drew:=(aE.refl _).drew;have xd9:=(xx.trans x9).trans D9;have hp9:=(hp9.ext x9).ext D9;refine aK.mk' (λw'=>aE w9 w') D9 ?_;refine jG (λw' hw=>(hb6.ext x9).ext hw) bD aG rfl ?_;refine jG (λw' hw=>hb9.ext hw) cD aG rfl ?_;refine jG (λw' hw=>hb9.ext hw) bX bF rfl (sS aQ hp9 ?_);refine aD.ok (λw' _=>eM) ?_;rw [aM (by omega)];refine jG (λw' hw=>hb9.ext hw) bX bF rfl (sS aQ hp9 ?_);refine CY (by omega) ⟨D9,?_⟩;refine aEx ha (by omega) λv w10 ho10 x10=>⟨D9.trans x10,?_⟩;refine nB bDz [(0,i64 (ka:Nat)),(1,i64 _),(2,v)] rfl (by simp [jB ho10,AJ]) (qA bCd ?_);exact hk _ _ ⟨v,rfl,aU ho10 xd9.size⟩ (xd9.trans x10)
 ·simp only [aR,Int.reduceEq]
  intros
  refine bC hb5 fW aG rfl ?_;refine eY.2 ?_;rw [aM (by omega)];refine CY (by omega) ?_;refine oD bDy [(0,i64 _)] rfl rfl (TB bCc ?_);exact hk _ _ (jE rfl rfl) xx
def yQ (st:List Int):aJ->aJ
 | .goto t=>.goto (cI st t.toNat)
 | .branch c t=>.branch c (cI st t.toNat)
 | n=>n
def XX (st:List Int):aJ->Prop
 | .goto t=>0<=t/\t < st.length
 | .branch _ t=>0<=t/\t < st.length
 | _=>True
theorem aRr {av sv:Y} {st:List Int} (hs:aN w sv st) (hb:XX st n) (hk:∀ w',aE w w'->K ((yQ st n).val av) w'):aC prog 27 #[n.val av,sv] w K:=by
 apply bHg;unfold yU
 have other:∀ {t:Nat} {c:Array Y},t≠115->t≠117->n.val av=.iface t (.agg c)->yQ st n=n->yU (n.val av) sv w K:=λh1 h2 he h3=>by
  unfold yU;rw [he];refine tm gP h1 λ_ _ _=>?_;refine tm gX h2 λ_ _ _=>?_;rw [h3,he] at hk;exact hk _ (aE.refl _)
 unfold yU at other;cases n with
 | goto t=>
  obtain ⟨h0,h1⟩:=hb;refine th gP ?_;refine rX uB rfl rfl λw1 hB x1=>?_;have hB:bO w1 w.heap.size [i64 t] 115:=hB;refine bC (bO.boxed hB) bV aG rfl ?_;obtain ⟨t,rfl⟩:∃ q:Nat,t=q:=⟨t.toNat,by omega⟩;refine lV aQ aG (hs.ext x1) (by omega) (by omega) (cK (lL (by omega))) ?_;refine FS bV bW hB (n:=1) rfl (by decide) rfl ?_;have hB2:=hB.set 0 (i64 (cI st t));have x2:aE w (w1.setCell ⟨w.heap.size,0,none⟩ (i64 (cI st t))):=x1.setCell (Nat.le_refl _) _;generalize w1.setCell ⟨w.heap.size,0,none⟩ (i64 (cI st t))=w2 at hB2 x2;refine iF (bO.boxed hB2) bCl rfl (TB aGm ?_);exact hk _ x2
 | branch c t=>
  obtain ⟨h0,h1⟩:=hb;refine tm gP (by decide) λ_ _ _=>?_;refine th gX ?_;refine rX uA rfl rfl λw1 hB x1=>?_;have hB:bO w1 w.heap.size [i64 c,i64 t] 117:=hB;refine bC (bO.boxed hB) bU aG rfl ?_;obtain ⟨t,rfl⟩:∃ q:Nat,t=q:=⟨t.toNat,by omega⟩;refine lV aQ aG (hs.ext x1) (by omega) (by omega) (cK (lL (by omega))) ?_;refine FS bU bW hB (n:=2) rfl (by decide) rfl ?_;have hB2:=hB.set 1 (i64 (cI st t));have x2:aE w (w1.setCell ⟨w.heap.size,1,none⟩ (i64 (cI st t))):=x1.setCell (Nat.le_refl _) _;generalize w1.setCell ⟨w.heap.size,1,none⟩ (i64 (cI st t))=w2 at hB2 x2;refine iF (bO.boxed hB2) aHc rfl (TB TC ?_);exact hk _ x2
 | _=>exact other (by decide) (by decide) rfl rfl
end Go.Proofs.YtjcmcfidblhnnaaGreatDoor
namespace Go.Tc
def cf (r:List Bool):Nat:=r.countP (· == false)
theorem bDr {r:List Bool} {k:Nat} (hk:k < r.length) (h:r.getD k false=false):cf (r.set k true)+1=cf r:=by
 have e:r[k]=false:=by
  rw [List.getD_eq_getElem?_getD,List.getElem?_eq_getElem hk] at h;exact h
 have h1:0 < r.countP (· == false):=List.countP_pos_iff.2 ⟨r[k],List.getElem_mem hk,by rw [e];rfl⟩
 have h2:(r.set k true).countP (· == false)=r.countP (· == false) - 1+0:=by
  rw [List.countP_set hk,e];rfl
 unfold cf;omega
def aFv (x:kJ) (pc:Nat):List Int:=(if x.op=23\/x.op=24 then [x.a] else [])++(if x.op≠23/\x.op≠39 then [(pc:Int)+1] else [])
theorem aFu {x:kJ} {pc:Nat} {t:Int}:t∈aFv x pc↔t∈fO x pc:=by
 unfold aFv fO;by_cases c1:x.op=23
 ·simp [c1]
 by_cases c2:x.op=24
 ·simp [c2];exact Or.comm
 by_cases c3:x.op=39
 ·simp [c3]
 ·simp [c1,c2,c3]
end Go.Tc
namespace Go.Proofs.YtjcmcfidblhnnaaGreatDoor
open Tryz
open Go.Vc Go.Tc
variable {w:O} {K:Y->O->Prop}
variable {i:iK} {m:jN} {np:Int} {nv tv:Y} {x:kJ} {α:Type}
structure KT (i:iK) (m:jN) (st:St) (l:List Int) (r:List Bool):Prop where
 rl:r.length=m.code.length
 ls:∀ t∈l,0<=t/\t < m.code.length/\st.h t.toNat=true
 rs:∀ k,r.getD k false=true->st.h k=true
 z:r.getD 0 false=true\/(0:Int)∈l
 cl:∀ k,r.getD k false=true->∀ to∈fO (m.ins k) k,r.getD to.toNat false=true\/to∈l
 bd:3*cf r+l.length<=3*m.code.length+1
structure Rm (gr:Nat) (w3 w:O) (v:Y) (l:List Int) (r:List Bool):Prop where
 own:w.ownsRow (gr+1) 3 1 v l.length (l.map i64)
 sh:∃ a c,v=.slice (some ⟨a,0,none⟩) l.length c
 blk:bO w gr (r.map .bool) 4
 fr:Fr (λk=>gr<=k) w3 w
theorem Rm.ext {gr:Nat} {w3 w':O} {v:Y} {l:List Int} {r:List Bool} (h:Rm gr w3 w v l r) (hx:aE w w'):Rm gr w3 w' v l r:=⟨hx.own h.own,h.sh,h.blk.ext hx,h.fr.trans (Fr.of_ext hx) λ_ _ h=>h⟩
theorem Rm.push {gr:Nat} {w3:O} {v:Y} {l:List Int} {r:List Bool} {t:Int} (h:Rm gr w3 w v l r) (hl:l.length<=100000) (hk:∀ v' w',Rm gr w3 w' v' (l++[t]) r->Fr (λk=>v.ownBlock=some k) w w'->K v' w') :
  V prog (Instr.buildSlice 23 1 #[(0,i64 t)]) w λu w1=>V prog (Builtin.append_ #[23,23] 23 #[v,u]) w1 K:=by
 refine jX bB [i64 t] rfl rfl (by simp) rfl λu w1 ho1 x1=>?_;have h1:=h.ext x1;have hB:=h1.blk.lt;refine UQ bB h1.own (aA.of_own ho1) rfl (by omega) (by unfold maxLen;omega) (by omega) λv2 w2 ho2 hg2=>?_;have hlo:∀ k,v.ownBlock=some k->gr+1<=k:=λk hk=>(h.own.lt k hk).1;have f2:Fr (λk=>v.ownBlock=some k) w1 w2:=Fr.of_grown hg2 λk hk=>hk;have ho2:w2.ownsRow (gr+1) 3 1 v2 (l++[t]).length ((l++[t]).map i64):=by simpa using ho2
 refine hk v2 w2 ⟨ho2,?_,f2.blk h1.blk λhk=>by have:=hlo _ hk;omega,h1.fr.trans (f2.mono λk hk=>by have:=hlo k hk;omega) λ_ _ h=>h⟩ ((Fr.of_ext x1).trans f2 λ_ _ h=>h);rcases ho2.2 with ⟨_,e⟩|⟨g,cap,_,rfl,_⟩
 ·simp at e
 ·exact ⟨_,_,rfl⟩
theorem aBu {row:List Y} {st:St} (hrow:lH w row m) (hn1:1<=m.code.length) (hn2:m.code.length<=120) (h0:st.h 0=true) (hled:∀ k,st.h k=true->Led i m st k) (_:WF m st)
  (hk:∀ g r w',bO w' g (r.map .bool) 4->w.heap.size<=g->KT i m st [] r->aE w w'->K (.slice (some ⟨g,0,none⟩) m.code.length m.code.length) w'):aC prog 25 #[.agg row.toArray] w K:=by
 obtain ⟨pv,lv,cv,rfl,hp,hl,hc⟩:=hrow;apply bHi;unfold aAm;refine bx λb1 w1 hb1 x1=>?_;have hb1:aY w1 b1 [pv,i64 m.result,lv,cv]:=hb1;refine bC hb1 cG iM rfl (fQ jY (hc.ext x1) ?_);refine mkB underlying95 kS rfl (by omega) (by omega) λw2 hB2 x2 z2=>?_;have hgr:w.heap.size<=w1.heap.size:=x1.size;generalize hgr1:w1.heap.size=gr at hB2 z2 hgr;refine jX bB [i64 0] rfl rfl (by simp) rfl λv3 w3 ho3 x3=>?_;have x13:=x2.trans x3;have hb3:=hb1.ext x13;have hc3:=hc.ext (x1.trans x13);have x03:=x1.trans x13;have hB3:=hB2.ext x3;have cf0:cf (List.replicate m.code.length false)=m.code.length:=by simp [cf,List.countP_replicate]
 have gd0:∀ k,(List.replicate m.code.length false).getD k false=false:=λk=>by
  simp only [List.getD_eq_getElem?_getD,List.getElem?_replicate];split<;>rfl
 have ini:Rm gr w3 w3 v3 [0] (List.replicate m.code.length false)/\KT i m st [0] (List.replicate m.code.length false):=by
  refine ⟨⟨aU ho3 (by omega),?_,by simpa using hB3,Fr.refl _ _⟩,by simp,λt ht=>?_,λk hk=>?_,.inr (by simp),λk hk=>?_,by rw [cf0];simp⟩
  ·rcases ho3.2 with ⟨_,e⟩|⟨g,cap,_,rfl,_⟩
   ·cases e
   ·exact ⟨_,_,rfl⟩
  ·rw [List.mem_singleton] at ht;subst ht;exact ⟨by omega,by omega,h0⟩
  iterate 2
   ·rw [gd0] at hk;cases hk
 refine ⟨λt w'=>∃ l r,Rm gr w3 w' t l r/\KT i m st l r,λt w'=>mu λq=>∃ l r,(Rm gr w3 w' t l r/\KT i m st l r)/\3*cf r+l.length=q,⟨_,_,ini⟩,?_⟩;rintro t w4 ⟨l0,r0,hh0⟩ _;obtain ⟨l,r,⟨M,R⟩,hmu⟩:=xT (p:=λq=>∃ l r,(Rm gr w3 w4 t l r/\KT i m st l r)/\3*cf r+l.length=q) ⟨_,l0,r0,hh0,rfl⟩;clear hh0 l0 r0;obtain ⟨ga,cap,rfl⟩:=M.sh;have ho:=M.own;have hbd:=R.bd;have hrl:=R.rl
 have step:∀ {t':Y} {w':O} {l':List Int} {r':List Bool},Rm gr w3 w' t' l' r'->KT i m st l' r'->3*cf r'+l'.length < 3*cf r+l.length->(∃ l r,Rm gr w3 w' t' l r/\KT i m st l r)/\mu (λq=>∃ l r,(Rm gr w3 w' t' l r/\KT i m st l r)/\3*cf r+l.length=q) < mu (λq=>∃ l' r,(Rm gr w3 w4 (.slice (some ⟨ga,0,none⟩) l.length cap) l' r/\KT i m st l' r)/\3*cf r+l'.length=q):=λh1 h2 h3=>⟨⟨_,_,h1,h2⟩,by
  rw [<- hmu];exact Nat.lt_of_le_of_lt (LW ⟨_,_,⟨h1,h2⟩,rfl⟩) h3⟩
 refine fQ aQ (aA.of_own ho) (iH.2 (aB (λhgt=>?_) λhle=>?_))
 case refine_2=>
  have:l=[]:=List.eq_nil_of_length_eq_zero (by omega);subst this;exact hk gr r w4 M.blk hgr R (M.fr.ext x03 λk hk=>by omega)
 refine fQ aQ (aA.of_own ho) (eY.2 ?_);rw [aM (by omega),show (l.length:Int) - 1=((l.length - 1:Nat):Int) by omega];have hlm:=lL (l:=l) (j:=l.length - 1) (by omega);refine JN aQ aG ho (by omega) (by omega) (cK hlm) ?_;obtain ⟨t0,t1,t2⟩:=R.ls _ (List.mem_of_getElem? hlm)
 have hsplit:l=l.take (l.length - 1)++[cI l (l.length - 1)]:=by
  have:=List.take_add_one (l:=l) (i:=l.length - 1);rw [hlm] at this;simp only [Option.toList_some] at this;rw [<- this,List.take_of_length_le (by omega)]
 obtain ⟨pc,hpc⟩:∃ pc:Nat,cI l (l.length - 1)=pc:=⟨(cI l (l.length - 1)).toNat,by omega⟩;rw [hpc] at t0 t1 t2 hsplit ⊢;rw [Int.toNat_natCast] at t2;have hlen2:(l.take (l.length - 1)).length=l.length - 1:=by simp
 refine fQ aQ (aA.of_own ho) (eY.2 ?_);rw [aM (by omega),show (l.length:Int) - 1=((l.length - 1:Nat):Int) by omega];refine slO underlying23 bW (by decide) ho (by omega) (by omega) λho2=>?_;rw [Nat.mul_one,<- List.map_take] at ho2;generalize hl2:l.take (l.length - 1)=l2 at *;have M2:Rm gr w3 w4 (.slice (some ⟨ga,0,none⟩) (l.length - 1) cap) l2 r:=⟨by rw [hlen2];exact ho2,⟨ga,cap,by rw [hlen2]⟩,M.blk,M.fr⟩
 have hin:∀ t,t∈l->t∈l2\/t=pc:=λt ht=>by
  rw [hsplit] at ht;rcases List.mem_append.1 ht with h|h
  ·exact .inl h
  ·rw [List.mem_singleton] at h;exact .inr h
 have hin2:∀ t,t∈l2->t∈l:=λt ht=>by rw [hsplit];exact List.mem_append_left _ ht
 have hsl:aA w4 (.slice (some ⟨gr,0,none⟩) m.code.length m.code.length) 1 m.code.length (r.map .bool):=M.blk.slice (by simpa using hrl) (by unfold maxLen;omega);refine lV hY oM hsl (by omega) (by omega) (HO (by omega)) ?_;cases hr:r.getD pc false with
 | true=>
  refine bJ.2 (step M2 ⟨hrl,λt ht=>R.ls t (hin2 t ht),R.rs,?_,λk hk to hto=>?_,by omega⟩ (by omega))
  ·rcases R.z with h|h
   ·exact .inl h
   ·rcases hin _ h with h|h
    ·exact .inr h
    ·left;have:pc=0:=by omega
     rw [<- this];exact hr
  ·rcases R.cl k hk to hto with h|h
   ·exact .inl h
   ·rcases hin _ h with h|h
    ·exact .inr h
    ·left;subst h;rw [Int.toNat_natCast];exact hr
 | false=>
 refine aP.2 ?_;refine VI hY kS M2.blk (n:=m.code.length) (by simpa using hrl) (by omega) (by omega) rfl ?_;rw [Int.toNat_natCast]
 have M3:Rm gr w3 (w4.setCell ⟨gr,pc,none⟩ (.bool true)) (.slice (some ⟨ga,0,none⟩) (l.length - 1) cap) l2 (r.set pc true):=by
  refine ⟨(Fr.of_set (S:=λk=>k=gr) rfl).own M2.own λk hk he=>by have:=(M2.own.lt k hk).1;omega,M2.sh,?_,M2.fr.set (Nat.le_refl _)⟩;have:=M2.blk.set pc (.bool true)
  rwa [<- List.map_set] at this
 generalize w4.setCell ⟨gr,pc,none⟩ (.bool true)=w5 at M3;have x15:aE w1 w5:=M3.fr.ext x13 λk hk=>by omega
 have x05:=x1.trans x15;refine bC (hb1.ext x15) cG iM rfl ?_;have hxi:=sN (m:=m) (k:=pc) (by omega);refine ldI (hc.ext x05) hxi ?_;refine rX VM rfl rfl λw6 hB6 x6=>?_;have hB6:bO w6 w5.heap.size [i64 (m.ins pc).op,i64 (m.ins pc).a,i64 (m.ins pc).b] 88:=hB6;have hga5:=(M3.own.lt ga rfl).2;have hb6:=bO.boxed hB6;have M6:=M3.ext x6;have hcf:=bDr (r:=r) (k:=pc) (by omega) hr
 have fin:∀ {v:Y} {w':O} {l3:List Int},Rm gr w3 w' v (l2++l3) (r.set pc true)->(∀ t,t∈l3↔t∈fO (m.ins pc) pc)->l3.length<=2->Rm gr w3 w' v (l2++l3) (r.set pc true)/\KT i m st (l2++l3) (r.set pc true)/\3*cf (r.set pc true)+(l2++l3).length < 3*cf r+l.length:=by
  intro v w' l3 hM hl3 hle;obtain ⟨out,_,hout⟩:=hled pc t2;have hlen:(l2++l3).length=l2.length+l3.length:=List.length_append
  have hgs:∀ k,(r.set pc true).getD k false=true↔k=pc\/r.getD k false=true:=λk=>by
   rw [lZ];by_cases hkp:k=pc
   ·rw [if_pos ⟨hkp,by omega⟩];simp [hkp]
   ·rw [if_neg λh=>hkp h.1];simp [hkp]
  refine ⟨hM,⟨by simpa using hrl,λt ht=>?_,λk hk=>?_,?_,λk hk to hto=>?_,by omega⟩,by omega⟩
  ·rcases List.mem_append.1 ht with h|h
   ·exact R.ls t (hin2 t h)
   ·obtain ⟨q1,q2,q3,_⟩:=hout t ((hl3 t).1 h);exact ⟨q1,q2,q3⟩
  ·rcases (hgs k).1 hk with h|h
   ·rw [h];exact t2
   ·exact R.rs k h
  ·rcases R.z with h|h
   ·exact .inl ((hgs 0).2 (.inr h))
   ·rcases hin _ h with h|h
    ·exact .inr (List.mem_append_left _ h)
    ·exact .inl ((hgs 0).2 (.inl (by omega)))
  ·rcases (hgs k).1 hk with h|h
   ·subst h;exact .inr (List.mem_append_right _ ((hl3 to).2 hto))
   ·rcases R.cl k h to hto with h|h
    ·exact .inl ((hgs _).2 (.inr h))
    ·rcases hin _ h with h|h
     ·exact .inr (List.mem_append_left _ h)
     ·exact .inl ((hgs _).2 (.inl (by omega)))
 have hpm:=λt=>aFu (x:=m.ins pc) (pc:=pc) (t:=t);unfold aFv at hpm;obtain ⟨A,hA⟩:∃ A,A=(if (m.ins pc).op=23\/(m.ins pc).op=24 then [(m.ins pc).a] else []):=⟨_,rfl⟩;obtain ⟨C,hC⟩:∃ C,C=(if (m.ins pc).op≠23/\(m.ins pc).op≠39 then [(pc:Int)+1] else []):=⟨_,rfl⟩;rw [<- hA,<- hC] at hpm;have hAl:A.length<=1:=by rw [hA];split<;>simp
 have hCl:C.length<=1:=by rw [hC];split<;>simp
 have fin2:∀ {v:Y} {w':O},Rm gr w3 w' v (l2++A++C) (r.set pc true)->(∃ l r,Rm gr w3 w' v l r/\KT i m st l r)/\mu (λq=>∃ l r,(Rm gr w3 w' v l r/\KT i m st l r)/\3*cf r+l.length=q) < mu (λq=>∃ l' r,(Rm gr w3 w4 (.slice (some ⟨ga,0,none⟩) l.length cap) l' r/\KT i m st l' r)/\3*cf r+l'.length=q):=λhM=>by
  rw [List.append_assoc] at hM;obtain ⟨f1,f2,f3⟩:=fin hM hpm (by rw [List.length_append];omega);exact step f1 f2 f3
 clear fin hpm;refine ⟨λv w'=>Rm gr w3 w' v (l2++A) (r.set pc true)/\aY w' w5.heap.size [i64 (m.ins pc).op,i64 (m.ins pc).a,i64 (m.ins pc).b],?_,?_⟩
 ·have psh:(m.ins pc).op=23\/(m.ins pc).op=24->V prog (Instr.buildSlice 23 1 #[(0,i64 (m.ins pc).a)]) w6 λu w1=>V prog (Builtin.append_ #[23,23] 23 #[.slice (some ⟨ga,0,none⟩) (l.length - 1) cap,u]) w1 λv w'=>Rm gr w3 w' v (l2++A) (r.set pc true)/\aY w' w5.heap.size [i64 (m.ins pc).op,i64 (m.ins pc).a,i64 (m.ins pc).b]:=λhop=>by
   refine M6.push (by omega) λv' w' hM hF=>⟨?_,bO.boxed (hF.blk hB6 λhk=>?_)⟩
   ·rw [hA,if_pos hop];exact hM
   ·have hk:some ga=some w5.heap.size:=hk;rw [Option.some.injEq] at hk;omega
  refine bC hb6 bH aG rfl (aH.2 ?_);by_cases c1:(m.ins pc).op=23
  ·simp only [c1,aR];rw [<- c1];exact bC hb6 bD aG rfl (psh (.inl c1))
  simp only [c1,aR];refine bC hb6 bH aG rfl (aH.2 ?_);by_cases c2:(m.ins pc).op=24
  ·simp only [c2,aR];rw [<- c2];exact bC hb6 bD aG rfl (psh (.inr c2))
  simp only [c2,aR];refine ⟨?_,hb6⟩;have hA0:A=[]:=by rw [hA,if_neg (by simp [c1,c2])]
  rw [hA0,List.append_nil];exact M6
 rintro v7 w7 ⟨M7,hb7⟩ _;refine bC hb7 bH aG rfl (cH.2 ?_);have hl2a:(l2++A).length<=100000:=by rw [List.length_append];omega
 by_cases c1:(m.ins pc).op=23
 ·simp only [c1,aR];refine fin2 ?_;have hC0:C=[]:=by rw [hC,if_neg (by simp [c1])]
  rw [hC0,List.append_nil];exact M7
 simp only [c1,aR];refine bC hb7 bH aG rfl (cH.2 ?_);by_cases c2:(m.ins pc).op=39
 ·simp only [c2,aR];refine fin2 ?_;have hC0:C=[]:=by rw [hC,if_neg (by simp [c2])]
  rw [hC0,List.append_nil];exact M7
 simp only [c2,aR];refine bA.2 ?_;rw [aM (by omega)];refine M7.push hl2a λv8 w8 M8 _=>fin2 ?_;have hC1:C=[(pc:Int)+1]:=by rw [hC,if_pos ⟨c1,c2⟩]
 rw [hC1];exact M8
def bG (i:iK) (m:jN) (st:St) (r:List Bool):Nat->List aJ × List Int
 | 0=>((List.range m.locals.length).map λ(j:Nat)=>aJ.const ((m.params.length:Int)+((j:Nat):Int)) 0,[])
 | k+1=>
  let p:=bG i m st r k
  if r.getD k false then (p.1++.tick::(jH i m (m.ins k) (st.s k).length).toList,p.2++[(p.1.length:Int)]) else (p.1,p.2++[-1])
def oI (i:iK) (m:jN) (st:St) (r:List Bool):List aJ:=let p:=bG i m st r m.code.length;p.1.map (yQ p.2)
def UV (g:Nat) (nv tv:Y) (w:O) (u:Y) (n:aJ):Prop:=∃ sv,u=n.val sv/\w.ownsRow (g+1) 3 1 sv n.args.length (n.args.map i64)/\∀ q,sv.ownBlock=some q->nv.ownBlock≠some q/\tv.ownBlock≠some q
structure Lp (g:Nat) (np:Int) (nv tv:Y) (w:O) (N:List aJ) (T:List Int):Prop where
 blk:bO w g [i64 np,i64 18,nv] 33
 row:∃ xs:List Y,w.ownsRow (g+1) 43 1 nv N.length xs/\∀ (k:Nat) n,N[k]?=some n->∃ u,xs[k]?=some u/\UV g nv tv w u n
 st:w.ownsRow (g+1) 3 1 tv T.length (T.map i64)
 ne:∀ q,nv.ownBlock=some q->tv.ownBlock≠some q
theorem Lp.ext {g:Nat} {np:Int} {nv tv:Y} {w':O} {N:List aJ} {T:List Int} (h:Lp g np nv tv w N T) (hx:aE w w'):Lp g np nv tv w' N T:=by
 obtain ⟨h1,⟨xs,h2,h3⟩,h8,h9⟩:=h;refine ⟨h1.ext hx,⟨xs,hx.own h2,λk n hk=>?_⟩,hx.own h8,h9⟩;obtain ⟨u,h4,sv,h5,h6,h7⟩:=h3 k n hk;exact ⟨u,h4,sv,h5,hx.own h6,h7⟩
theorem IK (n:aJ) (sv:Y):bY (n.val sv)=true:=by cases n<;>rfl
theorem Lp.nodes {g:Nat} {N:List aJ} {T:List Int} (h:Lp g np nv tv w N T):rI w nv N:=by
 obtain ⟨_,⟨xs,h2,h3⟩,_,_⟩:=h;refine ⟨xs,aA.of_own h2,λk n hk=>?_⟩;obtain ⟨u,h4,sv,h5,h6,_⟩:=h3 k n hk;exact ⟨u,h4,sv,h5,aA.of_own h6⟩
theorem Lp.start {g:Nat} {N:List aJ} {T:List Int} {t:Int} (h:Lp g np nv tv w N T) (hT:T.length<=100000) (hk:∀ tv' w',Lp g np nv tv' w' N (T++[t])->Fr (λk=>tv.ownBlock=some k) w w'->(∀ q,tv'.ownBlock=some q->tv.ownBlock=some q\/w.heap.size<=q)->K tv' w') :
  V prog (Instr.buildSlice 23 1 #[(0,i64 t)]) w λu w1=>V prog (Builtin.append_ #[23,23] 23 #[tv,u]) w1 K:=by
 obtain ⟨hB,⟨xs,ho,hxs⟩,hst,hne⟩:=h;have hg:=hB.lt;refine jX bB [i64 t] rfl rfl (by simp) rfl λu w1 ho1 x1=>?_;have s1:=x1.size;refine apS bB (x1.own hst) (aA.of_own ho1) rfl (by omega) (by unfold maxLen;omega) (by omega) λtv' w2 ho2 hg2 hl2=>?_;have hlo:∀ k,tv.ownBlock=some k->g+1<=k:=λk hk=>(hst.lt k hk).1;have f2:Fr (λk=>tv.ownBlock=some k) w1 w2:=Fr.of_grown hg2 λk hk=>hk
 refine hk tv' w2 ⟨f2.blk (hB.ext x1) λhk=>by have:=hlo _ hk;omega,⟨xs,f2.own (x1.own ho) λk hk hS=>hne k hk hS,λk n hk=>?_⟩,by simpa using ho2,λq hq hq'=>?_⟩ ((Fr.of_ext x1).trans f2 λ_ _ h=>h) (λq hq=>by
   rcases hl2 with h2|h2
   ·rw [h2] at hq;exact .inl hq
   ·rw [h2] at hq;cases hq;exact .inr (by omega))
 ·obtain ⟨u,h4,sv,h5,h6,h7⟩:=hxs k n hk;refine ⟨u,h4,sv,h5,f2.own (x1.own h6) λq hq hS=>(h7 q hq).2 hS,λq hq=>⟨(h7 q hq).1,λhq'=>?_⟩⟩;rcases hl2 with h2|h2
  ·rw [h2] at hq';exact (h7 q hq).2 hq'
  ·rw [h2] at hq';cases hq';have:=(h6.lt _ hq).2;omega
 ·rcases hl2 with h2|h2
  ·rw [h2] at hq';exact hne q hq hq'
  ·rw [h2] at hq';cases hq';have:=(ho.lt _ hq).2;omega
theorem Lp.push {g:Nat} {u:Y} {N:List aJ} {T:List Int} {n:aJ} {K':O->Prop} (h:Lp g np nv tv w N T) (hu:UV g nv tv w u n) (hN:N.length<=100000) (hk:∀ nv' w',Lp g np nv' tv w' (N++[n]) T->Fr (λk=>k=g\/nv.ownBlock=some k) w w'->(∀ q,nv'.ownBlock=some q->nv.ownBlock=some q\/w.heap.size<=q)->K' w') :
  V prog (Instr.buildSlice 31 1 #[(0,u)]) w λt w1=>V prog (Builtin.append_ #[31,31] 31 #[nv,t]) w1 λt2 w2=>V prog (Instr.fieldAt 33 (.pointer (some ⟨g,0,none⟩)) 2) w2 λq w3=>U prog (Instr.storeAt 31 q t2) w3 λ_ w4=>K' w4:=by
 obtain ⟨sv,rfl,hso,hsn⟩:=hu;obtain ⟨hB,⟨xs,ho,hxs⟩,hst,hne⟩:=h;have hg:=hB.lt;refine jX aDz [n.val sv] rfl rfl (by simp) (by simp [IK]) λt w1 ho1 x1=>?_;have s1:=x1.size;refine apS aDz (x1.own ho) (aA.of_own ho1) (by simp [IK]) (by omega) (by unfold maxLen;omega) (by omega) λnv' w2 ho2 hg2 hl2=>?_;have hlo:∀ k,nv.ownBlock=some k->g+1<=k:=λk hk=>(ho.lt k hk).1;have f2:Fr (λk=>nv.ownBlock=some k) w1 w2:=Fr.of_grown hg2 λk hk=>hk;have hB2:=f2.blk (hB.ext x1) λhk=>by have:=hlo _ hk;omega
 refine FS eI WO hB2 (n:=3) rfl (by decide) (jB ho2) ?_;have f3:Fr (λk=>k=g) w2 (w2.setCell ⟨g,2,none⟩ nv'):=Fr.of_set rfl;have hB3:=hB2.set 2 nv';generalize w2.setCell ⟨g,2,none⟩ nv'=w3 at f3 hB3
 have fresh:∀ {q:Nat},q < w.heap.size->nv.ownBlock≠some q->nv'.ownBlock≠some q:=λhlt hb hq'=>by
  rcases hl2 with h2|h2
  ·rw [h2] at hq';exact hb hq'
  ·rw [h2] at hq';cases hq';omega
 have keep0:∀ {sv:Y} {l:List Int},w.ownsRow (g+1) 3 1 sv l.length (l.map i64)->(∀ q,sv.ownBlock=some q->nv.ownBlock≠some q)->w3.ownsRow (g+1) 3 1 sv l.length (l.map i64):=λha hb=>
  f3.own (f2.own (x1.own ha) λk hk hS=>hb k hk hS) λk hk hS=>by have:=(ha.lt k hk).1;have hS:k=g:=hS;omega
 have keep:∀ {sv:Y} {l:List Int},w.ownsRow (g+1) 3 1 sv l.length (l.map i64)->(∀ q,sv.ownBlock=some q->nv.ownBlock≠some q/\tv.ownBlock≠some q)->w3.ownsRow (g+1) 3 1 sv l.length (l.map i64)/\∀ q,sv.ownBlock=some q->nv'.ownBlock≠some q/\tv.ownBlock≠some q:=λha hb=>
  ⟨keep0 ha λq hq=>(hb q hq).1,λq hq=>⟨fresh (ha.lt q hq).2 (hb q hq).1,(hb q hq).2⟩⟩
 refine hk nv' w3 ⟨hB3,⟨xs++[n.val sv],?_,λk y hy=>?_⟩,keep0 hst λq hq hq'=>hne q hq' hq,λq hq hq'=>fresh (hst.lt q hq').2 (λh=>hne q h hq') hq⟩ (((Fr.of_ext x1).trans (f2.mono λk hk=>.inr hk) λ_ _ h=>h).trans (f3.mono λk hk=>.inl hk) λ_ _ h=>h) (λq hq=>by
   rcases hl2 with h2|h2
   ·rw [h2] at hq;exact .inl hq
   ·rw [h2] at hq;cases hq;exact .inr (by omega))
 ·rw [List.length_append];exact f3.own ho2 λk hk hS=>by have:=(ho2.lt k hk).1;have hS:k=g:=hS;omega
 ·rw [List.getElem?_append] at hy ⊢;have hxl:xs.length=N.length:=by have:=ho.1;omega
  split at hy
  ·rename_i hlt
   obtain ⟨u,h4,sv2,h5,h6,h7⟩:=hxs k y hy;rw [if_pos (by omega)];obtain ⟨k1,k2⟩:=keep h6 h7;exact ⟨u,h4,sv2,h5,k1,k2⟩
  ·rename_i hge
   rw [if_neg (by omega),hxl]
   have hk0:k - N.length=0:=by
    have:=(List.getElem?_eq_some_iff.1 hy).1;simpa using this
   rw [hk0] at hy ⊢;cases hy;obtain ⟨k1,k2⟩:=keep hso hsn;exact ⟨n.val sv,rfl,sv,rfl,k1,k2⟩
theorem Lp.set {g:Nat} {np:Int} {gn c j:Nat} {tv u:Y} {N:List aJ} {T:List Int} {n:aJ} {K':O->Prop} (h:Lp g np (.slice (some ⟨gn,0,none⟩) N.length c) tv w N T) (hj:j < N.length) (hu:UV g (.slice (some ⟨gn,0,none⟩) N.length c) tv w u n)
  (hk:∀ w',Lp g np (.slice (some ⟨gn,0,none⟩) (N.set j n).length c) tv w' (N.set j n) T->Fr (λk=>k=gn) w w'->K' w'):U prog (Instr.storeAt 43 (.pointer (some ⟨gn,0+j*1,none⟩)) u) w λ_ w2=>K' w2:=by
 obtain ⟨sv,rfl,hso,hsn⟩:=hu;obtain ⟨hB,⟨xs,ho,hxs⟩,hst,hne⟩:=h;have hgn:=ho.lt gn rfl;have hxl:xs.length=N.length:=by have:=ho.1;omega
 refine stY MN ho hj (IK _ _) λw' ho' hg'=>?_;have f:Fr (λk=>k=gn) w w':=Fr.of_grown hg' λk hk=>by cases hk;rfl
 have keep:∀ {sv:Y} {l:List Int},w.ownsRow (g+1) 3 1 sv l.length (l.map i64)->(∀ q,sv.ownBlock=some q->gn≠q)->w'.ownsRow (g+1) 3 1 sv l.length (l.map i64):=λha hb=>f.own ha λk hk hS=>hb k hk hS.symm;have hne':∀ {v:Y} {q:Nat},(Value.slice (some ⟨gn,0,none⟩) N.length c).ownBlock≠some q->gn≠q:=λh e=>h (by rw [e];rfl);refine hk w' ⟨by rw [List.length_set];exact f.blk hB (by omega),⟨xs.set j (n.val sv),by rw [List.length_set];exact ho',λk y hy=>?_⟩,keep hst λq hq e=>hne gn rfl (by rw [e];exact hq),by rw [List.length_set];exact hne⟩ f;rw [List.length_set];rw [List.getElem?_set] at hy ⊢;by_cases hkj:j=k
 ·subst hkj;rw [if_pos rfl,if_pos hj] at hy;rw [if_pos rfl,if_pos (by omega)];cases hy;exact ⟨_,rfl,sv,rfl,keep hso λq hq=>hne' (v:=sv) (hsn q hq).1,hsn⟩
 ·rw [if_neg hkj] at hy ⊢;obtain ⟨u2,h4,sv2,h5,h6,h7⟩:=hxs k y hy;exact ⟨u2,h4,sv2,h5,keep h6 λq hq=>hne' (v:=sv2) (h7 q hq).1,h7⟩
theorem aCn {h pc:Nat} {n:aJ} {T:List Int} (hn:jH i m x h=some n) (hT:∀ to∈fO x pc,0<=to/\to < T.length):XX T n:=by
 by_cases c1:x.op=23
 ·have:n=.goto x.a:=by simp [jH,c1] at hn;exact hn.symm
  subst this;exact hT x.a (by simp [fO,c1])
 by_cases c2:x.op=24
 ·have:n=.branch (10+((h:Int) - 1)) x.a:=by simp [jH,c2] at hn;exact hn.symm
  subst this;exact hT x.a (by simp [fO,c2])
 unfold jH at hn;by_cases d0:x.op=1
 ·rw [if_pos d0] at hn;cases hn;trivial
 rw [if_neg d0] at hn;by_cases d1:x.op=2
 ·rw [if_pos d1] at hn;cases hn;trivial
 rw [if_neg d1] at hn;by_cases d2:x.op=3
 ·rw [if_pos d2] at hn;cases hn;trivial
 rw [if_neg d2] at hn;by_cases d3:x.op=4
 ·rw [if_pos d3] at hn;cases hn
 rw [if_neg d3] at hn;by_cases d4:x.op=5
 ·rw [if_pos d4] at hn;cases hn;trivial
 rw [if_neg d4] at hn;by_cases d5:x.op=15\/x.op=16\/x.op=26
 ·rw [if_pos d5] at hn;cases hn;trivial
 rw [if_neg d5] at hn;by_cases d6:x.op=22
 ·rw [if_pos d6] at hn;cases hn;trivial
 rw [if_neg d6] at hn;rw [if_neg c1] at hn;rw [if_neg c2] at hn;by_cases d9:x.op=25
 ·rw [if_pos d9] at hn;cases hn;trivial
 rw [if_neg d9] at hn;by_cases d10:x.op=35
 ·rw [if_pos d10] at hn;cases hn;trivial
 rw [if_neg d10] at hn;by_cases d11:x.op=33
 ·rw [if_pos d11] at hn;cases hn;trivial
 rw [if_neg d11] at hn;by_cases d12:x.op=34
 ·rw [if_pos d12] at hn;cases hn;trivial
 rw [if_neg d12] at hn;by_cases d13:x.op=37
 ·rw [if_pos d13] at hn;cases hn;trivial
 rw [if_neg d13] at hn;by_cases d14:x.op=38
 ·rw [if_pos d14] at hn;cases hn;trivial
 rw [if_neg d14] at hn;by_cases d15:x.op=39
 ·rw [if_pos d15] at hn;cases hn;trivial
 rw [if_neg d15] at hn;by_cases d16:(mK x.op).1≠0
 ·rw [if_pos d16] at hn;cases hn;trivial
 rw [if_neg d16] at hn;cases hn;trivial
theorem HB {i:iK} {m:jN} {st:St} {r:List Bool} {T:List Int} (hT:T.length=m.code.length) (hled:∀ k,st.h k=true->Led i m st k) (hr:∀ k,r.getD k false=true->st.h k=true):∀ (k:Nat) (n:aJ),n∈(bG i m st r k).1->XX T n
 | 0,n,h=>by
  simp only [bG,List.mem_map] at h;obtain ⟨j,_,rfl⟩:=h;trivial
 | k+1,n,h=>by
  have ih:=HB hT hled hr k;cases hk:r.getD k false with
  | false=>
   have e:(bG i m st r (k+1)).1=(bG i m st r k).1:=by simp only [bG,hk];rfl
   rw [e] at h;exact ih n h
  | true=>
   have e:(bG i m st r (k+1)).1=(bG i m st r k).1++.tick::(jH i m (m.ins k) (st.s k).length).toList:=by simp only [bG,hk];rfl
   rw [e] at h;rcases List.mem_append.1 h with h|h
   ·exact ih n h
   ·rcases List.mem_cons.1 h with h|h
    ·subst h;trivial
    ·obtain ⟨out,_,hto⟩:=hled k (hr k hk);refine aCn (pc:=k) (by simpa using h) λto ht=>?_;obtain ⟨q1,q2,_⟩:=hto to ht;exact ⟨q1,by rw [hT];exact q2⟩
theorem aOv {n:aJ} {sv:Y} {x y:Operand} {R:Y->O->Prop} (hk:R (.bool true) w):V prog (do eqGuard .neq 43 x y (n.val sv) Value.nilIface;binOp .neq 43 (n.val sv) Value.nilIface) w R:=by
 cases n<;>exact V.ok (gS underlying43) hk
def UW (B:Nat) (w:O) (v:Y) (l:List aJ):Prop:=∃ xs:List Y,w.ownsRow B 43 1 v l.length xs/\∀ (k:Nat) n,l[k]?=some n->∃ u,xs[k]?=some u/\jT B w u n
theorem UW.nodes {B:Nat} {v:Y} {l:List aJ} (h:UW B w v l):rI w v l:=by
 obtain ⟨xs,h1,h2⟩:=h;refine ⟨xs,aA.of_own h1,λk n hk=>?_⟩;obtain ⟨u,h3,sv,h4,h5⟩:=h2 k n hk;exact ⟨u,h3,sv,h4,aA.of_own h5⟩
theorem aQg {p:jO} {k:Int} (h:kP w p i) (hn:lA w i) (hrg:i.rg)
  (yes:∀ st r nv sv w',mU i->0<=k->k < i.methods.length->rY i (i.meth k) (some st)->KT i (i.meth k) st [] r->UW w.heap.size w' nv (oI i (i.meth k) st r)->aN w' sv (bG i (i.meth k) st r (i.meth k).code.length).2->aE w w'->K (.tuple #[.agg #[i64 (i.meth k).params.length,i64 18,nv],sv,.bool true]) w')
  (no:∀ w',¬ (mU i/\0<=k/\k < i.methods.length)->aE w w'->K (.tuple #[.agg #[i64 0,i64 0,aX],aX,.bool false]) w'):aC prog 9 #[p.val i,i64 k] w K:=by
 apply bKc;unfold aJs jO.val;refine bx λb2 w1 hb2 x1=>?_;have hb2:aY w1 b2 [.string i.name,p.fv,p.iv,p.mv,p.xv]:=hb2;refine zA yC λw2 hB4 x2=>?_;have hB4:bO w2 w1.heap.size [i64 0,i64 0,aX] 33:=hB4;have x02:=x1.trans x2;have hg4:=x1.size;have hb2:=hb2.ext x2;generalize w1.heap.size=g4 at hB4 hg4;refine iF hb2 lM rfl ?_;refine aEm (p:=p) (i:=i) (h.ext x02) (hn.ext x02) hrg (λst sv w3 ht h0 hkl hw hst x3=>?_) λw3 hne x3=>?_
 case refine_2=>
  refine hU.2 (hO.2 (dC.2 ?_));simp only [aR,Int.reduceNeg];refine oD bAk [] rfl rfl ?_;refine yW yC (hB4.ext x3) (l:=[i64 0,i64 0,aX]) rfl rfl rfl rfl λw4 hB hc=>?_;exact ⟨_,nS underlying33 rfl yC hB rfl,⟨_,rfl⟩,no w4 hne (hc.ext _ (x02.trans x3) hg4)⟩
 refine hU.2 (hO.2 (dC.2 ?_));simp only [aR,Int.reduceNeg];obtain ⟨kn,rfl⟩:∃ q:Nat,k=q:=⟨k.toNat,by omega⟩;have hmi:=fY (i:=i) (a:=(kn:Int)) (by omega) (by omega);rw [Int.toNat_natCast] at hmi;have ir:=ht.1;have mr:(i.meth kn).right:=ir.2.2.1.2.1 _ (List.mem_of_getElem? hmi);obtain ⟨hox,hwf,hh0,hs0,hled⟩:=hw.led ir mr;have x03:=x02.trans x3;have hb3:=hb2.ext x3;refine bC hb3 bP dE rfl ?_;refine ldS gO oK (h.ext x03).mt hmi qL λrow hrow=>?_;generalize hmm:i.meth kn=m at *;have hrow0:=hrow;obtain ⟨pv,lv,cv,rfl,hp,hl,hc⟩:=hrow
 have hone:([pv,i64 m.result,lv,cv]:List Y).all bY=true:=by
  obtain ⟨a1,c1,rfl⟩:=hp.shape;obtain ⟨a2,c2,rfl⟩:=hl.shape;obtain ⟨a3,c3,rfl⟩:=aA.shape hc;rfl
 refine wV GK rfl hone λb9 w4 hb9 x4=>?_;have hb9:aY w4 b9 [pv,i64 m.result,lv,cv]:=hb9;have hp4:=hp.ext x4;refine bC hb9 dM bF rfl (fQ aQ hp4 ?_);refine oD bAk [(0,i64 m.params.length),(1,i64 18)] rfl rfl ?_;refine rX aZs rfl rfl λw5 hB5 x5=>?_;have hB5:bO w5 w4.heap.size [i64 m.params.length,i64 18,aX] 33:=hB5;have hg4':g4 < w4.heap.size:=by have:=hB4.lt;have:=x3.size;have:=x4.size;omega
 have hb9':=hb9.ext x5;refine bC hb9' kX bF rfl (fQ aQ ((hl.ext x4).ext x5) ?_);have hL0:Lp w4.heap.size m.params.length aX aX w5 [] []:=⟨hB5,⟨[],World.ownsRow_nil _ _ _ _,λk n hk=>by simp at hk⟩,World.ownsRow_nil _ _ _ _,λq hq=>by cases hq⟩;have x04:=x03.trans x4;have hgx:=hB5.lt;generalize hgg:w4.heap.size=g at *;have pl:=mr.1.2;have ll:=mr.2.2.1.2;refine ⟨λv w'=>∃ (j:Nat) (nv:Y),v=i64 j/\j<=m.locals.length/\aE w4 w'/\Lp g m.params.length nv aX w' ((List.range j).map λ(j:Nat)=>aJ.const ((m.params.length:Int)+((j:Nat):Int)) 0) [],λv _=>m.locals.length - (RowKit.intOf v).toNat,⟨0,aX,rfl,Nat.zero_le _,x5,hL0⟩,?_⟩;clear hL0 hB5;rintro _ w6 ⟨j,nv,rfl,hj,x6,hL⟩ _;refine aW.2 (aB (λhlt=>?_) λhge=>?_)
 ·refine bC (bO.boxed hL.blk) eI lF rfl ?_;refine bC (hb9.ext x6) dM bF rfl (fQ aQ (hp4.ext x6) (bA.2 ?_));rw [aM (by omega)];refine oD XQ [(0,i64 ((m.params.length:Int)+(j:Int)))] rfl rfl (TB WH ?_);refine hL.push (n:=.const ((m.params.length:Int)+(j:Int)) 0) ⟨aX,rfl,World.ownsRow_nil _ _ _ _,λq hq=>by cases hq⟩ (by simp;omega) λnv' w7 hL7 f7 _=>bA.2 ?_;rw [aM (by omega),bK];have hnv:∀ q,nv.ownBlock=some q->g+1<=q:=λq hq=>by obtain ⟨xs,ho,_⟩:=hL.row;exact (ho.lt q hq).1
  refine ⟨⟨j+1,nv',rfl,by omega,f7.ext x6 λq hq=>?_,?_⟩,by simp only [aL];omega⟩
  ·rcases hq with hq|hq
   ·omega
   ·have:=hnv q hq;omega
  ·rw [List.range_succ,List.map_append];exact hL7
 have hjl:j=m.locals.length:=by omega
 subst hjl;have hn1:=mr.2.2.2.1.1;have hn2:=mr.2.2.2.1.2;refine iF (hb9.ext x6) oK rfl ?_;refine aBu (i:=i) (m:=m) (st:=st) (row:=[pv,i64 m.result,lv,cv]) ((hrow0.ext x4).ext x6) hn1 (by omega) hh0 hled hwf λgr r w7 hBr hgr R x7=>?_;have x47:=x6.trans x7;refine bC (hb9.ext x47) cG iM rfl (fQ jY ((hc.ext x4).ext x47) ?_);have hnvb:∀ q,nv.ownBlock=some q->q≠gr:=λq hq=>by obtain ⟨xs,ho,_⟩:=hL.row;have:=(ho.lt q hq).2;omega
 have hgg6:g < w6.heap.size:=hL.blk.lt;have hgrg:gr≠g:=by omega
 refine ⟨λtv v w'=>∃ (j:Nat) (nv:Y),v=i64 j/\j<=m.code.length/\aE w4 w'/\Lp g m.params.length nv tv w' (bG i m st r j).1 (bG i m st r j).2/\(bG i m st r j).1.length<=10+2*j/\(bG i m st r j).2.length=j/\bO w' gr (r.map .bool) 4/\∀ q,nv.ownBlock=some q\/tv.ownBlock=some q->q≠gr,
  λ_ v _=>m.code.length - (RowKit.intOf v).toNat,⟨0,nv,rfl,Nat.zero_le _,x47,hL.ext x7,by simp [bG];omega,rfl,hBr,λq hq=>?_⟩,?_⟩
 ·rcases hq with hq|hq
  ·exact hnvb q hq
  ·cases hq
 clear hL hBr hnvb;rintro tv _ w8 ⟨j,nv,rfl,hj,x8,hL,hNl,hTl,hBr,hgb⟩ _;refine aW.2 (aB (λhlt=>?_) λhge=>?_)
 ·have hj':j < m.code.length:=by omega
  have hxi:=sN (m:=m) (k:=j) hj';have ox:=hox _ (List.mem_of_getElem? hxi);refine ldI ((hc.ext x4).ext x8) hxi ?_;refine rX VM rfl rfl λw9 hB15 x9=>?_;have hB15:bO w9 w8.heap.size [i64 (m.ins j).op,i64 (m.ins j).a,i64 (m.ins j).b] 88:=hB15;have hnv8:∀ q,nv.ownBlock=some q->q < w8.heap.size:=λq hq=>by obtain ⟨xs,ho,_⟩:=hL.row;exact (ho.lt q hq).2
  have htv8:∀ q,tv.ownBlock=some q->q < w8.heap.size:=λq hq=>(hL.st.lt q hq).2;have hg8:g < w8.heap.size:=hL.blk.lt;have x49:=x8.trans x9;have hL9:=hL.ext x9;have hB9:=hBr.ext x9;have hrl:=R.rl;have hsl:aA w9 (.slice (some ⟨gr,0,none⟩) m.code.length m.code.length) 1 m.code.length (r.map .bool):=hB9.slice (by simpa using hrl) (by unfold maxLen;omega);refine lV hY oM hsl (by omega) (by omega) (HO (by omega)) (dC.2 ?_)
  have hlo:∀ q,nv.ownBlock=some q\/tv.ownBlock=some q->g+1<=q:=λq hq=>by
   rcases hq with hq|hq
   ·obtain ⟨xs,ho,_⟩:=hL.row;exact (ho.lt q hq).1
   ·exact (hL.st.lt q hq).1
  cases hrj:r.getD j false with
  | false=>
   simp only [aR,Int.reduceNeg];refine hL9.start (by omega) λtv' w10 hL10 f10 q10=>bA.2 ?_;rw [aM (by omega),bK];have hK:bG i m st r (j+1)=((bG i m st r j).1,(bG i m st r j).2++[-1]):=by simp only [bG,hrj];rfl
   refine ⟨⟨j+1,nv,rfl,by omega,f10.ext x49 λq hq=>?_,by rw [hK];exact hL10,by rw [hK];dsimp only;omega,by rw [hK];simp [hTl],f10.blk hB9 λhq=>hgb gr (.inr hq) rfl,λq hq=>?_⟩,by simp only [aL];omega⟩
   ·have:=hlo q (.inr hq);omega
   ·have hs9:=hB9.lt;rcases hq with hq|hq
    ·exact hgb q (.inl hq)
    ·rcases q10 q hq with h10|h10
     ·exact hgb q (.inr h10)
     ·omega
  | true=>
   simp only [aR,Int.reduceNeg];have hh:=R.rs j hrj;obtain ⟨out,hdo,_⟩:=hled j hh;obtain ⟨hkd,hl8⟩:=hwf.kd j hh;obtain ⟨_,_,hask,_⟩:=ES ox hkd hdo;refine bC (bO.boxed hL9.blk) eI lF rfl ?_;have hnl:∀ {nv tv w' N T},Lp g m.params.length nv tv w' N T->∃ vs,aA w' nv 1 N.length vs:=λh=>by obtain ⟨vs,h1,_⟩:=h.nodes;exact ⟨vs,h1⟩
   obtain ⟨nvs,hnvs⟩:=hnl hL9;refine fQ oX hnvs ?_;refine hL9.start (by omega) λtv' w10 hL10 f10 q10=>?_;have x10:aE w4 w10:=f10.ext x49 λq hq=>by have:=hlo q (.inr hq);omega
   have hB10:=f10.blk hB9 λhq=>hgb gr (.inr hq) rfl;refine bC (bO.boxed hL10.blk) eI lF rfl ?_;refine oD bJy [] rfl rfl (TB bJf ?_);refine hL10.push (n:=.tick) ⟨aX,rfl,World.ownsRow_nil _ _ _ _,λq hq=>by cases hq⟩ (by omega) λnv' w11 hL11 f11 q11=>?_;have hgw:w4.heap.size=g:=hgg
   have x11:aE w4 w11:=f11.ext x10 λq hq=>by
    rcases hq with hq|hq
    ·omega
    ·have:=hlo q (.inl hq);omega
   have hB11:=f11.blk hB10 λhq=>by
    rcases hq with hq|hq
    ·exact hgrg hq
    ·exact hgb gr (.inl hq) rfl
   have hB15':=f11.blk (f10.blk hB15 λhq=>by have:=htv8 _ hq;omega) λhq=>by
    rcases hq with hq|hq
    ·omega
    ·have:=hnv8 _ hq;omega
   have D1:aE w11 w11.drew:=(aE.refl _).drew;have x1D:=x11.trans D1;obtain ⟨svs,hsv1,hsv2⟩:=(hst.ext x4).ext x1D;have hstl:st.st.length=m.code.length:=hwf.l1;obtain ⟨su,hsu,hsi⟩:=hsv2 j (by omega);refine aK.mk' (λw'=>aE w11.drew w') (aE.refl _) ?_;refine yA (λw' hx=>((hb3.ext x4).ext x1D).ext hx) lM rfl ?_;refine yA (λw' hx=>(hb9.ext x1D).ext hx) oK rfl ?_;refine yA (λw' hx=>(bO.boxed (hB15'.ext D1)).ext hx) iG rfl ?_;refine oE pV bF hsv1 (λ_ h=>h) (by omega) (by omega) (by simpa using hsu) ?_;refine sS aQ hsi ?_;refine bBv (p:=p) (i:=i) (m:=m) (x:=m.ins j) (row:=[pv,i64 m.result,lv,cv]) ((h.ext (x03.trans x4)).ext x1D) ((hrow0.ext x4).ext x1D) ox hl8 hask λv w12 hv x12=>⟨x12,?_⟩;have x1E:=x1D.trans x12;have xDE:=D1.trans x12;have hL12:=hL11.ext xDE;have hB12:=hB11.ext xDE;have sD:=D1.size;have s12:=x12.size;have hK:bG i m st r (j+1)=((bG i m st r j).1++.tick::(jH i m (m.ins j) (st.s j).length).toList,(bG i m st r j).2++[((bG i m st r j).1.length:Int)]):=by simp only [bG,hrj];rfl
   have hs9:=hB9.lt;have hs10:=f10.size;have hs11:=f11.size
   have hgb11:∀ q,nv'.ownBlock=some q\/tv'.ownBlock=some q->q≠gr:=λq hq=>by
    rcases hq with hq|hq
    ·rcases q11 q hq with h11|h11
     ·exact hgb q (.inl h11)
     ·omega
    ·rcases q10 q hq with h10|h10
     ·exact hgb q (.inr h10)
     ·omega
   have hv:LN w11.drew.heap.size w12 v (jH i m (m.ins j) (st.s j).length):=hv;cases ho:jH i m (m.ins j) (st.s j).length with
   | none=>
    rw [ho] at hv hK;have hv:v=Value.nilIface:=hv;subst hv;refine V.ok (iA underlying43) (aP.2 (bA.2 ?_));rw [aM (by omega),bK];exact ⟨⟨j+1,nv',rfl,by omega,x1E,by rw [hK];exact hL12,by rw [hK];simp;omega,by rw [hK];simp [hTl],hB12,hgb11⟩,by simp only [aL];omega⟩
   | some n=>
    rw [ho] at hv hK;obtain ⟨asv,rfl,hown⟩:=hv;refine aOv (bJ.2 ?_);refine bC (bO.boxed hL12.blk) eI lF rfl ?_
    have hnv11:∀ q,nv'.ownBlock=some q\/tv'.ownBlock=some q->q < w11.heap.size/\g+1<=q:=λq hq=>by
     rcases hq with hq|hq
     ·obtain ⟨xs,ho,_⟩:=hL11.row;have:=ho.lt q hq;omega
     ·have:=hL11.st.lt q hq;omega
    have hg11:=hL11.blk.lt;refine hL12.push (n:=n) ⟨asv,rfl,aU hown (by omega),λq hq=>⟨λh=>?_,λh=>?_⟩⟩ (by simp;omega) λnv2 w13 hL13 f13 q13=>bA.2 ?_
    ·have:=(hown.lt q hq).1;have:=(hnv11 q (.inl h)).1;omega
    ·have:=(hown.lt q hq).1;have:=(hnv11 q (.inr h)).1;omega
    rw [aM (by omega),bK];refine ⟨⟨j+1,nv2,rfl,by omega,f13.ext x1E λq hq=>?_,by rw [hK];simpa using hL13,by rw [hK];simp;omega,by rw [hK];simp [hTl],f13.blk hB12 λhq=>?_,λq hq=>?_⟩,by simp only [aL];omega⟩
    ·rcases hq with hq|hq
     ·omega
     ·have:=(hnv11 q (.inl hq)).2;omega
    ·rcases hq with hq|hq
     ·exact hgrg hq
     ·exact hgb11 gr (.inl hq) rfl
    ·rcases hq with hq|hq
     ·rcases q13 q hq with h13|h13
      ·exact hgb11 q (.inl h13)
      ·have:=hB12.lt;omega
     ·exact hgb11 q (.inr hq)
 ·have hjn:j=m.code.length:=by omega
  subst hjn;have haim:∀ (q:Nat) y,(bG i m st r m.code.length).1[q]?=some y->XX (bG i m st r m.code.length).2 y:=λq y hy=>HB hTl hled R.rs _ y (List.mem_of_getElem? hy);have eP:oI i m st r=(bG i m st r m.code.length).1.map (yQ (bG i m st r m.code.length).2):=rfl;generalize hNN:(bG i m st r m.code.length).1=N at *;generalize hTT:(bG i m st r m.code.length).2=T at *;refine bC (bO.boxed hL.blk) eI lF rfl ?_;obtain ⟨nvs,hnvs,_⟩:=hL.nodes;refine fQ oX hnvs ?_;refine ⟨λv w'=>∃ (q:Nat) (M:List aJ),v=i64 q/\q<=N.length/\aE w4 w'/\Lp g m.params.length nv tv w' M T/\M.length=N.length/\∀ a:Nat,M[a]?=if a < q then (N[a]?).map (yQ T) else N[a]?,λv _=>N.length - (RowKit.intOf v).toNat,⟨0,N,rfl,Nat.zero_le _,x8,hL,rfl,λa=>by simp⟩,?_⟩;rintro _ w9 ⟨q,M,rfl,hq,x9,hM,hMl,hMa⟩ _;refine aW.2 (aB (λhlt=>?_) λhge2=>?_)
  ·obtain ⟨xs,hox2,hxs⟩:=hM.row;obtain ⟨y,hy⟩:=bE (l:=N) (j:=q) (by omega);have hyM:M[q]?=some y:=by rw [hMa,if_neg (by omega)];exact hy
   obtain ⟨u,hu,asv,rfl,has,hapart⟩:=hxs q y hyM
   obtain ⟨gn,cn,rfl⟩:∃ gn c,nv=.slice (some ⟨gn,0,none⟩) M.length c:=by
    rcases hox2.2 with ⟨_,e⟩|⟨g',c',_,rfl,_⟩
    ·omega
    ·exact ⟨g',c',rfl⟩
   refine lV oX DQ (aA.of_own hox2) (by omega) (by omega) (by simpa using hu) ?_;have D1:aE w9 w9.drew:=(aE.refl _).drew;have hMd:=hM.ext D1;refine aK.mk' (λw'=>aE w9.drew w') (aE.refl _) ?_;refine jG (λw' hx=>bO.boxed (hMd.blk.ext hx)) eI lF rfl ?_;refine aRr (aA.of_own hMd.st) (haim q y hy) λw10 x10=>⟨x10,?_⟩;refine aD.ok (λw' _=>iL underlying31 MN (by omega) (by omega)) ?_;rw [Int.toNat_natCast];have hargs:(yQ T y).args=y.args:=by cases y<;>rfl
   have hMl2:(M.set q (yQ T y)).length=M.length:=List.length_set;have hgn:=hox2.lt gn rfl;refine (hMd.ext x10).set (n:=yQ T y) (by omega) ⟨asv,rfl,by rw [hargs];exact (D1.trans x10).own has,hapart⟩ λw11 hM11 f11=>bA.2 ?_;rw [aM (by omega),bK];rw [hMl2] at hM11;refine ⟨⟨q+1,M.set q (yQ T y),rfl,by omega,f11.ext (x9.trans (D1.trans x10)) λk hk=>by omega,hM11,by omega,λa=>?_⟩,by simp only [aL];omega⟩;rw [List.getElem?_set];by_cases haq:q=a
   ·subst haq;rw [if_pos rfl,if_pos (by omega),if_pos (by omega),hy];rfl
   ·rw [if_neg haq,hMa];by_cases hlt2:a < q
    ·rw [if_pos hlt2,if_pos (by omega)]
    ·rw [if_neg hlt2,if_neg (by omega)]
  ·have hMe:M=oI i m st r:=by
    rw [eP];apply List.ext_getElem?;intro a;rw [hMa,List.getElem?_map];by_cases ha:a < q
    ·rw [if_pos ha]
    ·rw [if_neg ha,List.getElem?_eq_none (by omega)];rfl
   have hB4E:=((hB4.ext x3).ext x4).ext x9;obtain ⟨xs,hox2,hxs⟩:=hM.row;refine iF (bO.boxed hM.blk) qG rfl ?_;refine yW yC hB4E (l:=[i64 m.params.length,i64 18,nv]) rfl rfl rfl (by simp [jB hox2,AJ]) λwE hBE hcE=>?_;refine ⟨_,nS underlying33 rfl yC hBE rfl,⟨_,rfl⟩,?_⟩;have fE:=rE hcE;have kp:∀ {e:TypeId} {v:Y} {n:Nat} {ys:List Y},w9.ownsRow (g+1) e 1 v n ys->wE.ownsRow (g+1) e 1 v n ys:=λho=>fE.own ho λk hk hS=>by have:=(ho.lt k hk).1;have hS:k=g4:=hS;omega
   refine yes st r nv tv wE ht h0 hkl hw R ?_ (by rw [hTT];exact aA.of_own (kp hM.st)) (hcE.ext _ (x04.trans x9) (by omega));rw [<- hMe];have s04:=x04.size;refine ⟨xs,aU (kp hox2) (by omega),λk y hy=>?_⟩;obtain ⟨u,h4,asv,h5,h6,_⟩:=hxs k y hy;exact ⟨u,h4,asv,h5,aU (kp h6) (by omega)⟩
def aJ.isTick:aJ->Bool
 | .tick=>true
 | _=>false
theorem DT {c:Prop} [Decidable c] {a b:Option α} {n:α} (h:(if c then a else b)=some n):(c/\a=some n)\/(¬ c/\b=some n):=by
 by_cases hc:c
 ·rw [if_pos hc] at h;exact .inl ⟨hc,h⟩
 ·rw [if_neg hc] at h;exact .inr ⟨hc,h⟩
theorem aHi {c:Prop} [Decidable c] {a b:Option α} (h:(if c then a else b)=none):(c/\a=none)\/(¬ c/\b=none):=by
 by_cases hc:c
 ·rw [if_pos hc] at h;exact .inl ⟨hc,h⟩
 ·rw [if_neg hc] at h;exact .inr ⟨hc,h⟩
theorem aJc (T:List Int) (n:aJ):(yQ T n).isTick=n.isTick:=by cases n<;>rfl
theorem TE {h:Nat} {n:aJ} (hn:jH i m x h=some n):n.isTick=false:=by
 unfold jH at hn
 repeat (rcases DT hn with ⟨_,hn⟩|⟨_,hn⟩;· (first|(cases hn;done)|(cases hn;rfl)))
 cases hn;rfl
def GE (l:List aJ):Nat:=l.countP aJ.isTick
def onC (T:List Int):Nat:=T.countP λt=>decide (0<=t)
theorem uG (i:iK) (m:jN) (st:St) (r:List Bool):∀ k,GE (bG i m st r k).1=onC (bG i m st r k).2/\(bG i m st r k).2.length=k/\(bG i m st r k).1.length<=m.locals.length+2*k/\∀ (pc:Nat) (t:Int),(bG i m st r k).2[pc]?=some t->0<=t->(bG i m st r k).1[t.toNat]?=some .tick
 | 0=>by
  refine ⟨?_,rfl,by simp [bG],λpc t h=>by simp [bG] at h⟩;simp [bG,GE,onC,List.countP_eq_zero,aJ.isTick]
 | k+1=>by
  obtain ⟨h1,h2,h3,h4⟩:=uG i m st r k;cases hk:r.getD k false with
  | false=>
   have e:bG i m st r (k+1)=((bG i m st r k).1,(bG i m st r k).2++[-1]):=by simp only [bG,hk];rfl
   rw [e];refine ⟨by simpa [onC] using h1,by simp [h2],by dsimp only;omega,λpc t h h0=>?_⟩;rw [List.getElem?_append] at h;split at h
   ·exact h4 pc t h h0
   ·have:t=-1:=by
     have:=List.mem_of_getElem? h;simpa using this
    omega
  | true=>
   have e:bG i m st r (k+1)=((bG i m st r k).1++.tick::(jH i m (m.ins k) (st.s k).length).toList,(bG i m st r k).2++[((bG i m st r k).1.length:Int)]):=by simp only [bG,hk];rfl
   rw [e]
   have hz:GE (jH i m (m.ins k) (st.s k).length).toList=0:=by
    cases ho:jH i m (m.ins k) (st.s k).length with
    | none=>rfl
    | some n=>simp [GE,TE ho]
   have hl:(jH i m (m.ins k) (st.s k).length).toList.length<=1:=by cases jH i m (m.ins k) (st.s k).length<;>simp
   refine ⟨?_,by simp [h2],by simp;omega,λpc t h h0=>?_⟩
   ·simp only [GE,onC] at h1 hz ⊢;rw [List.countP_append,List.countP_cons,List.countP_append,h1,hz];simp [aJ.isTick]
   ·rw [List.getElem?_append] at h;split at h
    ·have:=h4 pc t h h0;rw [List.getElem?_append_left (List.getElem?_eq_some_iff.1 this).1];exact this
    ·have:t=((bG i m st r k).1.length:Int):=by
      have:=List.mem_of_getElem? h;simpa using this
     subst this;rw [Int.toNat_natCast,List.getElem?_append_right (Nat.le_refl _)];simp
theorem AL (i:iK) (m:jN) (st:St) (r:List Bool):GE (oI i m st r)=onC (bG i m st r m.code.length).2/\(bG i m st r m.code.length).2.length=m.code.length/\(oI i m st r).length<=m.locals.length+2*m.code.length/\∀ (pc:Nat) (t:Int),(bG i m st r m.code.length).2[pc]?=some t->0<=t->(oI i m st r)[t.toNat]?=some .tick:=by
 obtain ⟨h1,h2,h3,h4⟩:=uG i m st r m.code.length;refine ⟨?_,h2,by simpa [oI] using h3,λpc t h h0=>?_⟩
 ·rw [<- h1];show ((bG i m st r m.code.length).1.map _).countP _=_;rw [List.countP_map];exact List.countP_congr λn _=>by simp [aJc]
 ·show ((bG i m st r m.code.length).1.map _)[t.toNat]?=_;rw [List.getElem?_map,h4 pc t h h0];rfl
end Go.Proofs.YtjcmcfidblhnnaaGreatDoor
namespace Go.Proofs.YtjcmcfidblhnnaaGreatDoor
open Tryz
open Go.Vc
variable {w:O} {k op:Int} {p:fN} {pv:Y}
theorem aRq (l:List Int):(l.map i64).all bY=true:=by simp [bY]
theorem bEl (l:List Bool):(l.map Value.bool).all bY=true:=by simp [bY]
theorem aDh {v:Y} {l:List Int} (h:aN w v l) (hl:l.length<=4294967296) :
  aC prog 132 #[v] w λr w'=>w'.ownsRow w.heap.size 3 1 r l.length (l.map i64)/\aE w w':=by
 apply aAy;unfold FH;exact UK (R:=λr w'=>w'.ownsRow w.heap.size 3 1 r l.length (l.map i64)/\aE w w') bB h (aRq l) (by omega) λv' w' h1 h2=>⟨h1,h2⟩
theorem UJ {v:Y} {l:List Bool} (h:gF w v l) (hl:l.length<=4294967296) :
  aC prog 187 #[v] w λr w'=>w'.ownsRow w.heap.size 4 1 r l.length (l.map Value.bool)/\aE w w':=by
 apply aVw;unfold OX;exact UK (R:=λr w'=>w'.ownsRow w.heap.size 4 1 r l.length (l.map Value.bool)/\aE w w') aDx h (bEl l) (by omega) λv' w' h1 h2=>⟨h1,h2⟩
theorem KC {n:aJ} {v:Y} (h:jA w v n):aC prog 80 #[v] w λr w'=>r=i64 n.df/\aE w w':=by
 obtain ⟨sv,rfl,hs⟩:=h;obtain ⟨sa,sc,rfl⟩:=hs.shape;apply bFn;unfold YV;cases n<;>(dsimp only [aJ.val];(repeat (first|(with_reducible refine th (by first|exact bN|exact fM|exact gG|exact iE|exact gP|exact gX|exact jL|exact jK|exact lC|exact lK|exact mD|exact oY) ?_)|((with_reducible refine tm (by first|exact bN|exact fM|exact gG|exact iE|exact gP|exact gX|exact jL|exact jK|exact lC|exact lK|exact mD|exact nO|exact tM|exact oY) (by decide) ?_);intro _ _ _)));first|exact ⟨rfl,aE.refl _⟩|(refine wV (by first|exact zG|exact uC|exact vZ|exact vY|exact uB|exact uA|exact CR|exact zF|exact JA|exact SK|exact SJ|exact aZr) rfl rfl λb w1 hb x1=>?_;refine bC hb (by first|exact dB|exact dA|exact cF|exact cZ|exact cQ|exact cP|exact cE|exact cY|exact cX|exact cW|exact cO|exact cN|exact cM|exact bV|exact cV|exact bU|exact dI|exact cU|exact cT|exact dH|exact dG|exact dL|exact dF|exact dK|exact dV|exact dU|exact eG|exact eW|exact aQz) (by first|exact gZ|exact gJ|exact gY|exact iR|exact kK|exact iQ|exact iP|exact iO|exact bF|exact jF|exact iN|exact dE|exact aG) rfl ?_;exact ⟨rfl,x1⟩))
theorem IL {n:aJ} {v:Y} (h:jA w v n) (hl:n.args.length<=4294967296):aC prog 71 #[v] w λr w'=>w'.ownsRow w.heap.size 3 1 r n.us.length (n.us.map i64)/\aE w w':=by
 obtain ⟨sv,rfl,hs⟩:=h;obtain ⟨sa,sc,rfl⟩:=hs.shape;apply bFw;unfold ZE;cases n with
 | const _ _|tick|goto _|getField _ _=>dsimp only [aJ.val];(repeat (first|(with_reducible refine th bN ?_)|((with_reducible refine tm (by first|exact bN|exact fM|exact gG|exact iE|exact gP|exact gX|exact jL|exact jK|exact lC|exact lK|exact mD|exact nO) (by decide) ?_);intro _ _ _)));exact ⟨World.ownsRow_nil _ _ _ _,aE.refl _⟩
 | move _ a|un _ _ a|branch a _|putField _ a=>
  dsimp only [aJ.val];(repeat (first|(with_reducible refine th (by first|exact bN|exact fM|exact gG|exact iE|exact gP|exact gX|exact jK) ?_)|((with_reducible refine tm (by first|exact bN|exact fM|exact gG|exact iE|exact gX) (by decide) ?_);intro _ _ _)));refine wV (by first|exact zG|exact uC|exact vZ|exact vY|exact uB|exact uA|exact zF) rfl rfl λb w1 hb x1=>?_;refine bC hb (by first|exact dB|exact dA|exact cF|exact cZ|exact cQ|exact cP|exact cE|exact cY|exact cX|exact cW|exact cO|exact cN|exact cM|exact bV|exact cV|exact dH) (by first|exact gZ|exact gJ|exact gY|exact iR|exact kK|exact iQ|exact iP|exact iO|exact bF|exact jF|exact iN|exact dE|exact aG) rfl ?_;refine jX (by first|exact bB) [i64 a] rfl rfl (by simp) rfl λv w2 ho x2=>?_;exact ⟨aU ho x1.size,x1.trans x2⟩
 | bin _ _ a c=>
  dsimp only [aJ.val];(repeat (first|(with_reducible refine th (by first|exact bN|exact fM) ?_)|((with_reducible refine tm bN (by decide) ?_);intro _ _ _)));refine wV uC rfl rfl λb w1 hb x1=>?_;refine bC hb cQ aG rfl ?_;refine bC hb cP aG rfl ?_;refine jX bB [i64 a,i64 c] rfl rfl (by simp) rfl λv w2 ho x2=>?_;exact ⟨aU ho x1.size,x1.trans x2⟩
 | choose _ a c d=>
  dsimp only [aJ.val];(repeat (first|(with_reducible refine th (by first|exact bN|exact iE) ?_)|((with_reducible refine tm (by first|exact bN|exact fM|exact gG) (by decide) ?_);intro _ _ _)));refine wV vY rfl rfl λb w1 hb x1=>?_;refine bC hb cO aG rfl ?_;refine bC hb cN aG rfl ?_;refine bC hb cM aG rfl ?_;refine jX bB [i64 a,i64 c,i64 d] rfl rfl (by simp) rfl λv w2 ho x2=>?_;exact ⟨aU ho x1.size,x1.trans x2⟩
 | serve _ _ _ _ l|call _ _ l|callX _ _ l=>
  dsimp only [aJ.val];(repeat (first|(with_reducible refine th (by first|exact bN|exact fM|exact gG|exact iE|exact gP|exact gX|exact jL|exact jK|exact lC|exact lK|exact mD) ?_)|((with_reducible refine tm (by first|exact bN|exact fM|exact gG|exact iE|exact gP|exact gX|exact jL|exact jK|exact lC|exact lK) (by decide) ?_);intro _ _ _)));refine wV (by first|exact zG|exact uC|exact vZ|exact vY|exact uB|exact uA|exact CR|exact zF|exact JA|exact SK|exact SJ) rfl rfl λb w1 hb x1=>?_;refine bC hb (by first|exact dB|exact dA|exact cF|exact cZ|exact cQ|exact cP|exact cE|exact cY|exact cX|exact cW|exact cO|exact cN|exact cM|exact bV|exact cV|exact bU|exact dI|exact cU|exact cT|exact dH|exact dG|exact dL|exact dF|exact dK|exact dV|exact dU|exact eF) (by first|exact gZ|exact gJ|exact gY|exact iR|exact kK|exact iQ|exact iP|exact iO|exact bF) rfl ?_;exact (aDh (hs.ext x1) hl).mono λr w2 ⟨h1,h2⟩=>⟨aU h1 x1.size,x1.trans h2⟩
 | ret s=>
  dsimp only [aJ.val];(repeat (first|(with_reducible refine th (by first|exact bN|exact nO) ?_)|((with_reducible refine tm (by first|exact bN|exact fM|exact gG|exact iE|exact gP|exact gX|exact jL|exact jK|exact lC|exact lK|exact mD) (by decide) ?_);intro _ _ _)));refine wV aEu rfl rfl λb w1 hb x1=>?_;refine bC hb eE aG rfl ?_;refine cH.2 (aB (λhne=>?_) λheq=>?_)
  ·refine bC hb eE aG rfl ?_;refine jX bB [i64 s] rfl rfl (by simp) rfl λv w2 ho x2=>?_;have hu:aJ.us (.ret s)=[s]:=by simp only [aJ.us];rw [if_neg hne]
   rw [hu];exact ⟨aU ho x1.size,x1.trans x2⟩
  ·have hu:aJ.us (.ret s)=[]:=by simp only [aJ.us];rw [if_pos (by omega)]
   rw [hu];exact ⟨World.ownsRow_nil _ _ _ _,x1⟩
theorem WD {n:aJ} {v:Y} (h:jA w v n) (h0:0<=k) (h1:k<=1000000):aC prog 129 #[v,i64 k] w λr w'=>w'.ownsRow w.heap.size 3 1 r (n.nx k).length ((n.nx k).map i64)/\aE w w':=by
 obtain ⟨sv,rfl,hs⟩:=h;obtain ⟨sa,sc,rfl⟩:=hs.shape;apply aYd;unfold QZ;have hw:IntKind.i64.wrap (k+1)=k+1:=aM (by omega);cases n with
 | goto t=>
  dsimp only [aJ.val];refine vJ.2 (aP.2 ?_)
  (repeat (first|(with_reducible refine th (by first|exact bN|exact gP) ?_)|((with_reducible refine tm bN (by decide) ?_);intro _ _ _)))
  refine wV uB rfl rfl λb w1 hb x1=>?_;refine bC hb bV aG rfl ?_;refine jX bB [i64 t] rfl rfl (by simp) rfl λv w2 ho x2=>?_;exact ⟨aU ho x1.size,x1.trans x2⟩
 | ret s=>
  dsimp only [aJ.val];refine vJ.2 (aP.2 ?_)
  (repeat (first|(with_reducible refine th (by first|exact bN|exact nO) ?_)|((with_reducible refine tm (by first|exact bN|exact fM|exact gG|exact iE|exact gP|exact gX) (by decide) ?_);intro _ _ _)))
  refine wV aEu rfl rfl λb w1 hb x1=>?_;exact ⟨World.ownsRow_nil _ _ _ _,x1⟩
 | branch c t=>
  dsimp only [aJ.val];refine vJ.2 (aP.2 ?_)
  (repeat (first|(with_reducible refine th (by first|exact bN|exact gX) ?_)|((with_reducible refine tm (by first|exact bN|exact gP) (by decide) ?_);intro _ _ _)))
  refine wV uA rfl rfl λb w1 hb x1=>?_;refine bC hb bU aG rfl ?_;refine bA.2 ?_;rw [hw];refine cH.2 (aB (λhne=>?_) λheq=>?_)
  ·refine bA.2 ?_;rw [hw];refine bC hb bU aG rfl ?_;refine jX bB [i64 (k+1),i64 t] rfl rfl (by simp) rfl λv w2 ho x2=>?_;have hu:aJ.nx (.branch c t) k=[k+1,t]:=by simp only [aJ.nx];rw [if_neg hne]
   rw [hu];exact ⟨aU ho x1.size,x1.trans x2⟩
  ·refine bA.2 ?_;rw [hw];refine jX bB [i64 (k+1)] rfl rfl (by simp) rfl λv w2 ho x2=>?_;have hu:aJ.nx (.branch c t) k=[k+1]:=by simp only [aJ.nx];rw [if_pos (by omega)]
   rw [hu];exact ⟨aU ho x1.size,x1.trans x2⟩
 | _=>
  dsimp only [aJ.val];refine vJ.2 (aP.2 ?_)
  (repeat (first|(with_reducible refine th bN ?_)|((with_reducible refine tm (by first|exact bN|exact fM|exact gG|exact iE|exact gP|exact gX|exact jL|exact jK|exact lC|exact lK|exact mD|exact nO) (by decide) ?_);intro _ _ _)))
  refine bA.2 ?_;rw [hw];refine jX (by first|exact bB) [i64 (k+1)] rfl rfl (by simp) rfl λv w2 ho x2=>?_;exact ⟨ho,x2⟩
theorem EE {n c:Int}:aC prog 65 #[i64 n,i64 c] w λr w'=>r=.bool (decide (0<=n/\n < c))/\w'=w:=by
 apply bGd;unfold ZK;refine kO.2 ?_;by_cases h:n>=0
 ·simp only [h,decide_true,pJ,reduceIte,aW,aV];have h':0<=n:=h;simp []
 ·simp only [h,decide_false,pJ,Bool.false_eq_true,reduceIte,aV];have h':¬ 0<=n:=h;simp []
def qT (op:Int):Int:=
 if op=27\/op=28 then 1 else if op=17\/op=18\/op=29 then 2 else if op=30\/op=36 then 3 else if op=31\/op=32 then 5 else -1
def VZ (op:Int):Prop:=(6<=op/\op<=14)\/(19<=op/\op<=21)
def aPu (op:Int):Prop:=op=15\/op=16\/op=26
def aJ.okF:aJ->Prop
 | .bin op _ _ _=>VZ op
 | .un op _ _=>aPu op
 | .getField _ f=>0<=f/\f < 8
 | .putField f _=>0<=f/\f < 8
 | .serve op _ _ _ l=>qT op=l.length
 | .call m _ l=>(0<=m/\m < 8)/\l.length<=4
 | .callX i _ l=>(0<=i/\i < 4)/\l.length<=4
 | _=>True
def aJ.bareN:aJ->Bool
 | .const _ _|.move _ _|.bin _ _ _ _|.un _ _ _|.choose _ _ _ _|.getField _ _=>false
 | _=>true
theorem aDl:aC prog 183 #[i64 op] w λr w'=>(∃ b,r=.bool b/\(b=true↔VZ op))/\w'=w:=by
 apply aWa
 have key:∀ R:Y->O->Prop,(∀ b:Bool,(b=true↔VZ op)->R (.bool b) w)->FE (i64 op) w R:=by
  intro R hR;unfold FE
  by_cases h1:op>=6<;>by_cases h2:op<=14<;>by_cases h3:op>=19<;>by_cases h4:op<=21 <;>
   simp only [h1,h2,h3,h4,rH,kO,lO,pK,tP,lG,rA,aV,reduceIte,Bool.false_eq_true,decide_true,decide_false]<;>exact hR _ (by simp [VZ];omega)
 exact key _ λb hb=>⟨⟨b,rfl,hb⟩,rfl⟩
theorem aEg:aC prog 184 #[i64 op] w λr w'=>(∃ b,r=.bool b/\(b=true↔aPu op))/\w'=w:=by
 apply aVz
 have key:∀ R:Y->O->Prop,(∀ b:Bool,(b=true↔aPu op)->R (.bool b) w)->FD (i64 op) w R:=by
  intro R hR;unfold FD
  rcases Bool.eq_false_or_eq_true (decide (op=15)) with e1|e1<;>rcases Bool.eq_false_or_eq_true (decide (op=16)) with e2|e2<;>rcases Bool.eq_false_or_eq_true (decide (op=26)) with e3|e3 <;>
   simp only [e1,e2,e3,aH,pK,tP,aV,reduceIte,Bool.false_eq_true]<;>exact hR _ (by simp at e1 e2 e3;simp [aPu];omega)
 exact key _ λb hb=>⟨⟨b,rfl,hb⟩,rfl⟩
theorem aBn:aC prog 185 #[i64 op] w λr w'=>r=i64 (qT op)/\w'=w:=by
 apply aVy;unfold OZ;refine ⟨λv w'=>v=.bool (decide (op=27\/op=28))/\w'=w,?_,?_⟩
 ·refine aH.2 (aB (λh=>?_) λh=>aH.2 ?_)<;>exact ⟨by simp [h],rfl⟩
 rintro _ w1 ⟨rfl,rfl⟩ _;refine aB (λh=>⟨by simp [qT,h],rfl⟩) λh1=>?_;refine ⟨λv w'=>v=.bool (decide (op=17\/op=18\/op=29))/\w'=w1,?_,?_⟩
 ·refine aH.2 (aB (λh=>?_) λh=>aH.2 (aB (λh'=>?_) λh'=>aH.2 ?_))
  ·exact ⟨by simp [h],rfl⟩
  ·exact ⟨by simp [h'],rfl⟩
  ·exact ⟨by simp [h,h'],rfl⟩
 rintro _ w2 ⟨rfl,rfl⟩ _;refine aB (λh=>⟨by simp [qT,h1,h],rfl⟩) λh2=>?_;refine ⟨λv w'=>v=.bool (decide (op=30\/op=36))/\w'=w2,?_,?_⟩
 ·refine aH.2 (aB (λh=>?_) λh=>aH.2 ?_)<;>exact ⟨by simp [h],rfl⟩
 rintro _ w3 ⟨rfl,rfl⟩ _;refine aB (λh=>⟨by simp [qT,h1,h2,h],rfl⟩) λh3=>?_;refine aH.2 (aB (λh=>?_) λh=>?_)
 ·exact aB (λ_=>⟨by subst h;rfl,rfl⟩) λh'=>absurd h h'
 refine aH.2 (aB (λh'=>?_) λh'=>?_)
 ·exact ⟨by subst h';rfl,rfl⟩
 ·exact ⟨by simp [qT,h1,h2,h3,h,h'],rfl⟩
theorem aCx {n:aJ} {v:Y} (h:jA w v n):aC prog 128 #[v] w λr w'=>(∃ b,r=.bool b/\(b=true↔n.okF))/\aE w w':=by
 obtain ⟨sv,rfl,hs⟩:=h;obtain ⟨sa,sc,rfl⟩:=hs.shape;apply aYe;unfold RA;cases n with
 | bin op _ _ _=>
  dsimp only [aJ.val];(repeat (first|(with_reducible refine th (by first|exact bN|exact fM) ?_)|((with_reducible refine tm bN (by decide) ?_);intro _ _ _)));refine wV uC rfl rfl λb w1 hb x1=>?_;refine bC hb cF aG rfl ?_;exact aDl.mono λr w2 ⟨h1,h2⟩=>⟨h1,h2▸x1⟩
 | un op _ _=>
  dsimp only [aJ.val];(repeat (first|(with_reducible refine th (by first|exact bN|exact gG) ?_)|((with_reducible refine tm (by first|exact bN|exact fM) (by decide) ?_);intro _ _ _)));refine wV vZ rfl rfl λb w1 hb x1=>?_;refine bC hb cE aG rfl ?_;exact aEg.mono λr w2 ⟨h1,h2⟩=>⟨h1,h2▸x1⟩
 | getField _ f|putField f _=>
  dsimp only [aJ.val];(repeat (first|(with_reducible refine th (by first|exact bN|exact fM|exact gG|exact iE|exact gP|exact gX|exact jL|exact jK) ?_)|((with_reducible refine tm (by first|exact bN|exact fM|exact gG|exact jL) (by decide) ?_);intro _ _ _)));refine wV (by first|exact zG|exact uC|exact vZ|exact vY|exact uB|exact uA|exact CR|exact zF) rfl rfl λb w1 hb x1=>?_;refine bC hb (by first|exact dB|exact dA|exact cF|exact cZ|exact cQ|exact cP|exact cE|exact cY|exact cX|exact cW|exact cO|exact cN|exact cM|exact bV|exact cV|exact bU|exact dI|exact cU|exact cT) (by first|exact gZ|exact gJ|exact gY|exact iR|exact kK|exact iQ|exact iP|exact iO|exact bF|exact jF|exact iN|exact dE|exact aG) rfl ?_;exact EE.mono λr w2 ⟨h1,h2⟩=>⟨⟨_,h1,by simp [aJ.okF]⟩,h2▸x1⟩
 | serve op _ _ _ l=>
  dsimp only [aJ.val];(repeat (first|(with_reducible refine th (by first|exact bN|exact lC) ?_)|((with_reducible refine tm (by first|exact bN|exact fM|exact gG|exact iE|exact gP|exact gX|exact jL|exact jK) (by decide) ?_);intro _ _ _)));refine wV JA rfl rfl λb w1 hb x1=>?_;refine aK.mk' (λw'=>aY w' b _) (hb.ext (aE.refl _).drew) ?_;refine aD.ok (λw' hw=>dG.ex w' b 0) ?_;refine aD.ok (λw' hw=>aFn (hw 0 _ rfl)) ?_;refine aD.ok (λw' hw=>dF.ex w' b 0) ?_;refine aD.ok (λw' hw=>VP (hw 4 _ rfl)) ?_;refine aD.ok (λw' hw=>xL underlying23) ?_;refine aBn.mono λr w2 ⟨h1,h2⟩=>?_;subst h1 h2;refine ⟨hb.ext (aE.refl _).drew,?_⟩;refine aD.ok (λw' hw=>zK) ?_;exact ⟨⟨_,rfl,decide_eq_true_iff⟩,x1.drew⟩
 | call m _ l|callX m _ l=>
  dsimp only [aJ.val];(repeat (first|(with_reducible refine th (by first|exact bN|exact fM|exact gG|exact iE|exact gP|exact gX|exact jL|exact jK|exact lC|exact lK|exact mD) ?_)|((with_reducible refine tm (by first|exact bN|exact fM|exact gG|exact iE|exact gP|exact gX|exact jL|exact jK|exact lC|exact lK) (by decide) ?_);intro _ _ _)));refine wV (by first|exact zG|exact uC|exact vZ|exact vY|exact uB|exact uA|exact CR|exact zF|exact JA|exact SK|exact SJ) rfl rfl λb w1 hb x1=>?_;refine bC hb (by first|exact dB|exact dA|exact cF|exact cZ|exact cQ|exact cP|exact cE|exact cY|exact cX|exact cW|exact cO|exact cN|exact cM|exact bV|exact cV|exact bU|exact dI|exact cU|exact cT|exact dH|exact dG|exact dL|exact dF|exact dK|exact eG) (by first|exact gZ|exact gJ|exact gY|exact iR|exact kK|exact iQ|exact iP|exact iO|exact bF|exact jF|exact iN|exact dE|exact aG) rfl ?_;refine EE.mono λr w2 ⟨h1,h2⟩=>?_;subst h1 h2;refine pJ.2 ?_;split
  ·rename_i hin
   refine V.ok (FA.ex (by first|exact dB|exact dA|exact cF|exact cZ|exact cQ|exact cP|exact cE|exact cY|exact cX|exact cW|exact cO|exact cN|exact cM|exact bV|exact cV|exact bU|exact dI|exact cU|exact cT|exact dH|exact dG|exact dL|exact dF|exact dK|exact dV|exact dU|exact eF) _ _ _) (pJ.2 ?_);rw [if_pos hin];refine V.ok (VP (hb 2 _ rfl)) (pJ.2 ?_);rw [if_pos hin];refine V.ok (xL underlying23) (pJ.2 ?_);rw [if_pos hin];refine rH.2 (jC ?_);rw [if_pos hin];have:=of_decide_eq_true hin;exact ⟨⟨_,rfl,decide_eq_true_iff.trans ⟨λh=>⟨this,by simp only [aJ.args] at h;omega⟩,λh=>by have:=h.2;simp only [aJ.args];omega⟩⟩,x1⟩
  ·rename_i hin
   refine pJ.2 ?_;rw [if_neg hin];refine pJ.2 ?_;rw [if_neg hin];refine pJ.2 ?_;rw [if_neg hin];refine jC ?_;rw [if_neg hin];exact ⟨⟨_,rfl,by simp [aJ.okF] at hin ⊢;omega⟩,x1⟩
 | _=>dsimp only [aJ.val];(repeat (first|(with_reducible refine th bN ?_)|((with_reducible refine tm (by first|exact bN|exact fM|exact gG|exact iE|exact gP|exact gX|exact jL|exact jK|exact lC|exact lK|exact mD) (by decide) ?_);intro _ _ _)));refine UT.2 ?_;exact ⟨⟨_,rfl,by simp [aJ.okF]⟩,aE.refl _⟩
theorem aRk {n:aJ} {v:Y} (h:jA w v n):aC prog 130 #[v] w λr w'=>r=.bool n.bareN/\w'=w:=by
 obtain ⟨sv,rfl,hs⟩:=h;apply aYc
 have key:∀ R:Y->O->Prop,R (.bool n.bareN) w->FI (n.val sv) w R:=by
  intro R hR;unfold FI;cases n<;>simp only [aJ.val,aRs,aJi,aJh,aJg,aJf,aJe,hU,hO,reduceIte,Nat.reduceEqDiff,aV,bJ,aP,Bool.false_eq_true]<;>exact hR
 exact key _ ⟨rfl,rfl⟩
structure pP (n:aJ) (k regs count:Int):Prop where
 f:n.okF
 u:∀ r∈n.us,0<=r/\r < regs
 t:∀ r∈n.nx k,0<=r/\r < count
 d:(0<=n.df/\n.df < regs)\/(n.df=-1/\n.bareN=true)
theorem aEy {nv:Y} {n:aJ} (hp:pQ w pv p) (hn:jA w nv n) (hl:n.args.length<=4294967296) (h0:0<=k) (h1:k<=1000000) :
  aC prog 66 #[pv,nv,i64 k] w λr w'=>(∃ b,r=.bool b/\(b=true↔pP n k p.regs p.nodes.length))/\aE w w':=by
 obtain ⟨ns,rfl,⟨vs,hs,_⟩,_⟩:=hp;apply bGc;unfold ZJ;refine bx λb w1 hb x1=>?_;refine (aCx (hn.ext x1)).mono λr w2 ⟨⟨bf,hr,hbf⟩,x2⟩=>?_;subst hr;refine dC.2 (aI.mk (λhf=>?_) λhf=>?_)
 ·refine ⟨⟨false,rfl,⟨(λh=>by cases h),λh=>?_⟩⟩,x1.trans x2⟩;have:=hbf.2 h.f;subst this;cases hf
 have hok:n.okF:=hbf.1 (by cases bf<;>simp_all);refine (IL (hn.ext (x1.trans x2)) hl).mono λul w3 ⟨hu',x3⟩=>?_;have hu:aN w3 ul n.us:=aA.of_own hu';clear hu';have X3:=x1.trans (x2.trans x3);have hb3:=hb.ext (x2.trans x3);have hlen:=aEf n;refine fQ aQ hu ?_
 refine ⟨λv w'=>∃ j:Nat,v=i64 j/\j<=n.us.length/\aE w3 w'/\∀ (i:Nat) u,i < j->n.us[i]?=some u->0<=u/\u < p.regs,λv _=>n.us.length - (RowKit.intOf v).toNat,
  ⟨0,rfl,by omega,aE.refl _,λi u hi=>by omega⟩,?_⟩
 rintro _ w4 ⟨j,rfl,hj,x4,hall⟩ _;refine aW.2 (aB (λhlt=>?_) λhge=>?_)
 ·have hlt':j < n.us.length:=by omega
  obtain ⟨u,hu'⟩:=bE hlt';refine lV aQ aG (hu.ext x4) (by omega) (by omega) (cK hu') ?_;refine bC (hb3.ext x4) gK aG rfl ?_;refine EE.mono λr w5 ⟨hr,hw⟩=>?_;subst hr hw;refine dC.2 (aI.mk (λhf=>?_) λhf=>?_)
  ·refine ⟨⟨false,rfl,⟨(λh=>by cases h),λh=>?_⟩⟩,X3.trans x4⟩;have:=h.u u (List.mem_of_getElem? hu');simp [this] at hf
  ·have hin:0<=u/\u < p.regs:=by simpa using hf
   refine kQ (by omega) ?_;refine ⟨⟨j+1,rfl,by omega,x4,λi u' hi hu2=>?_⟩,by simp only [aL];omega⟩;by_cases hij:i=j
   ·subst hij;rw [hu'] at hu2;cases hu2;exact hin
   ·exact hall i u' (by omega) hu2
 have hju:j=n.us.length:=by omega
 have hus:∀ r∈n.us,0<=r/\r < p.regs:=λr hr=>by
  obtain ⟨i,hi⟩:=List.getElem?_of_mem hr;exact hall i r (by have:=(List.getElem?_eq_some_iff.1 hi).1;omega) hi
 have X4:=X3.trans x4;have hb4:=hb3.ext x4;refine (WD (hn.ext X4) h0 h1).mono λtl w5 ⟨ht',x5⟩=>?_;have ht:aN w5 tl (n.nx k):=aA.of_own ht';clear ht';have X5:=X4.trans x5;have hb5:=hb4.ext x5;have hlen2:=aGd n k;refine fQ aQ ht ?_
 refine ⟨λv w'=>∃ j:Nat,v=i64 j/\j<=(n.nx k).length/\aE w5 w'/\∀ (i:Nat) u,i < j->(n.nx k)[i]?=some u->0<=u/\u < p.nodes.length,λv _=>(n.nx k).length - (RowKit.intOf v).toNat,
  ⟨0,rfl,by omega,aE.refl _,λi u hi=>by omega⟩,?_⟩
 rintro _ w6 ⟨j2,rfl,hj2,x6,hall2⟩ _;refine aW.2 (aB (λhlt=>?_) λhge2=>?_)
 ·have hlt':j2 < (n.nx k).length:=by omega
  obtain ⟨u,hu'⟩:=bE hlt';refine lV aQ aG (ht.ext x6) (by omega) (by omega) (cK hu') ?_;refine bC (hb5.ext x6) eI lF rfl ?_;refine fQ oX (hs.ext (X5.trans x6)) ?_;refine EE.mono λr w7 ⟨hr,hw⟩=>?_;subst hr hw;refine dC.2 (aI.mk (λhf=>?_) λhf=>?_)
  ·refine ⟨⟨false,rfl,⟨(λh=>by cases h),λh=>?_⟩⟩,X5.trans x6⟩;have:=h.t u (List.mem_of_getElem? hu');simp [this] at hf
  ·have hin:0<=u/\u < p.nodes.length:=by simpa using hf
   refine kQ (by omega) ?_;refine ⟨⟨j2+1,rfl,by omega,x6,λi u' hi hu2=>?_⟩,by simp only [aL];omega⟩;by_cases hij:i=j2
   ·subst hij;rw [hu'] at hu2;cases hu2;exact hin
   ·exact hall2 i u' (by omega) hu2
 have hns:∀ r∈n.nx k,0<=r/\r < p.nodes.length:=λr hr=>by
  obtain ⟨i,hi⟩:=List.getElem?_of_mem hr;exact hall2 i r (by have:=(List.getElem?_eq_some_iff.1 hi).1;omega) hi
 have X6:=X5.trans x6;have hb6:=hb5.ext x6;refine (KC (hn.ext X6)).mono λr w7 ⟨hr,x7⟩=>?_;subst hr;refine bC (hb6.ext x7) gK aG rfl ?_;refine EE.mono λr w8 ⟨hr,hw⟩=>?_;subst hr hw;have X7:=X6.trans x7;by_cases hd:0<=n.df/\n.df < p.regs
 ·simp only [decide_eq_true hd,tP,rA,aV,reduceIte];exact ⟨⟨true,rfl,⟨λ_=>⟨hok,hus,hns,.inl hd⟩,λ_=>rfl⟩⟩,X7⟩
 ·simp only [decide_eq_false hd,pK,aV,aH];by_cases hm:n.df=-1
  ·simp only [decide_eq_true hm,lO];refine (aRk (hn.ext X7)).mono λr w9 ⟨hr,hw⟩=>?_;subst hr hw;refine ⟨⟨n.bareN,by simp,⟨λhb=>⟨hok,hus,hns,.inr ⟨hm,hb⟩⟩,λh=>?_⟩⟩,X7⟩;rcases h.d with h|h
   ·exact absurd h hd
   ·exact h.2
  ·simp only [decide_eq_false hm,lG];refine ⟨⟨false,by simp,⟨(λh=>by cases h),λh=>?_⟩⟩,X7⟩;rcases h.d with h|h
   ·exact absurd h hd
   ·exact absurd h.1 hm
structure kT (p:fN):Prop where
 l1:1<=p.nodes.length
 l2:p.nodes.length<=250
 r1:0<=p.regs
 r2:p.regs<=40
 p1:0<=p.params
 p2:p.params<=4
 p3:p.params<=p.regs
 nodes:∀ (i:Nat) n,p.nodes[i]?=some n->pP n i p.regs p.nodes.length
theorem uN (hp:pQ w pv p) (hv:kT p) :
  aC prog 35 #[pv] w λr w'=>r=.bool true/\aE w w':=by
 obtain ⟨ns,rfl,hn,hargs⟩:=hp;have hn':=hn;obtain ⟨vs,hs,hvs⟩:=hn';obtain ⟨l1,l2,r1,r2,p1,p2,p3,hnodes⟩:=hv;apply bHc;unfold aAh;refine bx λb w1 hb x1=>?_;refine bC hb eI lF rfl (fQ oX (hs.ext x1) (aW.2 ?_));simp only [show decide ((p.nodes.length:Int) < 1)=false from by simp;omega,pK];refine bC hb eI lF rfl (fQ oX (hs.ext x1) (iH.2 ?_));simp only [show decide ((p.nodes.length:Int) > 250)=false from by simp;omega,aV,Bool.false_eq_true,reduceIte,pK];refine bC hb gK aG rfl ?_;refine EE.mono λr w5 ⟨hr,hw⟩=>?_;subst hr hw;simp only [show decide (0<=p.regs/\p.regs < 41)=true from by simp;omega,dC,Bool.not_true,aV,Bool.false_eq_true,reduceIte,pK];refine bC hb kY aG rfl ?_;refine EE.mono λr w5 ⟨hr,hw⟩=>?_;subst hr hw;simp only [show decide (0<=p.params/\p.params < 5)=true from by simp;omega,dC,Bool.not_true,aV,Bool.false_eq_true,reduceIte,pK];refine bC hb kY aG rfl (bC hb gK aG rfl (iH.2 ?_));simp only [show decide (p.params > p.regs)=false from by simp;omega,aP];refine bC hb eI lF rfl (fQ oX (hs.ext x1) ?_);refine ⟨λv w'=>∃ j:Nat,v=i64 j/\j<=p.nodes.length/\aE w5 w',λv _=>p.nodes.length - (RowKit.intOf v).toNat,⟨0,rfl,by omega,aE.refl _⟩,?_⟩;rintro _ w6 ⟨j,rfl,hj,x6⟩ _;refine aW.2 (aB (λhlt=>?_) λhge=>⟨trivial,x1.trans x6⟩)
 have hlt':j < p.nodes.length:=by omega
 obtain ⟨n,hn1⟩:=bE hlt';obtain ⟨u,hu,hnu⟩:=hvs j n hn1;have hb6:=hb.ext x6;refine lV oX DQ (hs.ext (x1.trans x6)) (by omega) (by omega) (by simpa using hu) ?_;refine iF hb6 qG rfl ?_;refine (aEy (p:=p) ⟨ns,rfl,hn.ext (x1.trans x6),hargs⟩ (hnu.ext (x1.trans x6)) (hargs n (List.mem_of_getElem? hn1)) (by omega) (by omega)).mono λr w7 ⟨⟨bb,hr,hbb⟩,x7⟩=>?_;subst hr;have:=hbb.2 (hnodes j n hn1);subst this;refine dC.2 (aP.2 (bA.2 ?_));rw [aM (by omega),bK];exact ⟨⟨j+1,rfl,by omega,x6.trans x7⟩,by simp only [aL];omega⟩
end Go.Proofs.YtjcmcfidblhnnaaGreatDoor
namespace Go.Proofs.YtjcmcfidblhnnaaGreatDoor
open Tryz
open Go.Vc Go.Tc
variable {i:iK} {m:jN} {x:kJ} {k:Nat}
def aJp (n:aJ):Prop:=n.okF/\(∀ r∈n.us,0<=r/\r < 18)/\((0<=n.df/\n.df < 18)\/(n.df=-1/\n.bareN=true))
theorem JB {h n:Nat} (h1:n<=h) (h2:h<=8):∀ r∈tS h n,0<=r/\r < 18:=λr hr=>by
 simp only [tS,List.mem_map,List.mem_range] at hr;obtain ⟨k,hk,rfl⟩:=hr;omega
theorem CU (h n:Nat):(tS h n).length=n:=by simp [tS]
theorem aGt {h:Nat} {n:aJ} (ox:BE i m x) (h8:h<=8) (ha:(aT i m x).length<=h) (hg:h - (aT i m x).length+hgt i m x<=8) (hn:jH i m x h=some n):aJp n:=by
 have xr:=ox.xr;have hop:=xr.1;have hl:=xr.2.1;have hu:=xr.2.2.1;have nm:=ox.nm;have pl:=ox.mr.1.2;have ll:=ox.mr.2.2.1.2;have fl:=ox.ir.1.2;have locl:m.locs.length<=10:=by simp [jN.locs];omega
 unfold jH at hn;by_cases d0:x.op=1
 ·rw [if_pos d0] at hn;cases hn;have e1:hgt i m x=1:=by simp [hgt,iX,d0]
  have e2:aT i m x=[]:=by simp [aT,d0,kH]
  rw [e1,e2] at hg;exact ⟨trivial,by simp [aJ.us],.inl (by simp only [aJ.df];simp at hg;omega)⟩
 rw [if_neg d0] at hn;by_cases d1:x.op=2
 ·rw [if_pos d1] at hn;cases hn;have e1:hgt i m x=1:=by simp [hgt,iX,d1]
  have e2:aT i m x=[]:=by simp [aT,d1,kH]
  rw [e1,e2] at hg;simp only [fD,d1,true_or,if_true] at nm;simp [lim,d1] at hl hu;exact ⟨trivial,by simp [aJ.us];omega,.inl (by simp only [aJ.df];simp at hg;omega)⟩
 rw [if_neg d1] at hn;by_cases d2:x.op=3
 ·rw [if_pos d2] at hn;cases hn;have e2:(aT i m x).length=1:=by simp [aT,d2]
  simp [lim,d2] at hl hu;exact ⟨trivial,by simp [aJ.us];omega,.inl (by simp only [aJ.df];omega)⟩
 rw [if_neg d2] at hn;by_cases d3:x.op=4
 ·rw [if_pos d3] at hn;cases hn
 rw [if_neg d3] at hn;by_cases d4:x.op=5
 ·rw [if_pos d4] at hn;cases hn;have e1:hgt i m x=2:=by simp [hgt,iX,d4]
  have e2:(aT i m x).length=1:=by simp [aT,d4]
  rw [e1,e2] at hg;exact ⟨trivial,by simp [aJ.us];omega,.inl (by simp only [aJ.df];omega)⟩
 rw [if_neg d4] at hn;by_cases d5:x.op=15\/x.op=16\/x.op=26
 ·rw [if_pos d5] at hn;cases hn;have e2:(aT i m x).length=1:=by rcases d5 with d5|d5|d5<;>simp [aT,d5,kH]
  exact ⟨d5,by simp [aJ.us];omega,.inl (by simp only [aJ.df];omega)⟩
 rw [if_neg d5] at hn;by_cases d6:x.op=22
 ·rw [if_pos d6] at hn;cases hn;have e2:(aT i m x).length=3:=by simp [aT,d6,kH]
  exact ⟨trivial,by simp [aJ.us];omega,.inl (by simp only [aJ.df];omega)⟩
 rw [if_neg d6] at hn;by_cases c1:x.op=23
 ·rw [if_pos c1] at hn;cases hn;exact ⟨trivial,by simp [aJ.us],.inr ⟨rfl,rfl⟩⟩
 rw [if_neg c1] at hn;by_cases c2:x.op=24
 ·rw [if_pos c2] at hn;cases hn;have e2:(aT i m x).length=1:=by simp [aT,c2,kH]
  exact ⟨trivial,by simp [aJ.us];omega,.inr ⟨rfl,rfl⟩⟩
 rw [if_neg c2] at hn;by_cases d9:x.op=25
 ·rw [if_pos d9] at hn;cases hn;have e1:hgt i m x=1:=by simp [hgt,iX,d9,kH]
  have e2:aT i m x=[]:=by simp [aT,d9,kH]
  rw [e1,e2] at hg;exact ⟨trivial,by simp [aJ.us],.inl (by simp only [aJ.df];simp at hg;omega)⟩
 rw [if_neg d9] at hn;by_cases d10:x.op=35
 ·rw [if_pos d10] at hn;cases hn;have e1:hgt i m x=1:=by simp [hgt,iX,d10,kH]
  have e2:aT i m x=[]:=by simp [aT,d10,kH]
  rw [e1,e2] at hg;exact ⟨trivial,by simp [aJ.us],.inl (by simp only [aJ.df];simp at hg;omega)⟩
 rw [if_neg d10] at hn;by_cases d11:x.op=33
 ·rw [if_pos d11] at hn;cases hn;have e1:hgt i m x=1:=by simp [hgt,iX,d11]
  have e2:aT i m x=[]:=by simp [aT,d11,kH]
  rw [e1,e2] at hg;simp [lim,d11] at hl hu;exact ⟨⟨by omega,by omega⟩,by simp [aJ.us],.inl (by simp only [aJ.df];simp at hg;omega)⟩
 rw [if_neg d11] at hn;by_cases d12:x.op=34
 ·rw [if_pos d12] at hn;cases hn;have e2:(aT i m x).length=1:=by simp [aT,d12]
  simp [lim,d12] at hl hu;exact ⟨⟨by omega,by omega⟩,by simp [aJ.us];omega,.inr ⟨rfl,rfl⟩⟩
 rw [if_neg d12] at hn
 have res:∀ {r:Int} {q:Nat},q<=h->h - q+(mL r).length<=8->(0<=CZ r ((h:Int) - (q:Nat))/\CZ r ((h:Int) - (q:Nat)) < 18)\/CZ r ((h:Int) - (q:Nat))=-1:=λ{r q} hq hr=>by
  unfold CZ mL at *;by_cases h0:r=0
  ·rw [if_pos h0];exact .inr rfl
  ·rw [if_neg h0] at hr ⊢;simp at hr;exact .inl (by omega)
 by_cases d13:x.op=37
 ·rw [if_pos d13] at hn;cases hn;have e1:hgt i m x=(mL (i.meth x.a).result).length:=by simp [hgt,iX,d13,kH]
  have e2:aT i m x=(i.meth x.a).params:=by simp [aT,d13,kH]
  rw [e2] at ha hg;rw [e1] at hg;simp [lim,d13] at hl hu;simp [fD,d13] at nm;have hp:=(ox.ir.2.2.1.2.1 _ (iK.meth_mem hl nm)).1.2;refine ⟨⟨⟨by omega,by omega⟩,by rw [CU];omega⟩,λr hr=>JB ha h8 r hr,?_⟩;rcases res ha hg with h1|h1
  ·exact .inl h1
  ·exact .inr ⟨h1,rfl⟩
 rw [if_neg d13] at hn;by_cases d14:x.op=38
 ·rw [if_pos d14] at hn;cases hn;have e1:hgt i m x=(mL (i.imp x.a).result).length:=by simp [hgt,iX,d14,kH]
  have e2:aT i m x=(i.imp x.a).params:=by simp [aT,d14,kH]
  rw [e2] at ha hg;rw [e1] at hg;simp [lim,d14] at hl hu;simp [fD,d14] at nm;have hp:=(ox.ir.2.1.2 _ (iK.imp_mem hl nm)).2.1.2;refine ⟨⟨⟨by omega,by omega⟩,by rw [CU];omega⟩,λr hr=>JB ha h8 r hr,?_⟩;rcases res ha hg with h1|h1
  ·exact .inl h1
  ·exact .inr ⟨h1,rfl⟩
 rw [if_neg d14] at hn;by_cases d15:x.op=39
 ·rw [if_pos d15] at hn;cases hn;have e2:aT i m x=mL m.result:=by simp [aT,d15,kH]
  rw [e2] at ha;refine ⟨trivial,λr hr=>?_,.inr ⟨rfl,rfl⟩⟩;simp only [aJ.us] at hr;split at hr
  ·simp at hr
  ·rename_i hne
   simp only [List.mem_singleton] at hr;unfold CZ at hr hne;unfold mL at ha;by_cases h0:m.result=0
   ·rw [if_pos h0] at hne;exact absurd rfl hne
   ·rw [if_neg h0] at hr ha;simp at ha;omega
 rw [if_neg d15] at hn;by_cases d16:(mK x.op).1≠0
 ·rw [if_pos d16] at hn;cases hn
  have e0:x.op=27\/x.op=28\/x.op=17\/x.op=18\/x.op=29\/x.op=30\/x.op=36\/x.op=31\/x.op=32:=by
   apply Classical.byContradiction;intro hne;apply d16;simp only [mK];rw [if_neg (by omega),if_neg (by omega),if_neg (by omega),if_neg (by omega),if_neg (by omega)]
  rcases e0 with e|e|e|e|e|e|e|e|e <;>
   (have e1:(aT i m x).length=(mK x.op).1.toNat:=by simp [aT,mK,e,kH]
    have e2:hgt i m x=if (mK x.op).2 then 1 else 0:=by first|(simp [hgt,iX,mK,e,kH];done)|(simp [hgt,iX,mK,e,kH];split<;>rfl)
    simp [mK,e] at e1 e2;refine ⟨by simp [aJ.okF,qT,CU,mK,e],λr hr=>JB (n:=(mK x.op).1.toNat) (by simp [mK,e];omega) h8 r hr,?_⟩;simp [aJ.df,aJ.bareN,mK,e]
    try omega)
 ·rw [if_neg d16] at hn;cases hn
  have e0:kH x.op:=by
   have d16':(mK x.op).1=0:=by simpa using d16
   unfold kH;simp only [mK] at d16'
   repeat' (split at d16'<;>first|(simp at d16';done)|skip)
   omega
  have e2:(aT i m x).length=2:=by
   unfold aT;rw [if_neg (by omega),if_neg (by omega),if_neg (by omega),if_neg (by omega),if_pos e0];rfl
  exact ⟨e0,by simp [aJ.us];omega,.inl (by simp only [aJ.df];omega)⟩
def aJ.falls:aJ->Bool
 | .goto _|.ret _=>false
 | _=>true
theorem MB {h:Nat} {n:aJ} (hn:jH i m x h=some n) (hf:n.falls=true):((k:Int)+1)∈fO x k:=by
 by_cases c1:x.op=23
 ·have:n=.goto x.a:=by simp [jH,c1] at hn;exact hn.symm
  subst this;cases hf
 by_cases c2:x.op=39
 ·have:n=.ret (CZ m.result ((h:Int) - 1)):=by simp [jH,c2] at hn;exact hn.symm
  subst this;cases hf
 unfold fO;rw [if_neg c1];by_cases c3:x.op=24
 ·rw [if_pos c3];exact List.mem_cons_self
 ·rw [if_neg c3,if_neg c2];exact List.mem_singleton.2 rfl
theorem TF {h:Nat} (ho:jH i m x h=none):x.op=4:=by
 apply Classical.byContradiction;intro hne;unfold jH at ho
 iterate 17 (rcases aHi ho with ⟨hc,ho⟩|⟨_,ho⟩;· (first|(cases ho;done)|exact absurd hc hne))
 cases ho
theorem TG {h:Nat} {t:Int} (hn:jH i m x h=some (.goto t)):x.op=23/\t=x.a:=by
 unfold jH at hn
 iterate 17 (rcases DT hn with ⟨hc,hn⟩|⟨_,hn⟩;· (first|(cases hn;done)|(cases hn;exact ⟨hc,rfl⟩)))
 cases hn
theorem JM {h:Nat} {q t:Int} (hn:jH i m x h=some (.branch q t)):x.op=24/\t=x.a:=by
 unfold jH at hn
 iterate 17 (rcases DT hn with ⟨hc,hn⟩|⟨_,hn⟩;· (first|(cases hn;done)|(cases hn;exact ⟨hc,rfl⟩)))
 cases hn
theorem HA {i:iK} {m:jN} {st:St} {r:List Bool} (R:KT i m st [] r):∀ k,∀ (a:Nat) (n:aJ),(bG i m st r k).1[a]?=some n->n.falls=true->a+1 < (bG i m st r k).1.length\/(a+1=(bG i m st r k).1.length/\r.getD k false=true)
 | 0,a,n,h,_=>by
  have hlt:=(List.getElem?_eq_some_iff.1 h).1;have hz:r.getD 0 false=true:=by rcases R.z with hz|hz;exact hz;cases hz
  by_cases h1:a+1 < (bG i m st r 0).1.length
  ·exact .inl h1
  ·exact .inr ⟨by omega,hz⟩
 | k+1,a,n,h,hf=>by
  have ih:=HA R k;cases hk:r.getD k false with
  | false=>
   have e:(bG i m st r (k+1)).1=(bG i m st r k).1:=by simp only [bG,hk];rfl
   rw [e] at h ⊢;rcases ih a n h hf with h1|⟨_,h1⟩
   ·exact .inl h1
   ·rw [hk] at h1;cases h1
  | true=>
   have e:(bG i m st r (k+1)).1=(bG i m st r k).1++.tick::(jH i m (m.ins k) (st.s k).length).toList:=by simp only [bG,hk];rfl
   have next:((k:Int)+1)∈fO (m.ins k) k->r.getD (k+1) false=true:=λhm=>by
    rcases R.cl k hk _ hm with h1|h1
    ·rwa [show ((k:Int)+1).toNat=k+1 by omega] at h1
    ·cases h1
   rw [e] at h ⊢;rw [List.getElem?_append] at h;split at h
   ·left;simp;omega
   ·rename_i hge
    have hlt:=(List.getElem?_eq_some_iff.1 h).1;cases ho:jH i m (m.ins k) (st.s k).length with
    | none=>
     rw [ho] at hlt;simp at hlt;right;refine ⟨by simp;omega,next ?_⟩;have h4:(m.ins k).op=4:=TF ho;simp [fO,h4]
    | some y=>
     rw [ho] at hlt h;simp at hlt;by_cases ha:a=(bG i m st r k).1.length
     ·left;simp;omega
     ·right;have ea:a - (bG i m st r k).1.length=1:=by omega
      rw [ea] at h;simp at h;subst h;exact ⟨by simp;omega,next (MB ho hf)⟩
theorem xW {i:iK} {m:jN} {st:St} {r:List Bool}:∀ (k pc:Nat),pc < k->r.getD pc false=true->∃ t:Nat,(bG i m st r k).2[pc]?=some (t:Int)/\t < (bG i m st r k).1.length
 | k+1,pc,h,hr=>by
  have hl:=(uG i m st r k).2.1;by_cases hpk:pc=k
  ·subst hpk;have e:bG i m st r (pc+1)=((bG i m st r pc).1++.tick::(jH i m (m.ins pc) (st.s pc).length).toList,(bG i m st r pc).2++[((bG i m st r pc).1.length:Int)]):=by simp only [bG,hr];rfl
   rw [e];exact ⟨(bG i m st r pc).1.length,by rw [List.getElem?_append_right (by omega),hl];simp,by simp⟩
  ·obtain ⟨t,h1,h2⟩:=xW (i:=i) (m:=m) (st:=st) (r:=r) k pc (by omega) hr;cases hk:r.getD k false with
   | false=>
    have e:bG i m st r (k+1)=((bG i m st r k).1,(bG i m st r k).2++[-1]):=by simp only [bG,hk];rfl
    rw [e];exact ⟨t,by rw [List.getElem?_append_left (by omega)];exact h1,h2⟩
   | true=>
    have e:bG i m st r (k+1)=((bG i m st r k).1++.tick::(jH i m (m.ins k) (st.s k).length).toList,(bG i m st r k).2++[((bG i m st r k).1.length:Int)]):=by simp only [bG,hk];rfl
    rw [e];exact ⟨t,by rw [List.getElem?_append_left (by omega)];exact h1,by simp;omega⟩
theorem GY {i:iK} {m:jN} {st:St} {r:List Bool} (hox:∀ x∈m.code,BE i m x) (hwf:WF m st) (hled:∀ k,st.h k=true->Led i m st k) (R:KT i m st [] r):∀ k,k<=m.code.length->∀ n∈(bG i m st r k).1,aJp n/\(match n with|.goto t|.branch _ t=>r.getD t.toNat false=true|_=>True)
 | 0,_,n,h=>by
  simp only [bG,List.mem_map,List.mem_range] at h;obtain ⟨j,hj,rfl⟩:=h
  have mr:m.right\/m.code.length=0:=by
   by_cases h0:m.code.length=0
   ·exact .inr h0
   ·obtain ⟨x,hx⟩:=bE (l:=m.code) (j:=0) (by omega);exact .inl (hox x (List.mem_of_getElem? hx)).mr
  have hz:r.getD 0 false=true:=by rcases R.z with hz|hz;exact hz;cases hz
  have h0:0 < r.length:=tF hz;have hrl:=R.rl;rcases mr with mr|mr
  ·have pl:=mr.1.2;have ll:=mr.2.2.1.2;exact ⟨⟨trivial,by simp [aJ.us],.inl (by simp only [aJ.df];omega)⟩,trivial⟩
  ·omega
 | k+1,hk1,n,h=>by
  have ih:=GY hox hwf hled R k (by omega);cases hk:r.getD k false with
  | false=>
   have e:(bG i m st r (k+1)).1=(bG i m st r k).1:=by simp only [bG,hk];rfl
   rw [e] at h;exact ih n h
  | true=>
   have e:(bG i m st r (k+1)).1=(bG i m st r k).1++.tick::(jH i m (m.ins k) (st.s k).length).toList:=by simp only [bG,hk];rfl
   rw [e] at h;rcases List.mem_append.1 h with h|h
   ·exact ih n h
   ·rcases List.mem_cons.1 h with h|h
    ·subst h;exact ⟨⟨trivial,by simp [aJ.us],.inr ⟨rfl,rfl⟩⟩,trivial⟩
    ·have hn:jH i m (m.ins k) (st.s k).length=some n:=by simpa using h
     have hh:=R.rs k hk;obtain ⟨out,hdo,_⟩:=hled k hh;obtain ⟨hkd,hl8⟩:=hwf.kd k hh;have ox:=hox _ (WK (m:=m) (k:=k) (by omega));obtain ⟨_,ho8,hask,hlen⟩:=ES ox hkd hdo;refine ⟨aGt ox hl8 hask (by omega) hn,?_⟩
     have jmp:∀ t,t∈fO (m.ins k) k->r.getD t.toNat false=true:=λt ht=>by
      rcases R.cl k hk t ht with h1|h1
      ·exact h1
      ·cases h1
     cases n with
     | goto t=>
      obtain ⟨e1,rfl⟩:=TG hn;exact jmp _ (by simp [fO,e1])
     | branch q t=>
      obtain ⟨e1,rfl⟩:=JM hn;exact jmp _ (by simp [fO,e1])
     | _=>trivial
theorem uF {st:St} {r:List Bool} (ht:mU i) (hk:k < i.methods.length) (hw:rY i (i.meth k) (some st)) (R:KT i (i.meth k) st [] r):kT ⟨(i.meth k).params.length,18,oI i (i.meth k) st r⟩:=by
 have hmi:=fY (i:=i) (a:=(k:Int)) (by omega) (by omega);rw [Int.toNat_natCast] at hmi;have ir:=ht.1;have mr:(i.meth k).right:=ir.2.2.1.2.1 _ (List.mem_of_getElem? hmi);obtain ⟨hox,hwf,hh0,hs0,hled⟩:=hw.led ir mr;generalize hmm:i.meth k=m at *;have pl:=mr.1.2;have ll:=mr.2.2.1.2;have lc:=mr.2.2.2.1.2;obtain ⟨c1,c2,c3,c4⟩:=AL i m st r;have hz:r.getD 0 false=true:=by rcases R.z with hz|hz;exact hz;cases hz
 have hl0:0 < m.code.length:=by have:=tF hz;have:=R.rl;omega
 obtain ⟨t0,ht0,htl⟩:=xW (i:=i) (m:=m) (st:=st) (r:=r) m.code.length 0 hl0 hz;have hlen:(oI i m st r).length=(bG i m st r m.code.length).1.length:=by simp [oI]
 refine ⟨by dsimp only;omega,by dsimp only;omega,by dsimp only;decide,by dsimp only;decide,by dsimp only;omega,by dsimp only;omega,by dsimp only;omega,λa n hn=>?_⟩;have hn:(oI i m st r)[a]?=some n:=hn;have hn':=hn;rw [show oI i m st r=(bG i m st r m.code.length).1.map (yQ (bG i m st r m.code.length).2) from rfl,List.getElem?_map,Option.map_eq_some_iff] at hn';obtain ⟨y,hy,rfl⟩:=hn';obtain ⟨⟨o1,o2,o3⟩,o4⟩:=GY hox hwf hled R m.code.length (Nat.le_refl _) y (List.mem_of_getElem? hy)
 have hcend:r.getD m.code.length false=false:=by
  cases hc:r.getD m.code.length false with
  | false=>rfl
  | true=>have:=tF hc;have:=R.rl;omega
 have fall:y.falls=true->(a:Int)+1 < ((oI i m st r).length:Int):=λhf=>by
  rcases HA R m.code.length a y hy hf with h1|⟨_,h1⟩
  ·omega
  ·rw [hcend] at h1;cases h1
 have aim:∀ t:Int,r.getD t.toNat false=true->0<=cI (bG i m st r m.code.length).2 t.toNat/\cI (bG i m st r m.code.length).2 t.toNat < ((oI i m st r).length:Int):=λt hr=>by
  have:=tF hr;have:=R.rl;obtain ⟨q,h1,h2⟩:=xW (i:=i) (m:=m) (st:=st) (r:=r) m.code.length t.toNat (by omega) hr
  have e:cI (bG i m st r m.code.length).2 t.toNat=(q:Int):=by
   unfold cI;rw [List.getD_eq_getElem?_getD,h1];rfl
  rw [e];omega
 refine ⟨?_,?_,?_,?_⟩
 ·cases y<;>exact o1
 ·cases y<;>exact o2
 ·intro t htn;cases y with
  | goto to=>
   have htn:t∈[cI (bG i m st r m.code.length).2 to.toNat]:=htn;rw [List.mem_singleton] at htn;subst htn;exact aim to o4
  | branch q to=>
   have hA:=aim to o4;have hF:=fall rfl;simp only [yQ,aJ.nx] at htn;split at htn
   ·rw [List.mem_singleton] at htn;subst htn;exact ⟨by omega,hF⟩
   ·rcases List.mem_cons.1 htn with h1|h1
    ·subst h1;exact ⟨by omega,hF⟩
    ·rw [List.mem_singleton] at h1;subst h1;exact hA
  | ret s=>simp [yQ,aJ.nx] at htn
  | _=>
   have hF:=fall rfl;simp only [yQ,aJ.nx,List.mem_singleton] at htn;subst htn;exact ⟨by omega,hF⟩
 ·cases y<;>exact o3
end Go.Proofs.YtjcmcfidblhnnaaGreatDoor
namespace Go.Proofs.YtjcmcfidblhnnaaGreatDoor
open Tryz
open Go.Vc
variable {bs:List Bool} {w w0:O} {N R g0 k n' r:Nat} {gs:List Nat} {cs:List Y} {f:Bool} {pv:Y} {applet d m n op reg:Int}
def AM (d:Int) (bs:List Bool):List Bool:=if 0<=d then bs.set d.toNat false else bs
def uP (n:aJ) (bs:List Bool):List Bool:=n.us.foldl (λa r=>a.set r.toNat true) (AM n.df bs)
theorem HE (d:Int) (bs:List Bool):(AM d bs).length=bs.length:=by unfold AM;split<;>simp
theorem MT (l:List Int) (bs:List Bool):(l.foldl (λa r=>a.set r.toNat true) bs).length=bs.length:=by
 induction l generalizing bs with
 | nil=>rfl
 | cons x l ih=>simp [ih]
theorem wS (n:aJ) (bs:List Bool):(uP n bs).length=bs.length:=by unfold uP;rw [MT,HE]
theorem nW (bs:List Bool) (i:Nat) (b:Bool):(bs.map Value.bool).set i (.bool b)=(bs.set i b).map Value.bool:=by rw [List.map_set]
theorem NH {n:aJ} {nv bv:Y} (hn:jA w nv n) (hb:gF w bv bs) (hl:n.args.length<=4294967296) (hbl:bs.length<=4294967296)
  (hd:n.df < bs.length) (hu:∀ r∈n.us,0<=r/\r < bs.length) :
  aC prog 136 #[nv,bv] w λr w'=>w'.ownsRow w.heap.size 4 1 r bs.length ((uP n bs).map Value.bool)/\aE w w':=by
 apply aXx;unfold QU;refine (UJ hb hbl).mono λov w1 ⟨ho,x1⟩=>?_;refine ⟨λw'=>w'.ownsRow w.heap.size 4 1 ov bs.length ((AM n.df bs).map Value.bool)/\aE w w',?_,?_⟩
 ·refine (KC (hn.ext x1)).mono λr w2 ⟨hr,x2⟩=>?_;subst hr;refine kO.2 (aB (λhge=>?_) λhlt=>?_)
  ·have hge':0<=n.df:=hge;refine stO hY kS (x2.own ho) hge' hd rfl λw3 ho3 hg=>?_;rw [nW] at ho3;refine ⟨?_,(x1.trans x2).grown hg λk hk=>((x2.own ho).lt k hk).1⟩;unfold AM;rw [if_pos hge'];exact ho3
  ·refine ⟨?_,x1.trans x2⟩;unfold AM;rw [if_neg (by simpa using hlt)];exact x2.own ho
 rintro w2 ⟨ho2,x2⟩ _;refine (IL (hn.ext x2) hl).mono λul w3 ⟨hus,x3⟩=>?_;have hlen:=aEf n;have hov:∀ k,ov.ownBlock=some k->k < w2.heap.size:=λk hk=>(ho2.lt k hk).2;refine fQ aQ (aA.of_own hus) ?_
 refine ⟨λv w'=>∃ j:Nat,v=i64 j/\j<=n.us.length/\aE w w'/\w'.ownsRow w2.heap.size 3 1 ul n.us.length (n.us.map i64)/\w'.ownsRow w.heap.size 4 1 ov bs.length (((n.us.take j).foldl (λa r=>a.set r.toNat true) (AM n.df bs)).map Value.bool),
  λv _=>n.us.length - (RowKit.intOf v).toNat,⟨0,rfl,by omega,x2.trans x3,hus,by simpa using x3.own ho2⟩,?_⟩
 rintro _ w4 ⟨j,rfl,hj,x4,hus4,ho4⟩ _;refine aW.2 (aB (λhlt=>?_) λhge=>?_)
 ·have hlt':j < n.us.length:=by omega
  obtain ⟨u,hu'⟩:=bE hlt';obtain ⟨hu0,hu1⟩:=hu u (List.mem_of_getElem? hu');refine JN aQ aG hus4 (by omega) (by omega) (cK hu') ?_;refine stO hY kS ho4 hu0 (by omega) rfl λw5 ho5 hg=>?_;refine kQ (by omega) ?_;rw [nW] at ho5;refine ⟨⟨j+1,rfl,by omega,x4.grown hg λk hk=>(ho4.lt k hk).1,hus4.kept hg (SU hus4 hov),?_⟩,by simp only [aL];omega⟩;rw [List.take_add_one,hu'];simpa using ho5
 ·have hju:j=n.us.length:=by omega
  subst hju;rw [List.take_length] at ho4;exact ⟨ho4,x4⟩
def fN.at' (p:fN) (k:Nat):aJ:=p.nodes.getD k .tick
inductive oB (p:fN):Nat->Nat->Prop
 | use {k to r:Nat}:(to:Int)∈(p.at' k).nx k->(r:Int)∈(p.at' to).us->oB p k r
 | pass {k to r:Nat}:(to:Int)∈(p.at' k).nx k->(r:Int)≠(p.at' to).df->oB p to r->oB p k r
def uV (p:fN) (m:Nat->Nat->Prop) (to r:Nat):Prop:=(r:Int)∈(p.at' to).us\/((r:Int)≠(p.at' to).df/\m to r)
abbrev Mx:=Nat->Nat->Bool
def sU (m:Mx) (k r:Nat) (b:Bool):Mx:=λk' r'=>if k'=k/\r'=r then b else m k' r'
theorem aBg (m:Mx) (k r:Nat):sU m k r (m k r)=m:=by
 funext k' r';unfold sU;split
 ·rename_i h;rw [h.1,h.2]
 ·rfl
def mV (m:Mx) (k R:Nat):List Bool:=(List.range R).map (m k)
theorem gR (m:Mx) (k R:Nat):(mV m k R).length=R:=by simp [mV]
theorem lW {m:Mx} (h:r < R):(mV m k R)[r]?=some (m k r):=by simp [mV,h]
theorem LF (m:Mx) (k r R:Nat) (b:Bool):mV (sU m k r b) k R=(mV m k R).set r b:=by
 apply List.ext_getElem?;intro j;by_cases hj:j < R
 ·rw [lW hj,List.getElem?_set];by_cases hr:r=j
  ·subst hr;simp [sU,mV,hj]
  ·have:¬ j=r:=λh=>hr h.symm;simp [sU,this,hr,lW hj]
 ·simp [mV,hj]
theorem CV {m:Mx} {k':Nat} {b:Bool} (h:k'≠k):mV (sU m k r b) k' R=mV m k' R:=by
 unfold mV;apply List.map_congr_left;intro j _;simp [sU,h]
def EU (f:Nat->Bool):Nat->Nat
 | 0=>0
 | n+1=>EU f n+if f n then 0 else 1
def wN (m:Mx) (R:Nat):Nat->Nat
 | 0=>0
 | n+1=>wN m R n+EU (m n) R
theorem BV {f g:Nat->Bool} (h:∀ j,f j=true->g j=true):∀ n,EU g n<=EU f n
 | 0=>Nat.le_refl _
 | n+1=>by
  have:=BV h n;unfold EU;have hj:=h n;cases hf:f n<;>cases hg:g n<;>simp [hf,hg] at hj ⊢<;>omega
theorem XI {f g:Nat->Bool} (h:∀ j,f j=true->g j=true) {i:Nat} (hf:f i=false) (hg:g i=true):∀ n,i < n->EU g n < EU f n
 | 0,hi=>by omega
 | n+1,hi=>by
  unfold EU;by_cases he:i=n
  ·subst he;have:=BV h i;simp [hf,hg];omega
  ·have:=XI h hf hg n (by omega);have hj:=h n;cases h1:f n<;>cases h2:g n<;>simp [h1,h2] at hj ⊢<;>omega
theorem KE {m m':Mx} (h:∀ k r,m k r=true->m' k r=true) (R:Nat):∀ n,wN m' R n<=wN m R n
 | 0=>Nat.le_refl _
 | n+1=>by
  have h1:=KE h R n;have h2:=BV (h n) R;unfold wN;omega
theorem XJ {m m':Mx} (h:∀ k r,m k r=true->m' k r=true) {R k r:Nat} (hr:r < R) (hf:m k r=false) (hg:m' k r=true):∀ n,k < n->wN m' R n < wN m R n
 | 0,hi=>by omega
 | n+1,hi=>by
  unfold wN;have h2:=BV (h n) R;by_cases he:k=n
  ·subst he;have h1:=KE h R k;have:=XI (h k) hf hg R hr;omega
  ·have:=XJ h hr hf hg n (by omega);omega
theorem MU (l:List Int):∀ (bs:List Bool) (r:Nat),r < bs.length->(∀ x∈l,0<=x)->(l.foldl (λa r=>a.set r.toNat true) bs)[r]?=some (decide ((r:Int)∈l)||bs.getD r false):=by
 induction l with
 | nil=>intro bs r h _;simp [h]
 | cons x l ih=>
  intro bs r h h0;rw [List.foldl_cons,ih (bs.set x.toNat true) r (by simpa using h) (λy hy=>h0 y (by simp [hy]))];have hx:=h0 x (by simp);by_cases hr:x.toNat=r
  ·have:(r:Int)=x:=by omega
   simp [hr,this,h]
  ·have:¬ (r:Int)=x:=by omega
   simp [List.getD_eq_getElem?_getD,hr,this]
theorem FB {n:aJ} (h:r < bs.length) (h0:∀ x∈n.us,0<=x) :
  (uP n bs)[r]?=some (decide ((r:Int)∈n.us)||(decide ((r:Int)≠n.df)&&bs.getD r false)):=by
 unfold uP;rw [MU _ _ _ (by rw [HE];exact h) h0]
 congr 2
 unfold AM;split
 ·rename_i hd
  by_cases hr:n.df.toNat=r
  ·have:(r:Int)=n.df:=by omega
   simp [hr,this,h]
  ·have:¬ (r:Int)=n.df:=by omega
   simp [List.getD_eq_getElem?_getD,hr,this]
 ·rename_i hd
  have:¬ (r:Int)=n.df:=by omega
  simp [this]
def sl (R g:Nat):Y:=.slice (some ⟨g,0,none⟩) R R
structure St (w0 w:O) (b:Nat) (cs:List Y) (g0:Nat) (gs:List Nat) (R:Nat) (m:Mx):Prop where
 x:aE w0 w
 box:aY w b cs
 lo:w0.heap.size<=g0
 bg:b < g0
 gg:∀ g∈gs,g0 < g
 nd:gs.Nodup
 out:bO w g0 (gs.map (sl R)) 95
 rows:∀ (k g:Nat),gs[k]?=some g->bO w g ((mV m k R).map Value.bool) 4
theorem St.ext {w0 w w':O} {b g0 R:Nat} {cs:List Y} {gs:List Nat} {m:Mx} (h:St w0 w b cs g0 gs R m) (hx:aE w w'):St w0 w' b cs g0 gs R m:=
 ⟨h.x.trans hx,h.box.ext hx,h.lo,h.bg,h.gg,h.nd,h.out.ext hx,λk g hk=>(h.rows k g hk).ext hx⟩
theorem aGf (h:gs.Nodup) {i j g:Nat} (hi:gs[i]?=some g) (hj:gs[j]?=some g):i=j:=by
 obtain ⟨hi',hi2⟩:=List.getElem?_eq_some_iff.1 hi;obtain ⟨hj',hj2⟩:=List.getElem?_eq_some_iff.1 hj;have hp:=List.pairwise_iff_getElem.1 h;rcases Nat.lt_trichotomy i j with hlt|he|hgt
 ·exact absurd (hi2.trans hj2.symm) (hp i j hi' hj' hlt)
 ·exact he
 ·exact absurd (hj2.trans hi2.symm) (hp j i hj' hi' hgt)
theorem St.set {w0 w:O} {b g0 R:Nat} {cs:List Y} {gs:List Nat} {m:Mx} (h:St w0 w b cs g0 gs R m) {k g:Nat} (hk:gs[k]?=some g) (r:Nat) (v:Bool) :
  St w0 (w.setCell ⟨g,r,none⟩ (.bool v)) b cs g0 gs R (sU m k r v):=by
 have hgm:=List.mem_of_getElem? hk;have hg:=h.gg g hgm;refine ⟨h.x.setCell (by have:=h.lo;omega) _,h.box.other (by have:=h.bg;omega),h.lo,h.bg,h.gg,h.nd,h.out.other (by omega),λk' g' hk'=>?_⟩;by_cases he:k'=k
 ·subst he;rw [hk] at hk';cases hk';rw [LF,<- nW];exact (h.rows _ _ hk).set r _
 ·rw [CV he];exact (h.rows k' g' hk').other λhgg=>he (aGf h.nd hk' (hgg▸hk))
def GN (gs:List Nat) (w:O):Mx:=λk r=>
 match gs[k]? with
 | some g=>(match w.cell? ⟨g,r,none⟩ with|some (.bool b)=>b|_=>false)
 | none=>false
theorem St.read {b:Nat} {m:Mx} (h:St w0 w b cs g0 gs R m) (hk:k < gs.length) (hr:r < R):GN gs w k r=m k r:=by
 obtain ⟨g,hg⟩:=bE hk;unfold GN;rw [hg];have:=(h.rows k g hg).cell r;rw [List.getElem?_map,lW hr] at this;simp [this]
theorem ET {f g:Nat->Bool}:∀ n,(∀ j,j < n->f j=g j)->EU f n=EU g n
 | 0,_=>rfl
 | n+1,h=>by unfold EU;rw [ET n λj hj=>h j (by omega),h n (by omega)]
theorem EV {m m':Mx} {R:Nat}:∀ n,(∀ k r,k < n->r < R->m k r=m' k r)->wN m R n=wN m' R n
 | 0,_=>rfl
 | n+1,h=>by unfold wN;rw [EV n λk r hk hr=>h k r (by omega) hr,ET R λr hr=>h n r (by omega) hr]
theorem St.cnt {b:Nat} {m:Mx} (h:St w0 w b cs g0 gs R m):wN (GN gs w) R gs.length=wN m R gs.length:=
 EV _ λ_ _ hk hr=>h.read hk hr
def bHu (p:fN) (R:Nat) (m:Mx) (k:Nat):Prop:=∀ to:Nat,(to:Int)∈(p.at' k).nx k->∀ r < R,uV p (λa b=>m a b=true) to r->m k r=true
def Snd (p:fN) (m:Mx):Prop:=∀ k r,m k r=true->oB p k r
structure Swp (p:fN) (N R:Nat) (m0 m:Mx) (f:Bool):Prop where
 le:∀ k r,m0 k r=true->m k r=true
 snd:Snd p m
 no:f=false->m=m0
 yes:f=true->∃ k r,k < N/\r < R/\m0 k r=false/\m k r=true
theorem Swp.step {p:fN} {m0 m:Mx} (h:Swp p N R m0 m f) (hk:k < N) (hr:r < R) (a:Bool) (ha:a=true->oB p k r) :
  Swp p N R m0 (sU m k r (m k r||a)) (f||(a&&!m k r)):=by
 have hle:∀ k' r',m k' r'=true->sU m k r (m k r||a) k' r'=true:=by
  intro k' r' h';unfold sU;split
  ·rename_i he;rw [he.1,he.2] at h';simp [h']
  ·exact h'
 refine ⟨λk' r' h'=>hle _ _ (h.le _ _ h'),?_,?_,?_⟩
 ·intro k' r' h';unfold sU at h';split at h'
  ·rename_i he
   rw [he.1,he.2];rcases Bool.or_eq_true_iff.1 h' with h1|h1
   ·exact h.snd _ _ h1
   ·exact ha h1
  ·exact h.snd _ _ h'
 ·intro hf;have hf':=Bool.or_eq_false_iff.1 hf
  have:(m k r||a)=m k r:=by
   have:=hf'.2;cases hm:m k r<;>cases a<;>simp_all
  rw [this,aBg];exact h.no hf'.1
 ·intro hf;rcases Bool.or_eq_true_iff.1 hf with h1|h1
  ·obtain ⟨k',r',h2,h3,h4,h5⟩:=h.yes h1;exact ⟨k',r',h2,h3,h4,hle _ _ h5⟩
  ·have h2:a=true/\m k r=false:=by simpa using h1
   refine ⟨k,r,hk,hr,?_,by simp [sU,h2.1]⟩;cases h0:m0 k r with
   | false=>rfl
   | true=>have:=h.le _ _ h0;rw [h2.2] at this;cases this
theorem FZ {p:fN} {m:Mx} (hN:N=p.nodes.length) (hv:∀ (i:Nat) n,p.nodes[i]?=some n->pP n i R N) (h:∀ k < N,bHu p R m k):∀ {k r:Nat},oB p k r->k < N->r < R->m k r=true:=by
 intro k r ha
 have hat:∀ k < N,p.nodes[k]?=some (p.at' k):=λk hk=>by
  unfold fN.at';rw [List.getD_eq_getElem?_getD];obtain ⟨n,hn⟩:=bE (l:=p.nodes) (j:=k) (by omega);simp [hn]
 induction ha with
 | use h1 h2=>intro hk hr;exact h _ hk _ h1 _ hr (.inl h2)
 | @pass k to r h1 h2 h3 ih=>
  intro hk hr;have hto:to < N:=by have:=(hv _ _ (hat _ hk)).t _ h1;omega
  exact h _ hk _ h1 _ hr (.inr ⟨h2,ih hto hr⟩)
theorem CW (k R:Nat):(mV (λ_ _=>false) k R).map Value.bool=List.replicate R (.bool false):=by
 apply List.ext_getElem?;intro j;by_cases hj:j < R
 ·simp [lW hj,hj]
 ·simp [mV,hj]
theorem kT.at {p:fN} (hv:kT p) (hk:k < p.nodes.length):p.nodes[k]?=some (p.at' k)/\pP (p.at' k) k p.regs p.nodes.length:=by
 obtain ⟨n,hn⟩:=bE hk;have:p.at' k=n:=by unfold fN.at';rw [List.getD_eq_getElem?_getD,hn];rfl
 rw [this];exact ⟨hn,hv.nodes k n hn⟩
theorem bAz {p:fN} {b:Nat} {m0:Mx} (hN:gs.length=N) (hN2:N<=250) (hR1:R<=40)
  {g:Nat} (hkN:k < N) (hg:gs[k]?=some g) {av:Y} {A:List Bool} {B:Nat} (hA:A.length=R) (hgB:∀ g∈gs,g < B)
  (hal:∀ r,A[r]?=some true->oB p k r) {Q:Y->O->Prop} {m:Mx} (hst:St w0 w b cs g0 gs R m) (hsw:Swp p N R m0 m f)
  (ha:w.ownsRow B 4 1 av R (A.map Value.bool))
  (hQ:∀ (f':Bool) (m':Mx) w',St w0 w' b cs g0 gs R m'->Swp p N R m0 m' f'->(f=true->f'=true)->(f'=false->∀ r,A[r]?=some true->m0 k r=true)->aE w0 w'->(∀ B' e size n v xs,w.ownsRow B' e size n v xs->(∀ g∈gs,g < B')->w'.ownsRow B' e size n v xs)->Q (.bool f') w') :
  ∃ (I5:NP 2) (μ5:NF 2),I5 (.bool f) (Value.int IntKind.i64 0) w /\
   ∀ (t5_3:Y) (t62:Y),∀ w37:O,I5 t5_3 t62 w37->∀ _f:bM,
   V prog (binOp .lss 3 t62 (i64 R)) w37 λt63 w38=>
   aI t63 (
   V prog (Instr.indexAt 95 av t62) w38 λt65 w39=>
   V prog (Instr.loadAt 4 t65) w39 λt66 w40=>
   gd t5_3 false (λK=>K t66 w40) w40 λt69 w41=>
   gd t5_3 false (λK=>K t69 w41) w41 λt70 w42=>
   gd t70 true (λK=>K (.slice (some ⟨g0,0,none⟩) N N) w42) w42 λt71 w43=>
   gd t70 true (λK=>K (i64 k) w43) w43 λt72 w44=>
   gd t70 true (λK=>V prog (Instr.indexAt 139 t71 t72) w44 K) w44 λt73 w45=>
   gd t70 true (λK=>V prog (Instr.loadAt 95 t73) w45 K) w45 λt74 w46=>
   gd t70 true (λK=>K t62 w46) w46 λt75 w47=>
   gd t70 true (λK=>V prog (Instr.indexAt 95 t74 t75) w47 K) w47 λt76 w48=>
   gd t70 true (λK=>V prog (Instr.loadAt 4 t76) w48 K) w48 λt77 w49=>
   gd t70 true (λK=>V prog (Op.unary UnOp.not t77) w49 K) w49 λt78 w50=>
   gd t5_3 false (λK=>aF t70 t78 (Value.bool false) λv=>K v w50) w50 λt79 w51=>
   aF t5_3 (Value.bool true) t79 λt80=>
   aK w51 λS22 w53=>
   aD prog S22 (Instr.indexAt 139 (.slice (some ⟨g0,0,none⟩) N N) (i64 k)) λt83=>
   aD prog S22 (Instr.loadAt 95 t83) λt84=>
   aD prog S22 (Instr.indexAt 139 (.slice (some ⟨g0,0,none⟩) N N) (i64 k)) λt88=>
   aD prog S22 (Instr.loadAt 95 t88) λt89=>
   aD prog S22 (Instr.indexAt 95 t89 t62) λt91=>
   aD prog S22 (Instr.loadAt 4 t91) λt92=>
   FV t92 false (λK=>K t66) λt94=>
   aF t92 (Value.bool true) t94 λt95=>
   aD prog S22 (Instr.indexAt 95 t84 t62) λt96=>
   U prog (Instr.storeAt 4 t96 t95) w53 λ_ w54=>
   V prog (binOp .add 3 t62 (Value.int IntKind.i64 1)) w54 λt97 w55=>
   I5 t80 t97 w55/\μ5 t80 t97 w55 < μ5 t5_3 t62 w37) (
   Q t5_3 w38):=by
 have hgm:=List.mem_of_getElem? hg
 refine ⟨λv1 v2 w'=>∃ (f':Bool) (r:Nat) (m':Mx),v1=.bool f'/\v2=i64 r/\r<=R/\St w0 w' b cs g0 gs R m'/\Swp p N R m0 m' f'/\(f=true->f'=true)/\(f'=false->∀ j,j < r->A[j]?=some true->m0 k j=true) /\
   w'.ownsRow B 4 1 av R (A.map Value.bool)/\(∀ B' e size n v xs,w.ownsRow B' e size n v xs->(∀ g∈gs,g < B')->w'.ownsRow B' e size n v xs),λ_ v2 _=>R - (RowKit.intOf v2).toNat,
  ⟨f,0,m,rfl,rfl,Nat.zero_le _,hst,hsw,id,λ_ j hj=>by omega,ha,λ_ _ _ _ _ _ h _=>h⟩,?_⟩
 rintro _ _ w1 ⟨f',r,m',rfl,rfl,hr,hst',hsw',hff,hcl,ha',hkeep⟩ _;refine aW.2 (aB (λhlt=>?_) λhge=>?_)
 ·have hr':r < R:=by omega
  obtain ⟨a,haa⟩:=bE (l:=A) (j:=r) (by omega);refine JN hY oM ha' (by omega) (by omega) (MS haa) ?_;have hrow:=hst'.rows k g hg;have hslO:aA w1 (.slice (some ⟨g0,0,none⟩) N N) 1 N (gs.map (sl R)):=hst'.out.slice (by simpa using hN) (by unfold maxLen;omega);have hslR:aA w1 (sl R g) 1 R ((mV m' k R).map Value.bool):=hrow.slice (by simp [gR]) (by unfold maxLen;omega);have hgk:(gs.map (sl R))[((k:Nat):Int).toNat]?=some (sl R g):=by simp [hg]
  have hmk:((mV m' k R).map Value.bool)[((r:Nat):Int).toNat]?=some (.bool (m' k r)):=by simp [lW hr']
  have flag:∀ {Z:Y->O->Prop},Z (.bool (f'||(a&&!m' k r))) w1 ->
    (gd (.bool f') false (λK=>K (.bool a) w1) w1 λt69 w41=>
   gd (.bool f') false (λK=>K t69 w41) w41 λt70 w42=>
   gd t70 true (λK=>K (.slice (some ⟨g0,0,none⟩) N N) w42) w42 λt71 w43=>
   gd t70 true (λK=>K (i64 k) w43) w43 λt72 w44=>
   gd t70 true (λK=>V prog (Instr.indexAt 139 t71 t72) w44 K) w44 λt73 w45=>
   gd t70 true (λK=>V prog (Instr.loadAt 95 t73) w45 K) w45 λt74 w46=>
   gd t70 true (λK=>K (i64 r) w46) w46 λt75 w47=>
   gd t70 true (λK=>V prog (Instr.indexAt 95 t74 t75) w47 K) w47 λt76 w48=>
   gd t70 true (λK=>V prog (Instr.loadAt 4 t76) w48 K) w48 λt77 w49=>
   gd t70 true (λK=>V prog (Op.unary UnOp.not t77) w49 K) w49 λt78 w50=>
   gd (.bool f') false (λK=>aF t70 t78 (Value.bool false) λv=>K v w50) w50 λt79 w51=>
   aF (.bool f') (Value.bool true) t79 λt80=>Z t80 w51):=by
   intro Z hZ;cases f' with
   | true=>simp only [tP,rA,aV,reduceIte];simpa using hZ
   | false=>
    cases a with
    | false=>simp only [pK,lG,aV,Bool.false_eq_true,reduceIte];simpa using hZ
    | true=>
     simp only [pK,lO];refine lV rS oL hslO (by omega) (by omega) hgk ?_;refine lV hY oM hslR (by omega) (by omega) hmk ?_;simp only [dC,aV,Bool.false_eq_true,reduceIte];simpa using hZ
  refine flag ?_;refine aK.mk' (λw'=>w'=w1.drew) rfl ?_;have hx:∀ w',w'=w1.drew->aE w1 w':=λw' h=>h▸(aE.refl _).drew;refine oE rS oL hslO hx (by omega) (by omega) hgk ?_;refine oE rS oL hslO hx (by omega) (by omega) hgk ?_;refine oE hY oM hslR hx (by omega) (by omega) hmk ?_
  have val:∀ {Z:Y->Prop},Z (.bool (m' k r||a))->FV (.bool (m' k r)) false (λK=>K (.bool a)) λt94=>aF (.bool (m' k r)) (Value.bool true) t94 Z:=by
   intro Z hZ;cases hm:m' k r with
   | true=>simp only [TY,aV,reduceIte];simpa [hm] using hZ
   | false=>simp only [WW,aV,Bool.false_eq_true,reduceIte];simpa [hm] using hZ
  refine val ?_;refine aD.ok (λw' _=>VQ (by omega) (by omega)) ?_;refine U.ok (mW kS rfl (u:=.bool (m' k r)) ?_ ?_) ?_
  ·have:=hrow.cell r;rw [List.getElem?_map,lW hr'] at this;simpa using this
  ·exact hrow.frozen _
  ·refine kQ (by omega) ?_;have hset:=(hst'.ext (aE.refl _).drew).set hg r (m' k r||a)
   have hk':∀ {B' e size n v xs},w1.ownsRow B' e size v n xs->(∀ g∈gs,g < B')->(w1.drew.setCell ⟨g,0+(r:Int).toNat*1,none⟩ (.bool (m' k r||a))).ownsRow B' e size v n xs:=by
    intro B' e size n v xs h hB;have h':w1.drew.ownsRow B' e size v n xs:=h;refine h'.kept (row:=some g) ⟨rfl,rfl,rfl,by simp,λi _ hi=>heap_setCell_other _ _ _ _ (λhe=>hi (by simp [he]))⟩ (SU h' λx hx=>?_);cases hx;exact hB g hgm
   refine ⟨⟨f'||(a&&!m' k r),r+1,sU m' k r (m' k r||a),rfl,rfl,by omega,by simpa using hset,hsw'.step hkN hr' a (λh=>hal r (by rw [haa,h])),λh=>by simp [hff h],?_,hk' ha' hgB,λB' e size n v xs h hB=>hk' (hkeep B' e size n v xs h hB) hB⟩,by simp only [aL];omega⟩;intro hf j hj hAj;have hf':=Bool.or_eq_false_iff.1 hf;by_cases hjr:j=r
   ·subst hjr;rw [haa] at hAj;cases hAj;have:m' k j=true:=by simpa using hf'.2
    rw [<- hsw'.no hf'.1];exact this
   ·exact hcl hf'.1 j (by omega) hAj
 ·refine hQ f' m' w1 hst' hsw' hff (λhf r' hr'=>hcl hf r' ?_ hr') hst'.x hkeep;have:=(List.getElem?_eq_some_iff.1 hr').1;omega
def yT (w:O) (v:Y) (N R:Nat) (m:Mx):Prop:=∃ (g0:Nat) (gs:List Nat),v=.slice (some ⟨g0,0,none⟩) N N/\gs.length=N/\bO w g0 (gs.map (sl R)) 95/\∀ (k g:Nat),gs[k]?=some g->bO w g ((mV m k R).map Value.bool) 4
theorem yT.ext {w w':O} {v:Y} {N R:Nat} {m:Mx} (h:yT w v N R m) (hx:aE w w'):yT w' v N R m:=by
 obtain ⟨g0,gs,h1,h2,h3,h4⟩:=h;exact ⟨g0,gs,h1,h2,h3.ext hx,λk g hk=>(h4 k g hk).ext hx⟩
theorem LD (R g:Nat) (gs:List Nat) (n:Nat) (h:gs.length < n) :
  ((gs.map (sl R))++List.replicate (n - gs.length) (Value.slice none 0 0)).set gs.length (sl R g)=(gs++[g]).map (sl R)++List.replicate (n - (gs++[g]).length) (Value.slice none 0 0):=by
 obtain ⟨k,hk⟩:∃ k,n - gs.length=k+1:=⟨n - gs.length - 1,by omega⟩;have hk2:n - (gs++[g]).length=k:=by simp;omega
 rw [hk,hk2,List.set_append_right _ _ (by simp)];simp [List.replicate_succ]
def aJq (w0 w:O) (v:Y) (N R:Nat) (m:Mx):Prop:=∃ (g0:Nat) (gs:List Nat),v=.slice (some ⟨g0,0,none⟩) N N/\gs.length=N/\bO w g0 (gs.map (sl R)) 95/\(∀ (k g:Nat),gs[k]?=some g->bO w g ((mV m k R).map Value.bool) 4)/\w0.heap.size<=g0/\∀ g∈gs,w0.heap.size<=g
theorem aJq.is {v:Y} {m:Mx} (h:aJq w0 w v N R m):yT w v N R m:=by
 obtain ⟨g0,gs,h1,h2,h3,h4,_⟩:=h;exact ⟨g0,gs,h1,h2,h3,h4⟩
theorem EX {p:fN} (hp:pQ w pv p) (hv:kT p) (hR:p.regs=R) :
  aC prog 84 #[pv] w λr w'=>(∃ m,aJq w w' r p.nodes.length R m/\∀ k r,k < p.nodes.length->r < R->(m k r=true↔oB p k r))/\aE w w':=by
 have hp0:=hp;obtain ⟨ns,rfl,hns,hargs⟩:=hp;have hns0:=hns;obtain ⟨vs,hs,hvs⟩:=hns;have hl1:=hv.l1;have hl2:=hv.l2;have hr1:=hv.r1;have hr2:=hv.r2;have hat:=λ{k:Nat} (hk:k < p.nodes.length)=>hv.at hk;generalize hN:p.nodes.length=N at *;apply bFj;unfold YR;refine bx λb w1 hb x1=>?_;refine iF hb qG rfl ?_;refine (uN (p:=p) (hp0.ext x1) hv).mono λr w2 ⟨hr,x2⟩=>?_;subst hr;refine dC.2 (aP.2 ?_);have hb2:=hb.ext x2;have X2:=x1.trans x2;refine bC hb2 eI lF rfl (fQ oX (hs.ext X2) ?_);refine mkB underlying139 rL rfl (n:=N) (by omega) (by omega) λw3 ho x3 hsz3=>?_;refine aJk.2 ?_
 have hbB:b < w2.heap.size:=by
  have:=hb2 0 (i64 p.params) rfl;exact World.block_lt_of_cell? _ _ this
 have hlo:w.heap.size<=w2.heap.size:=X2.size;generalize w2.heap.size=g0 at *;have X3:=X2.trans x3
 refine ⟨λv w'=>∃ gs:List Nat,v=i64 gs.length/\gs.length<=N/\aE w w'/\aY w' b [i64 p.params,i64 p.regs,ns]/\(∀ g∈gs,g0 < g)/\gs.Nodup/\(∀ g∈gs,g < w'.heap.size) /\
   bO w' g0 (gs.map (sl R)++List.replicate (N - gs.length) (.slice none 0 0)) 95/\∀ g∈gs,bO w' g (List.replicate R (.bool false)) 4,
  λv _=>N - (RowKit.intOf v).toNat,⟨[],rfl,Nat.zero_le _,X3,hb2.ext x3,by simp,List.nodup_nil,by simp,by simpa using ho,by simp⟩,?_⟩
 rintro _ w4 ⟨gs,rfl,hle,x4,hb4,hgg,hnd,hlt4,ho4,hrows4⟩ _;refine aW.2 (aB (λhlt=>?_) λhge=>?_)
 ·refine bC hb4 gK aG rfl ?_;refine xU hR underlying95 kS rfl (n:=R) (by omega) (by omega) λw5 hrow x5 hsz5=>?_;refine VI rS rL (ho4.ext x5) (by simp;omega) (by omega) (by omega) rfl ?_;refine kQ (by omega) ?_;simp only [Int.toNat_natCast];have hset:=(ho4.ext x5).set gs.length (sl R w4.heap.size);rw [LD R _ gs N (by omega)] at hset;have hg0:=ho4.lt;refine ⟨⟨gs++[w4.heap.size],by simp,by simp;omega,(x4.trans x5).setCell hlo _,aY.other (g:=g0) (hb4.ext x5) (by omega),?_,?_,?_,hset,?_⟩,by simp only [aL];omega⟩
  ·intro g hg;rcases List.mem_append.1 hg with h|h
   ·exact hgg g h
   ·have:g=w4.heap.size:=by simpa using h
    omega
  ·refine List.nodup_append.2 ⟨hnd,by simp,?_⟩;intro a ha c hc;have:c=w4.heap.size:=by simpa using hc
   have:=hlt4 a ha;omega
  ·intro g hg;simp only [World.size_setCell];rcases List.mem_append.1 hg with h|h
   ·have:=hlt4 g h;omega
   ·have:g=w4.heap.size:=by simpa using h
    omega
  ·intro g hg;rcases List.mem_append.1 hg with h|h
   ·exact ((hrows4 g h).ext x5).other (by have:=hgg g h;omega)
   ·have he:g=w4.heap.size:=by simpa using h
    subst he;exact hrow.other (by omega)
 have hgl:gs.length=N:=by omega
 rw [hgl,Nat.sub_self] at ho4;simp only [List.replicate_zero,List.append_nil] at ho4
 have hst0:St w w4 b [i64 p.params,i64 p.regs,ns] g0 gs R (λ_ _=>false):=
  ⟨x4,hb4,hlo,hbB,hgg,hnd,ho4,λk g hk=>by rw [CW];exact hrows4 g (List.mem_of_getElem? hk)⟩
 clear hrows4 ho4 hlt4 hle hge hb4 x4;have hslO:∀ {w' m},St w w' b [i64 p.params,i64 p.regs,ns] g0 gs R m->aA w' (.slice (some ⟨g0,0,none⟩) N N) 1 N (gs.map (sl R)):=λh=>h.out.slice (by simpa using hgl) (by unfold maxLen;omega);have hslR:∀ {w' m k g},St w w' b [i64 p.params,i64 p.regs,ns] g0 gs R m->gs[k]?=some g->aA w' (sl R g) 1 R ((mV m k R).map Value.bool):=λh hk=>(h.rows _ _ hk).slice (by simp [gR]) (by unfold maxLen;omega)
 have hglt:∀ {w' m},St w w' b [i64 p.params,i64 p.regs,ns] g0 gs R m->∀ g∈gs,g < w'.heap.size:=λh g hg=>by
  obtain ⟨k,hk⟩:=List.getElem?_of_mem hg;exact (h.rows k g hk).lt
 refine ⟨λv w'=>∃ (f:Bool) (m:Mx),v=.bool f/\St w w' b [i64 p.params,i64 p.regs,ns] g0 gs R m/\Snd p m/\(f=false->∀ k < N,bHu p R m k),
  λv w'=>2*wN (GN gs w') R gs.length+(match v with|.bool true=>1|_=>0),⟨true,_,rfl,hst0,(λ_ _ h=>by cases h),(λh=>by cases h)⟩,?_⟩
 rintro _ w5 ⟨f0,m0,rfl,hst,hsnd,hcl⟩ _;refine aI.mk (λhf=>?_) λhf=>?_
 rotate_left
 ·refine ⟨⟨m0,⟨g0,gs,rfl,hgl,hst.out,hst.rows,hst.lo,λg hg=>Nat.le_of_lt (Nat.lt_of_le_of_lt hst.lo (hst.gg g hg))⟩,λk r hk hr=>⟨hsnd k r,λh=>?_⟩⟩,hst.x⟩;exact FZ hN.symm (λi n hn=>hR▸hN▸hv.nodes i n hn) (hcl hf) h hk hr
 subst hf;refine bC hst.box eI lF rfl (fQ oX (hs.ext hst.x) (eY.2 ?_));rw [aM (by omega)]
 refine ⟨λv1 v2 w'=>∃ (f:Bool) (kk:Int) (m:Mx),v1=.bool f/\v2=i64 kk/\-1<=kk/\kk < N/\St w w' b [i64 p.params,i64 p.regs,ns] g0 gs R m/\Swp p N R m0 m f/\(f=false->∀ k:Nat,kk < k->k < N->bHu p R m0 k),
  λ_ v2 _=>(RowKit.intOf v2+1).toNat,⟨false,_,m0,rfl,rfl,by omega,by omega,hst,⟨λ_ _ h=>h,hsnd,λ_=>rfl,(λh=>by cases h)⟩,λ_ k h1 h2=>by omega⟩,?_⟩
 rintro _ _ w6 ⟨f,kk,m,rfl,rfl,hk1,hk2,hst6,hsw6,hcl6⟩ _;refine kO.2 (aB (λhge=>?_) λhlt=>?_)
 rotate_left
 ·-- the sweep is over
  have hkk:kk=-1:=by have:¬ 0<=kk:=hlt;omega
  refine ⟨⟨f,m,rfl,hst6,hsw6.snd,λhf k hk=>?_⟩,?_⟩
  ·rw [hsw6.no hf];exact hcl6 hf k (by omega) hk
  ·show 2*wN (GN gs w6) R gs.length+_ < 2*wN (GN gs w5) R gs.length+1;rw [hst6.cnt,hst.cnt];cases f with
   | false=>
    have:=KE hsw6.le R gs.length;show 2*_+0 < _;omega
   | true=>
    obtain ⟨k,r,h1,h2,h3,h4⟩:=hsw6.yes rfl;have:=XJ hsw6.le h2 h3 h4 gs.length (by omega);show 2*_+1 < _;omega
 have hge':0<=kk:=hge;obtain ⟨k,rfl⟩:=Int.eq_ofNat_of_zero_le hge';have hk:k < N:=by omega
 obtain ⟨g,hg⟩:=bE (l:=gs) (j:=k) (by omega);obtain ⟨hpk,hrk⟩:=hat hk;obtain ⟨u,hu,hnu⟩:=hvs k _ hpk;refine bC hst6.box eI lF rfl ?_;refine lV oX DQ (hs.ext hst6.x) (by omega) (by omega) (by simpa using hu) ?_;refine (WD (hnu.ext hst6.x) (by omega) (by omega)).mono λtl w7 ⟨htl,x7⟩=>?_;refine fQ aQ (aA.of_own htl) ?_;have hst7:=hst6.ext x7;have hlen:=aGd (p.at' k) k
 refine ⟨λv1 v2 w'=>∃ (f':Bool) (j:Nat) (m':Mx),v1=.bool f'/\v2=i64 j/\j<=((p.at' k).nx k).length/\St w w' b [i64 p.params,i64 p.regs,ns] g0 gs R m'/\Swp p N R m0 m' f'/\(f=true->f'=true) /\
   (f'=false->∀ (i:Nat) (to:Nat),i < j->((p.at' k).nx k)[i]?=some (to:Int)->∀ r < R,uV p (λa b=>m0 a b=true) to r->m0 k r=true)/\w'.ownsRow w6.heap.size 3 1 tl ((p.at' k).nx k).length (((p.at' k).nx k).map i64),
  λ_ v2 _=>((p.at' k).nx k).length - (RowKit.intOf v2).toNat,⟨f,0,m,rfl,rfl,Nat.zero_le _,hst7,hsw6,id,λ_ i to hi=>by omega,htl⟩,?_⟩
 rintro _ _ w8 ⟨f',j,m',rfl,rfl,hj,hst8,hsw8,hff,hcl8,htl8⟩ _;refine aW.2 (aB (λhjlt=>?_) λhjge=>?_)
 rotate_left
 ·refine eY.2 ?_;rw [aM (by omega)];refine ⟨⟨f',(k:Int) - 1,m',rfl,rfl,by omega,by omega,hst8,hsw8,λhf k' hk' hkN=>?_⟩,by simp only [aL];omega⟩;by_cases he:k'=k
  ·subst he;intro to hto r hr ha;obtain ⟨i,hi⟩:=List.getElem?_of_mem hto;have hi':=(List.getElem?_eq_some_iff.1 hi).1;exact hcl8 hf i to (by omega) hi r hr ha
  ·have hf0:f=false:=by cases f with|false=>rfl|true=>rw [hff rfl] at hf;cases hf
   exact hcl6 hf0 k' (by omega) hkN
 obtain ⟨to,hto⟩:=bE (l:=(p.at' k).nx k) (j:=j) (by omega);have htor:=hrk.t to (List.mem_of_getElem? hto);obtain ⟨to,rfl⟩:=Int.eq_ofNat_of_zero_le htor.1;have htoN:to < N:=by omega
 obtain ⟨hpt,hrt⟩:=hat htoN;obtain ⟨ut,hut,hnut⟩:=hvs to _ hpt;obtain ⟨gt,hgt⟩:=bE (l:=gs) (j:=to) (by omega);refine JN aQ aG htl8 (by omega) (by omega) (cK hto) ?_;refine aK.mk' (λw'=>aE w8 w') (aE.refl _).drew ?_;refine jG (λw' hw=>hst8.box.ext hw) eI lF rfl ?_;refine oE oX DQ (hs.ext hst8.x) (λ_ h=>h) (by omega) (by omega) (by simpa using hut) ?_;refine oE rS oL (hslO hst8) (λ_ h=>h) (by omega) (by omega) (by simp [hgt]:(gs.map (sl R))[((to:Nat):Int).toNat]?=some (sl R gt)) ?_;have hrl:=gR m' to R;have hdf:(p.at' to).df < R:=by rcases hrt.d with h|h<;>omega
 have hus:∀ r∈(p.at' to).us,0<=r/\r < ((mV m' to R).length:Int):=λr hr=>by have:=hrt.u r hr;rw [hrl];omega
 have hrow8:gF w8.drew (sl R gt) (mV m' to R):=by
  have:=(hslR hst8 hgt).ext (aE.refl _).drew;unfold gF;rw [hrl];exact this
 refine (NH (hnut.ext (hst8.x.trans (aE.refl _).drew)) hrow8 (hargs _ (List.mem_of_getElem? hpt)) (by omega) (by rw [hrl];exact hdf) hus).mono λav w9 ⟨hav,x9⟩=>?_;have x9':aE w8 w9:=aE.trans (aE.refl _).drew x9;refine ⟨x9',?_⟩;rw [hrl] at hav;refine sS hY (aA.of_own hav) ?_;have hst9:=hst8.ext x9'
 have hag:∀ r,r < R->(uP (p.at' to) (mV m' to R))[r]?=some (decide ((r:Int)∈(p.at' to).us)||(decide ((r:Int)≠(p.at' to).df)&&m' to r)):=λr hr=>by
  rw [FB (by rw [hrl];exact hr) (λx hx=>(hus x hx).1)]
  congr 3
  rw [List.getD_eq_getElem?_getD,lW hr];rfl
 have hagT:∀ r,r < R->((uP (p.at' to) (mV m' to R))[r]?=some true↔uV p (λa b=>m' a b=true) to r):=λr hr=>by
  rw [hag r hr];simp [uV]
 refine bAz hgl hl2 (by omega) hk hg (A:=uP (p.at' to) (mV m' to R)) (by rw [wS,hrl]) (hglt hst8) (λr hr=>?_) hst9 hsw8 hav ?_
 ·have hrR:r < R:=by have:=(List.getElem?_eq_some_iff.1 hr).1;rw [wS,hrl] at this;exact this
  rw [hagT r hrR] at hr;rcases hr with h|⟨h1,h2⟩
  ·exact .use (List.mem_of_getElem? hto) h
  ·exact .pass (List.mem_of_getElem? hto) h1 (hsw8.snd _ _ h2)
 ·intro f'' m'' w10 hst10 hsw10 hff10 hcl10 _ hkeep;refine kQ (by omega) ?_;refine ⟨⟨f'',j+1,m'',rfl,rfl,by omega,hst10,hsw10,λh=>hff10 (hff h),λhf i to' hi hto' r hr ha=>?_,hkeep _ _ _ _ _ _ (x9'.own htl8) (λg hg=>hglt hst6 g hg)⟩,by simp only [aL];omega⟩;by_cases hij:i=j
  ·subst hij;rw [hto] at hto';have:(to:Int)=to':=by simpa using hto'
   have:to=to':=by omega
   subst this;have hf':f'=false:=by cases f' with|false=>rfl|true=>rw [hff10 rfl] at hf;cases hf
   refine hcl10 hf r ?_;rw [hagT r hr,hsw8.no hf'];exact ha
  ·have hf':f'=false:=by cases f' with|false=>rfl|true=>rw [hff10 rfl] at hf;cases hf
   exact hcl8 hf' i to' (by omega) hto' r hr ha
theorem aDm {p:fN} (hp:pQ w pv p) (hv:kT p) (hR:p.regs=R) :
  aC prog 84 #[pv] w λr w'=>(∃ m,yT w' r p.nodes.length R m/\∀ k r,k < p.nodes.length->r < R->(m k r=true↔oB p k r))/\aE w w':=
 (EX hp hv hR).mono λ_ _ ⟨⟨m,h1,h2⟩,hx⟩=>⟨⟨m,h1.is,h2⟩,hx⟩
theorem yT.row {v:Y} {m:Mx} (h:yT w v N R m) (hN:N<=250) (hR:R<=40):∃ cs,aA w v 1 N cs/\∀ k,k < N->∃ u,cs[k]?=some u/\gF w u (mV m k R):=by
 obtain ⟨g0,gs,rfl,hl,h1,h2⟩:=h;refine ⟨_,h1.slice (by simpa using hl) (by unfold maxLen;omega),λk hk=>?_⟩;obtain ⟨g,hg⟩:=bE (l:=gs) (j:=k) (by omega);refine ⟨sl R g,by simp [hg],?_⟩;have:=(h2 k g hg).slice (n:=R) (by simp [gR]) (by unfold maxLen;omega);unfold gF;rw [gR];exact this
def bLx (p:fN) (R:Nat) (m:Mx):Bool:=
 (List.range p.nodes.length).all λk=>((p.at' k).nx k).all λto=>(List.range R).all λr=>!((p.at' to.toNat).us.contains (r:Int)||(decide ((r:Int)≠(p.at' to.toNat).df)&&m to.toNat r))||m k r
structure gN where
 op:Int
 d:Int
 n:Int
 m:Int
 imm:Int
 cond:Int
inductive cJ where
 | one (i:gN)
 | place (l:Int)
 | jump (c l:Int)
 | load (r n:Int)
def cJ.cells:cJ->List Y
 | .one i=>[i64 1,i64 i.op,i64 i.d,i64 i.n,i64 i.m,i64 i.imm,i64 i.cond,i64 0,i64 0,i64 0,i32 0]
 | .place l=>[i64 2,i64 0,i64 0,i64 0,i64 0,i64 0,i64 0,i64 l,i64 0,i64 0,i32 0]
 | .jump c l=>[i64 3,i64 0,i64 0,i64 0,i64 0,i64 0,i64 0,i64 l,i64 c,i64 0,i32 0]
 | .load r n=>[i64 4,i64 0,i64 0,i64 0,i64 0,i64 0,i64 0,i64 0,i64 0,i64 r,i32 n]
theorem cJ.len (x:cJ):x.cells.length=11:=by cases x<;>rfl
def itC (l:List cJ):List Y:=l.flatMap cJ.cells
def iJ (op d m:Int):cJ:=.one ⟨op,d,0,m,0,0⟩
def iY (op d n:Int):cJ:=.one ⟨op,d,0,0,n,0⟩
def eLd (of:List Int) (reg r:Int):cJ:=let a:=of.getD r.toNat 0;if a < 16 then iJ 28 reg a else iY 35 reg (4*(a - 16))
def eSt (of:List Int) (r reg:Int):cJ:=let a:=of.getD r.toNat 0;if a < 16 then iJ 28 a reg else iY 36 reg (4*(a - 16))
def mR (l:Int):List cJ:=[iY 9 7 0,.jump 1 l,.one ⟨44,0,0,0,0,0⟩,.place l,iY 11 7 1]
def rC:List cJ:=[iY 8 0 0,iJ 17 0 0]
def lD:List cJ:=[iJ 22 0 1,iJ 18 0 0,iJ 21 0 0]
def rB:List cJ:=iJ 21 0 0::rC
def pL (op:Int):List cJ:=[iY 8 2 31,iJ 12 1 2,iJ op 0 1]
def oQ (op:Int):List cJ:=
 if op=6 then [.one ⟨4,0,0,1,0,0⟩] else if op=7 then [.one ⟨5,0,0,1,0,0⟩] else if op=8 then [iJ 25 0 1] else if op=9 then [iJ 12 0 1] else if op=10 then [iJ 24 0 1]
 else if op=11 then [iJ 13 0 1] else if op=12 then pL 14 else if op=13 then pL 15 else if op=14 then pL 16 else if op=19 then .one ⟨5,0,0,1,0,0⟩::rB
 else if op=20 then .load 2 (-2147483648)::iJ 13 0 2::iJ 13 1 2::lD else lD
def eUn (op:Int):List cJ:=if op=15 then [iJ 21 0 0] else if op=16 then [iJ 27 0 0] else rB
def kN:List cJ:=[iJ 21 0 0,iJ 18 0 0,iJ 13 1 2,iJ 12 0 1,iJ 13 0 2]
def tH (applet:Int):cJ:=.load 1 (IntKind.i32.wrap (131072+64*applet))
def jJ (of:List Int) (l:List Int):List cJ:=(List.range l.length).map λ(k:Nat)=>eLd of (k:Int) (l.getD k 0)
def vK (of:List Int) (n:aJ):List cJ:=if n.df>=0 then [eSt of n.df 0] else []
def aJ.srvB:aJ->Bool
 | .serve ..|.call ..|.callX ..|.ret _=>true
 | _=>false
def aJ.tkB:aJ->Bool
 | .tick=>true
 | _=>false
def oZ (of:List Int) (N applet:Int) (tl:Nat) (n:aJ) (at':Int):List cJ:=
 (match n with
 | .const _ k=>[.load 0 k]
 | .move _ _=>jJ of n.us
 | .bin op _ _ _=>jJ of n.us++oQ op
 | .un op _ _=>jJ of n.us++eUn op
 | .choose _ _ _ _=>jJ of n.us++kN
 | .tick=>mR (N+at')
 | .goto t=>[.jump 14 t]
 | .branch _ t=>jJ of n.us++[iY 9 0 0,.jump 1 t]
 | .getField _ f=>[tH applet,.one ⟨31,0,1,0,4*f,0⟩]
 | .putField f _=>jJ of n.us++[tH applet,.one ⟨32,0,1,0,4*f,0⟩]
 | _=>jJ of n.us++[.one ⟨44,0,0,0,(tl:Int)+1,0⟩])++vK of n
def gE (p:fN) (of:List Int) (applet:Int):Nat->List cJ × List aJ
 | 0=>((List.range p.params.toNat).map λ(k:Nat)=>eSt of (k:Int) (k:Int),[])
 | k+1=>
  let s:=gE p of applet k
  (s.1++.place k::oZ of p.nodes.length applet s.2.length (p.at' k) k,if (p.at' k).srvB then s.2++[p.at' k] else s.2)
def zL (x:Int):Prop:=0<=x/\x<=7
def gN.okT (i:gN):Prop:=
 (i.op=28/\(0<=i.d/\i.d < 15/\i.d≠13)/\(0<=i.m/\i.m < 15)/\i.n=0/\i.imm=0/\i.cond=0)
 \/ ((i.op=35\/i.op=36)/\zL i.d/\i.n=0/\i.m=0/\(0<=i.imm/\i.imm<=1020/\i.imm % 4=0)/\i.cond=0)
 \/ ((8<=i.op/\i.op<=11)/\zL i.d/\i.n=0/\i.m=0/\(0<=i.imm/\i.imm<=255)/\i.cond=0)
 \/ ((12<=i.op/\i.op<=27)/\zL i.d/\i.n=0/\zL i.m/\i.imm=0/\i.cond=0)
 \/ ((i.op=4\/i.op=5)/\zL i.d/\zL i.n/\zL i.m/\i.imm=0/\i.cond=0)
 \/ ((i.op=31\/i.op=32)/\zL i.d/\zL i.n/\i.m=0/\(0<=i.imm/\i.imm<=124/\i.imm % 4=0)/\i.cond=0)
 \/ (i.op=44/\i.d=0/\i.n=0/\i.m=0/\(0<=i.imm/\i.imm<=255)/\i.cond=0)
def cJ.okI:cJ->Prop
 | .one i=>i.okT
 | .place l=>0<=l/\l<=2000
 | .jump c l=>(0<=l/\l<=2000)/\(0<=c/\c<=14)
 | .load r _=>zL r
def cJ.pl:cJ->List Int
 | .place l=>[l]
 | _=>[]
def cJ.jl:cJ->List Int
 | .jump _ l=>[l]
 | _=>[]
def jV (l:List cJ):List Int:=l.flatMap cJ.pl
def tA (l:List cJ):List Int:=l.flatMap cJ.jl
def NM (of:List Int) (R:Nat):Prop:=∀ r:Int,0<=r->r < R->of.getD r.toNat 0=5\/of.getD r.toNat 0=6\/(16<=of.getD r.toNat 0/\of.getD r.toNat 0 < 56)
theorem bAw (h:12<=op/\op<=27) (hd:zL d) (hm:zL m):(iJ op d m).okI:=.inr (.inr (.inr (.inl ⟨h,hd,rfl,hm,rfl,rfl⟩)))
theorem CN (h:8<=op/\op<=11) (hd:zL d) (hn:0<=n/\n<=255):(iY op d n).okI:=.inr (.inr (.inl ⟨h,hd,rfl,rfl,hn,rfl⟩))
theorem jZ:zL 0:=⟨by decide,by decide⟩
theorem qW:zL 1:=⟨by decide,by decide⟩
theorem DE:zL 2:=⟨by decide,by decide⟩
theorem bDl {of:List Int} {r:Int} (ho:NM of R) (hg:zL reg) (h0:0<=r) (h1:r < R):(eLd of reg r).okI/\(eLd of reg r).pl=[]/\(eLd of reg r).jl=[]:=by
 have hr:=ho r h0 h1;unfold eLd;obtain ⟨g0,g7⟩:=hg;by_cases h:of.getD r.toNat 0 < 16
 ·simp only [h,if_true];refine ⟨.inl ⟨rfl,⟨g0,?_,?_⟩,⟨?_,?_⟩,rfl,rfl,rfl⟩,rfl,rfl⟩<;>dsimp only<;>omega
 ·simp only [h,if_false];refine ⟨.inr (.inl ⟨.inl rfl,⟨g0,g7⟩,rfl,rfl,⟨?_,?_,?_⟩,rfl⟩),rfl,rfl⟩<;>dsimp only<;>omega
theorem aIi {of:List Int} {r:Int} (ho:NM of R) (hg:zL reg) (h0:0<=r) (h1:r < R):(eSt of r reg).okI/\(eSt of r reg).pl=[]/\(eSt of r reg).jl=[]:=by
 have hr:=ho r h0 h1;unfold eSt;obtain ⟨g0,g7⟩:=hg;by_cases h:of.getD r.toNat 0 < 16
 ·simp only [h,if_true];refine ⟨.inl ⟨rfl,⟨?_,?_,?_⟩,⟨g0,?_⟩,rfl,rfl,rfl⟩,rfl,rfl⟩<;>dsimp only<;>omega
 ·simp only [h,if_false];refine ⟨.inr (.inl ⟨.inr rfl,⟨g0,g7⟩,rfl,rfl,⟨?_,?_,?_⟩,rfl⟩),rfl,rfl⟩<;>dsimp only<;>omega
structure kU (l:List cJ) (n:Nat):Prop where
 ok:∀ x∈l,x.okI
 pl:jV l=[]
 jl:tA l=[]
 len:l.length<=n
theorem kU.nil:kU [] 0:=⟨λx h=>(by cases h),rfl,rfl,Nat.le_refl _⟩
theorem kU.cons {x:cJ} {l:List cJ} {n:Nat} (hx:x.okI/\x.pl=[]/\x.jl=[]) (h:kU l n):kU (x::l) (n+1):=by
 refine ⟨λy hy=>?_,?_,?_,Nat.succ_le_succ h.len⟩
 ·rcases List.mem_cons.1 hy with rfl|hy
  ·exact hx.1
  ·exact h.ok y hy
 ·show x.pl++jV l=[];rw [hx.2.1,h.pl];rfl
 ·show x.jl++tA l=[];rw [hx.2.2,h.jl];rfl
theorem kU.app {l l':List cJ} {n:Nat} (h:kU l n) (h':kU l' n'):kU (l++l') (n+n'):=by
 refine ⟨λy hy=>?_,?_,?_,by rw [List.length_append];have:=h.len;have:=h'.len;omega⟩
 ·rcases List.mem_append.1 hy with hy|hy
  ·exact h.ok y hy
  ·exact h'.ok y hy
 ·show jV (l++l')=[];unfold jV;rw [List.flatMap_append];show jV l++jV l'=[];rw [h.pl,h'.pl];rfl
 ·show tA (l++l')=[];unfold tA;rw [List.flatMap_append];show tA l++tA l'=[];rw [h.jl,h'.jl];rfl
theorem kU.mono {l:List cJ} {n:Nat} (h:kU l n) (hn:n<=n'):kU l n':=⟨h.ok,h.pl,h.jl,Nat.le_trans h.len hn⟩
theorem sP (h:12<=op/\op<=27) (hd:zL d) (hm:zL m):(iJ op d m).okI/\(iJ op d m).pl=[]/\(iJ op d m).jl=[]:=⟨bAw h hd hm,rfl,rfl⟩
theorem UA (h:8<=op/\op<=11) (hd:zL d) (hn:0<=n/\n<=255):(iY op d n).okI/\(iY op d n).pl=[]/\(iY op d n).jl=[]:=⟨CN h hd hn,rfl,rfl⟩
theorem bDi (h:op=4\/op=5):(cJ.one ⟨op,0,0,1,0,0⟩).okI/\(cJ.one ⟨op,0,0,1,0,0⟩).pl=[]/\(cJ.one ⟨op,0,0,1,0,0⟩).jl=[]:=⟨.inr (.inr (.inr (.inr (.inl ⟨h,jZ,jZ,qW,rfl,rfl⟩)))),rfl,rfl⟩
theorem XC {r:Int} (h:zL r):(cJ.load r n).okI/\(cJ.load r n).pl=[]/\(cJ.load r n).jl=[]:=⟨h,rfl,rfl⟩
theorem MX:kU lD 3:=kU.nil.cons (sP (by decide) jZ jZ) |>.cons (sP (by decide) jZ jZ) |>.cons (sP (by decide) jZ qW)
theorem aIn:kU rC 2:=kU.nil.cons (sP (by decide) jZ jZ) |>.cons (UA (by decide) jZ (by decide))
theorem XF:kU rB 3:=aIn.cons (sP (by decide) jZ jZ)
theorem EQ (h:12<=op/\op<=27):kU (pL op) 3:=kU.nil.cons (sP h jZ qW) |>.cons (sP (by decide) qW DE) |>.cons (UA (by decide) DE (by decide))
theorem UD (op:Int):kU (oQ op) 6:=by
 unfold oQ;have one:∀ {x:cJ},(x.okI/\x.pl=[]/\x.jl=[])->kU [x] 6:=λh=>(kU.nil.cons h).mono (by decide);split;· exact one (bDi (.inl rfl))
 split;· exact one (bDi (.inr rfl))
 split;· exact one (sP (by decide) jZ qW)
 split;· exact one (sP (by decide) jZ qW)
 split;· exact one (sP (by decide) jZ qW)
 split;· exact one (sP (by decide) jZ qW)
 split;· exact (EQ (by decide)).mono (by decide)
 split;· exact (EQ (by decide)).mono (by decide)
 split;· exact (EQ (by decide)).mono (by decide)
 split;· exact (XF.cons (bDi (.inr rfl))).mono (by decide)
 split
 ·exact (MX.cons (sP (by decide) qW DE)).cons (sP (by decide) jZ DE) |>.cons (XC DE)
 ·exact MX.mono (by decide)
theorem aIh (op:Int):kU (eUn op) 3:=by
 unfold eUn;split;· exact (kU.nil.cons (sP (by decide) jZ jZ)).mono (by decide)
 split;· exact (kU.nil.cons (sP (by decide) jZ jZ)).mono (by decide)
 exact XF
theorem aDd:kU kN 5:=kU.nil.cons (sP (by decide) jZ DE) |>.cons (sP (by decide) jZ qW) |>.cons (sP (by decide) qW DE) |>.cons (sP (by decide) jZ jZ) |>.cons (sP (by decide) jZ jZ)
theorem bDk {of:List Int} {l:List Int} (ho:NM of R) (hl:∀ r∈l,0<=r/\r < R) (h5:l.length<=5):kU (jJ of l) 5:=by
 have each:∀ x∈jJ of l,x.okI/\x.pl=[]/\x.jl=[]:=λx hx=>by
  simp only [jJ,List.mem_map,List.mem_range] at hx;obtain ⟨k,hk,rfl⟩:=hx;have hm:l.getD k 0∈l:=by rw [List.getD_eq_getElem?_getD,List.getElem?_eq_getElem hk];exact List.getElem_mem hk
  obtain ⟨a,b⟩:=hl _ hm;exact bDl ho ⟨by omega,by omega⟩ a b
 have fl:∀ m:List cJ,(∀ x∈m,x.okI/\x.pl=[]/\x.jl=[])->kU m m.length:=λm=>by
  induction m with
  | nil=>exact λ_=>kU.nil
  | cons x m ih=>exact λh=>(ih λy hy=>h y (List.mem_cons_of_mem _ hy)).cons (h x List.mem_cons_self)
 exact (fl _ each).mono (by simpa [jJ] using h5)
theorem pP.us5 {n:aJ} {k r c:Int} (h:pP n k r c):n.us.length<=5:=by
 have hf:=h.f;cases n with
 | serve op a b d l=>
  have hf:qT op=l.length:=hf;unfold qT at hf;show l.length<=5;split at hf
  ·omega
  ·split at hf
   ·omega
   ·split at hf
    ·omega
    ·split at hf<;>omega
 | call m d l=>have:=hf.2;show l.length<=5;omega
 | callX m d l=>have:=hf.2;show l.length<=5;omega
 | ret s=>simp only [aJ.us];split<;>simp
 | _=>simp [aJ.us]
theorem qX (l l':List cJ):jV (l++l')=jV l++jV l':=by unfold jV;rw [List.flatMap_append]
theorem MJ (l l':List cJ):tA (l++l')=tA l++tA l':=by unfold tA;rw [List.flatMap_append]
theorem bDm {of:List Int} {n:aJ} {k c:Int} (ho:NM of R) (hn:pP n k R c):kU (vK of n) 1:=by
 unfold vK;split
 ·rename_i h
  rcases hn.d with h1|h1
  ·exact kU.nil.cons (aIi ho jZ h1.1 h1.2)
  ·omega
 ·exact kU.nil.mono (by decide)
structure NOk (n:aJ) (N:Nat) (k:Nat) (l:List cJ):Prop where
 ok:∀ x∈l,x.okI
 pl:jV l=if n.tkB then [(N:Int)+k] else []
 jl:∀ q∈tA l,(0<=q/\q < N)\/(n.tkB=true/\q=(N:Int)+k)
 len:l.length<=13
theorem NOk.of_flat {n:aJ} {m:Nat} {l:List cJ} (hn:n.tkB=false) (h:kU l m) (hm:m<=13):NOk n N k l:=⟨h.ok,(by rw [hn,h.pl];rfl),λq hq=>(by rw [h.jl] at hq;cases hq),Nat.le_trans h.len hm⟩
theorem aIj {of:List Int} {tl:Nat} {n:aJ} (ho:NM of R) (hn:pP n k R N) (hN:N<=250) (hk:k < N) (ht:tl<=k):NOk n N k (oZ of N applet tl n k):=by
 have h5:=hn.us5;have hl:kU (jJ of n.us) 5:=bDk ho hn.u h5;have hd:=bDm ho hn;have hd0:∀ {n:aJ},n.df=-1->vK of n=[]:=λh=>by unfold vK;rw [if_neg (by omega)]
 have jump:∀ {c t:Int} {l:List cJ} {m:Nat},kU l m->m<=12->(0<=t/\t < N)->0<=c/\c<=14->n.tkB=false->NOk n N k (l++[.jump c t]):=λ{c t l m} hf hm h2 hc hne=>⟨λx hx=>by
   rcases List.mem_append.1 hx with hx|hx
   ·exact hf.ok x hx
   ·rw [List.mem_singleton] at hx;subst hx;exact ⟨⟨h2.1,by omega⟩,hc⟩,by rw [qX,hf.pl,hne];rfl,λq hq=>by
   rw [MJ,hf.jl] at hq;have:q=t:=by simpa [tA,cJ.jl] using hq
   subst this;exact .inl h2,by rw [List.length_append];have:=hf.len;simp;omega⟩
 cases n with
 | const d v=>exact .of_flat rfl ((kU.nil.cons (XC (n:=v) jZ)).app hd) (by decide)
 | move d s=>exact .of_flat rfl (hl.app hd) (by decide)
 | bin op d a b=>exact .of_flat rfl ((hl.app (UD op)).app hd) (by decide)
 | un op d a=>exact .of_flat rfl ((hl.app (aIh op)).app hd) (by decide)
 | choose d c a b=>exact .of_flat rfl ((hl.app aDd).app hd) (by decide)
 | tick=>
  show NOk .tick N k (mR ((N:Int)+k)++vK of .tick);rw [hd0 rfl,List.append_nil];refine ⟨λx hx=>?_,by simp [mR,jV,cJ.pl,iY,aJ.tkB],λq hq=>.inr ⟨rfl,by simpa [mR,tA,cJ.jl,iY] using hq⟩,by simp [mR]⟩;simp only [mR,List.mem_cons,List.not_mem_nil,or_false] at hx;rcases hx with rfl|rfl|rfl|rfl|rfl
  ·exact CN (by decide) ⟨by decide,by decide⟩ (by decide)
  ·exact ⟨⟨by omega,by omega⟩,by decide⟩
  ·exact .inr (.inr (.inr (.inr (.inr (.inr ⟨rfl,rfl,rfl,rfl,by decide,rfl⟩)))))
  ·exact ⟨by omega,by omega⟩
  ·exact CN (by decide) ⟨by decide,by decide⟩ (by decide)
 | goto t=>
  show NOk (.goto t) N k ([.jump 14 t]++vK of (.goto t));rw [hd0 rfl,List.append_nil];exact jump (l:=[]) kU.nil (by decide) (hn.t t (by simp [aJ.nx])) (by decide) rfl
 | branch c t=>
  show NOk (.branch c t) N k ((jJ of _++[iY 9 0 0,.jump 1 t])++vK of (.branch c t));rw [hd0 rfl,List.append_nil,show [iY 9 0 0,cJ.jump 1 t]=[iY 9 0 0]++[.jump 1 t] from rfl,<- List.append_assoc]
  have h2:0<=t/\t < N:=by
   refine hn.t t ?_;simp only [aJ.nx];split
   ·rename_i h;rw [h];exact List.mem_singleton.2 rfl
   ·simp
  exact jump (hl.app (kU.nil.cons (UA (by decide) jZ (by decide)))) (by decide) h2 (by decide) rfl
 | getField d f=>
  have hf:0<=f/\f < 8:=hn.f;refine .of_flat rfl (((kU.nil.cons (x:=.one ⟨31,0,1,0,4*f,0⟩) ⟨.inr (.inr (.inr (.inr (.inr (.inl ⟨.inl rfl,jZ,qW,rfl,⟨?_,?_,?_⟩,rfl⟩))))),rfl,rfl⟩).cons (XC qW)).app hd) (by decide)<;>dsimp only<;>omega
 | putField f s=>
  have hf:0<=f/\f < 8:=hn.f;refine .of_flat rfl ((hl.app ((kU.nil.cons (x:=.one ⟨32,0,1,0,4*f,0⟩) ⟨.inr (.inr (.inr (.inr (.inr (.inl ⟨.inr rfl,jZ,qW,rfl,⟨?_,?_,?_⟩,rfl⟩))))),rfl,rfl⟩).cons (XC qW))).app hd) (by decide)<;>dsimp only<;>omega
 | serve op a b d l=>exact .of_flat rfl ((hl.app (kU.nil.cons (x:=.one ⟨44,0,0,0,(tl:Int)+1,0⟩) ⟨.inr (.inr (.inr (.inr (.inr (.inr ⟨rfl,rfl,rfl,rfl,⟨by dsimp only;omega,by dsimp only;omega⟩,rfl⟩))))),rfl,rfl⟩)).app hd) (by decide)
 | call m d l=>exact .of_flat rfl ((hl.app (kU.nil.cons (x:=.one ⟨44,0,0,0,(tl:Int)+1,0⟩) ⟨.inr (.inr (.inr (.inr (.inr (.inr ⟨rfl,rfl,rfl,rfl,⟨by dsimp only;omega,by dsimp only;omega⟩,rfl⟩))))),rfl,rfl⟩)).app hd) (by decide)
 | callX m d l=>exact .of_flat rfl ((hl.app (kU.nil.cons (x:=.one ⟨44,0,0,0,(tl:Int)+1,0⟩) ⟨.inr (.inr (.inr (.inr (.inr (.inr ⟨rfl,rfl,rfl,rfl,⟨by dsimp only;omega,by dsimp only;omega⟩,rfl⟩))))),rfl,rfl⟩)).app hd) (by decide)
 | ret s=>exact .of_flat rfl ((hl.app (kU.nil.cons (x:=.one ⟨44,0,0,0,(tl:Int)+1,0⟩) ⟨.inr (.inr (.inr (.inr (.inr (.inr ⟨rfl,rfl,rfl,rfl,⟨by dsimp only;omega,by dsimp only;omega⟩,rfl⟩))))),rfl,rfl⟩)).app hd) (by decide)
structure EOk (p:fN) (N k:Nat) (l:List cJ) (tab:List aJ):Prop where
 ok:∀ x∈l,x.okI
 pl:∀ q∈jV l,(∃ i:Nat,i < k/\q=i)\/∃ i:Nat,i < k/\q=(N:Int)+i/\(p.at' i).tkB=true
 nd:(jV l).Nodup
 mem:∀ i:Nat,i < k->(i:Int)∈jV l
 jl:∀ q∈tA l,(0<=q/\q < N)\/q∈jV l
 len:l.length<=4+14*k
 tab:tab=((List.range k).map p.at').filter aJ.srvB
theorem EP {p:fN} {of:List Int} {R N:Nat} {applet:Int} (hv:kT p) (hR:p.regs=R) (hN:p.nodes.length=N) (ho:NM of R):∀ k,k<=N->EOk p N k (gE p of applet k).1 (gE p of applet k).2
 | 0,_=>by
  have hp1:=hv.p1;have hp2:=hv.p2;have hp3:=hv.p3
  have each:∀ x∈(gE p of applet 0).1,x.okI/\x.pl=[]/\x.jl=[]:=λx hx=>by
   simp only [gE,List.mem_map,List.mem_range] at hx;obtain ⟨k,hk,rfl⟩:=hx;exact aIi ho ⟨by omega,by omega⟩ (by omega) (by omega)
  have h1:jV (gE p of applet 0).1=[]:=List.flatMap_eq_nil_iff.2 λx hx=>(each x hx).2.1;have h2:tA (gE p of applet 0).1=[]:=List.flatMap_eq_nil_iff.2 λx hx=>(each x hx).2.2;exact ⟨λx hx=>(each x hx).1,λq hq=>(by rw [h1] at hq;cases hq),(by rw [h1];exact List.nodup_nil),λi hi=>(by omega),λq hq=>(by rw [h2] at hq;cases hq),by simp [gE];omega,rfl⟩
 | k+1,hk=>by
  have ih:=EP (applet:=applet) hv hR hN ho k (by omega);have l2:=hv.l2;obtain ⟨hpk,hrk⟩:=hv.at (k:=k) (by omega);rw [hR,hN] at hrk;have htl:(gE p of applet k).2.length<=k:=by rw [ih.tab];exact Nat.le_trans (List.length_filter_le _ _) (by simp)
  have hn:=aIj (applet:=applet) (tl:=(gE p of applet k).2.length) ho hrk (by omega) (by omega) htl;have e1:(gE p of applet (k+1)).1=(gE p of applet k).1++.place k::oZ of N applet (gE p of applet k).2.length (p.at' k) k:=by rw [<- hN];rfl
  have e2:(gE p of applet (k+1)).2=if (p.at' k).srvB then (gE p of applet k).2++[p.at' k] else (gE p of applet k).2:=rfl
  generalize gE p of applet k=s at *;rw [e1,e2]
  have epl:jV (s.1++.place k::oZ of N applet s.2.length (p.at' k) k)=jV s.1++((k:Int)::if (p.at' k).tkB then [(N:Int)+k] else []):=by
   rw [qX,show jV (.place k::oZ of N applet s.2.length (p.at' k) k)=(k:Int)::jV (oZ of N applet s.2.length (p.at' k) k) from rfl,hn.pl]
  refine ⟨λx hx=>?_,λq hq=>?_,?_,λi hi=>?_,λq hq=>?_,?_,?_⟩
  ·rcases List.mem_append.1 hx with hx|hx
   ·exact ih.ok x hx
   ·rcases List.mem_cons.1 hx with rfl|hx
    ·exact ⟨by omega,by omega⟩
    ·exact hn.ok x hx
  ·rw [epl] at hq;rcases List.mem_append.1 hq with hq|hq
   ·rcases ih.pl q hq with ⟨i,h1,h2⟩|⟨i,h1,h2⟩
    ·exact .inl ⟨i,by omega,h2⟩
    ·exact .inr ⟨i,by omega,h2⟩
   ·rcases List.mem_cons.1 hq with rfl|hq
    ·exact .inl ⟨k,by omega,rfl⟩
    ·split at hq
     ·rename_i ht
      rw [List.mem_singleton] at hq;exact .inr ⟨k,by omega,hq,ht⟩
     ·cases hq
  ·rw [epl];refine List.nodup_append.2 ⟨ih.nd,?_,λa ha b hb he=>?_⟩
   ·split
    ·refine List.nodup_cons.2 ⟨λh=>?_,by simp⟩;rw [List.mem_singleton] at h;omega
    ·simp
   ·subst he
    have hb2:a=(k:Int)\/a=(N:Int)+k:=by
     rcases List.mem_cons.1 hb with hb|hb
     ·exact .inl hb
     ·split at hb
      ·exact .inr (by simpa using hb)
      ·cases hb
    rcases ih.pl a ha with ⟨i,h1,h2⟩|⟨i,h1,h2,_⟩<;>omega
  ·rw [epl];by_cases hik:i=k
   ·subst hik;exact List.mem_append_right _ List.mem_cons_self
   ·exact List.mem_append_left _ (ih.mem i (by omega))
  ·rw [epl];rw [MJ,show tA (.place k::oZ of N applet s.2.length (p.at' k) k)=tA (oZ of N applet s.2.length (p.at' k) k) from rfl] at hq;rcases List.mem_append.1 hq with hq|hq
   ·rcases ih.jl q hq with h1|h1
    ·exact .inl h1
    ·exact .inr (List.mem_append_left _ h1)
   ·rcases hn.jl q hq with h1|⟨h1,h2⟩
    ·exact .inl h1
    ·right;rw [if_pos h1];exact List.mem_append_right _ (by rw [h2];simp)
  ·have:=ih.len;have:=hn.len;rw [List.length_append,List.length_cons];omega
  ·rw [List.range_succ,List.map_append,List.filter_append,<- ih.tab];simp only [List.map_cons,List.map_nil,List.filter_cons,List.filter_nil];split<;>simp
structure tR (l:List cJ):Prop where
 len:l.length<=6000
 ok:∀ x∈l,x.okI
 nd:(jV l).Nodup
 jl:∀ q∈tA l,q∈jV l
def mQ (p:fN) (of:List Int) (applet:Int):List cJ:=(gE p of applet p.nodes.length).1
def jU (p:fN):List aJ:=p.nodes.filter aJ.srvB
theorem aFe {p:fN}:(List.range p.nodes.length).map p.at'=p.nodes:=by
 apply List.ext_getElem?;intro i;by_cases hi:i < p.nodes.length
 ·rw [List.getElem?_map,List.getElem?_range hi,List.getElem?_eq_getElem hi];show some (p.nodes.getD i _)=_;rw [List.getD_eq_getElem?_getD,List.getElem?_eq_getElem hi];rfl
 ·rw [List.getElem?_eq_none (by simp;omega),List.getElem?_eq_none (by omega)]
theorem yF {p:fN} {of:List Int} (hv:kT p) (hR:p.regs=R) (ho:NM of R):tR (mQ p of applet)/\(gE p of applet p.nodes.length).2=jU p:=by
 have h:=EP (applet:=applet) hv hR rfl ho p.nodes.length (Nat.le_refl _);have l2:=hv.l2;refine ⟨⟨by have:=h.len;unfold mQ;omega,h.ok,h.nd,λq hq=>?_⟩,by rw [h.tab,aFe];rfl⟩;rcases h.jl q hq with ⟨h1,h2⟩|h1
 ·obtain ⟨k,rfl⟩:∃ k:Nat,q=k:=⟨q.toNat,by omega⟩;exact h.mem k (by omega)
 ·exact h1
def aJ.pk:aJ->Int
 | .const _ _=>1|.move _ _=>2|.bin _ _ _ _=>3|.un _ _ _=>4|.choose _ _ _ _=>5|.tick=>6|.goto _=>7|.branch _ _=>8
 | .getField _ _=>9|.putField _ _=>10|.serve _ _ _ _ _=>11|.call _ _ _=>12|.callX _ _ _=>13|.ret _=>14
def aJ.pop:aJ->Int
 | .bin op _ _ _|.un op _ _|.serve op _ _ _ _=>op
 | _=>0
def aJ.pN (_:Int):aJ->Int
 | .const _ n=>IntKind.i64.wrap n
 | .getField _ f|.putField f _=>f
 | .call k _ _|.callX k _ _=>k
 | _=>0
def aJ.pA:aJ->Int
 | .serve _ a _ _ _=>a
 | _=>0
def aJ.pB:aJ->Int
 | .serve _ _ b _ _=>b
 | _=>0
def aJ.pT:aJ->Int
 | .goto t|.branch _ t=>t
 | _=>0
def aJ.pcs (g:aJ) (m:Int) (sv:Y):List Y:=[i64 g.pk,i64 g.df,i64 g.pop,i64 (g.pN m),i64 g.pA,i64 g.pB,i64 g.pT,sv]
def bKm (w:O) (v:Y) (g:aJ):Prop:=∃ m sv,v=.agg (g.pcs m sv).toArray/\aN w sv g.us
def bLm (v0:Y) (w w':O) (v:Y) (g:aJ):Prop:=∃ m sv,v=.agg (g.pcs m sv).toArray/\((∀ w0,jA w0 v0 g->aN w0 sv g.us)\/w'.ownsRow w.heap.size 3 1 sv g.us.length (g.us.map i64))
def aJ.wr:aJ->Int
 | .const _ _|.move _ _|.bin _ _ _ _|.un _ _ _|.choose _ _ _ _|.getField _ _=>1
 | .serve _ _ _ _ _|.call _ _ _|.callX _ _ _=>0
 | _=>-1
def bKn (w:O) (v:Y) (params regs:Int) (gs:List aJ):Prop:=∃ ns cs,v=.agg #[i64 params,i64 regs,ns]/\aA w ns 8 gs.length cs/\∀ (i:Nat) g,gs[i]?=some g->∃ m sv,(cs.drop (i*8)).take 8=g.pcs m sv/\aN w sv g.us
end Go.Proofs.YtjcmcfidblhnnaaGreatDoor
namespace Go.Vc
open Go.Proofs
section
variable {P:Program} {w:O}
theorem zM {w:O} {B B' e e' s s' n n':Nat} {v v':Y} {xs xs':List Y} (h:w.ownsRow B e s v n xs) (h':w.ownsRow B' e' s' v' n' xs') (hne:e≠e'):v.ownBlock=none\/v.ownBlock≠v'.ownBlock:=by
 rcases h.2 with ⟨rfl,_⟩|⟨g,cap,cur,rfl,_,h1,_⟩
 ·exact .inl rfl
 ·refine .inr ?_;rcases h'.2 with ⟨rfl,_⟩|⟨g',cap',cur',rfl,_,h2,_⟩
  ·simp [Value.ownBlock]
  ·simp only [Value.ownBlock,ne_eq,Option.some.injEq];rintro rfl;rw [h1] at h2;cases h2;exact hne rfl
theorem aPs {w:O} {B e s n g:Nat} {v:Y} {xs:List Y} (h:w.ownsRow B e s v n xs) (hg:g < B):v.ownBlock≠some g:=λhe=>by have:=(h.lt g he).1;omega
theorem aBl {w:O} {g o:Nat} {u:Y}:w.grownBy (w.setCell ⟨g,o,none⟩ u) (some g):=⟨rfl,rfl,rfl,by simp,λ_ _ hne=>heap_setCell_other _ _ _ _ (λhe=>hne (by simp [he]))⟩
theorem lN {w:O} {B e s n g o:Nat} {v u:Y} {xs:List Y} (h:w.ownsRow B e s v n xs) (hg:g < B):(w.setCell ⟨g,o,none⟩ u).ownsRow B e s v n xs:=
 h.kept aBl (.inr (aPs h hg))
end
end Go.Vc
namespace Go.Proofs.YtjcmcfidblhnnaaGreatDoor
open Tryz
open Go.Vc
variable {w w0:O} {R g0 sg ub:Nat} {m:Mx} {ov:Y} {gs:List Nat} {sb:List Bool}
theorem nU {B e s n:Nat} {v:Y} {xs:List Y} (h:w.ownsRow B e s v n xs):bY v=true:=by
 obtain ⟨a,c,rfl⟩:=(aA.of_own h).shape;rfl
def El (p:fN) (w0 w:O) (B i:Nat) (cs:List Y):Prop:=∀ j,j < i->∃ g m sv,p.nodes[j]?=some g/\(cs.drop (j*8)).take 8=g.pcs m sv/\(aN w0 sv g.us\/w.ownsRow B 3 1 sv g.us.length (g.us.map i64))
def bMf (l:List Bool) (of:List Int):Prop:=∀ (r s:Nat),s < r->l[r]?=some true->l[s]?=some true->of[r]?≠of[s]?
def wZ (l:List Bool) (d:Int):List Bool:=if 0<=d then l.set d.toNat true else l
theorem aBe (l:List Bool) (d:Int):(wZ l d).length=l.length:=by unfold wZ;split<;>simp
theorem aOu {l:List Bool} {lv:Y} {d:Int} (hl:gF w lv l) (hb:l.length<=1000) (hd:d < l.length) :
  aC prog 85 #[lv,i64 d] w λr w'=>w'.ownsRow w.heap.size 4 1 r l.length ((wZ l d).map Value.bool)/\aE w w':=by
 apply bFi;unfold YQ;refine jX aDx [] rfl rfl (by simp) rfl λv0 w2 ho2 x2=>?_;refine UQ aDx ho2 (hl.ext x2) (by simp [bY]) (by omega) (by unfold maxLen;omega) x2.size λov w3 ho3 hg3=>?_;have x3:aE w w3:=x2.grown hg3 λk hk=>(ho2.lt k hk).1;simp only [Nat.zero_add,List.nil_append] at ho3;refine kO.2 (aB (λhge=>?_) λhlt=>?_)
 ·have hge':0<=d:=hge;refine stO hY kS ho3 hge' hd rfl λw5 ho5 hg=>?_;rw [nW] at ho5;refine ⟨?_,x3.grown hg λk hk=>(ho3.lt k hk).1⟩;unfold wZ;rw [if_pos hge'];exact ho5
 ·refine ⟨?_,x3⟩;unfold wZ;rw [if_neg (by simpa using hlt)];exact ho3
def BF (m:Mx) (sl:List Bool) (of:List Int) (r:Nat) (at':Int):Prop:=(sl[r]?=some true->16<=at')/\∀ (o:Nat) (y:Int),of[o]?=some y->m r o=true->y≠at'
theorem aGq {sl:List Bool} {of:List Int} {mv slv ofv:Y} {r:Nat} {at':Int} (hR:R<=40) (hm:yT w mv R R m) (hs:gF w slv sl) (hsl:sl.length=R) (ho:aN w ofv of) (hof:of.length=R) (hr:r < R) :
  aC prog 41 #[.agg #[mv,slv,ov],i64 r,i64 at',ofv] w λq w'=>(∃ ok:Bool,q=.bool ok/\(ok=true↔BF m sl of r at'))/\aE w w':=by
 apply bGw;unfold aAb;obtain ⟨cs,hcs,hrow⟩:=hm.row (by omega) hR;obtain ⟨u,hu,hub⟩:=hrow r hr;obtain ⟨oa,oc,rfl⟩:=ho.shape;obtain ⟨s,hss⟩:=bE (l:=sl) (j:=r) (by omega);refine bx λb w1 hb1 x1=>?_;refine bC hb1 dS oL rfl ?_;refine lV hY oM (hs.ext x1) (by omega) (by omega) (MS hss) ?_;have key:∀ {X:Prop},((s=true/\at' < 16)->(∃ ok:Bool,Value.bool false=.bool ok/\(ok=true↔BF m sl of r at'))/\aE w w1)/\(¬ (s=true/\at' < 16)->X)->True:=λ_=>trivial;have no:∀ {w'},aE w w'->¬ BF m sl of r at'->(∃ ok:Bool,Value.bool false=.bool ok/\(ok=true↔BF m sl of r at'))/\aE w w':=λhx hn=>⟨⟨false,rfl,λh=>(by cases h),λh=>absurd h hn⟩,hx⟩
 have rest:(s=true->16<=at')->∃ (I1:NP 1) (μ1:NF 1),I1 (Value.int IntKind.i64 0) w1 /\
   ∀ (t22:Y),∀ w10:O,I1 t22 w10->∀ _f:bM,
   V prog (binOp .lss 3 t22 (i64 of.length)) w10 λt23 w11=>
   aI t23 (
   V prog (Instr.indexAt 23 (.slice oa of.length oc) t22) w11 λt25 w12=>
   V prog (Instr.loadAt 3 t25) w12 λt26 w13=>
   V prog (Instr.fieldAt 141 (.pointer (some ⟨b,0,none⟩)) 0) w13 λt27 w14=>
   V prog (Instr.loadAt 139 t27) w14 λt28 w15=>
   V prog (Instr.indexAt 139 t28 (i64 r)) w15 λt30 w16=>
   V prog (Instr.loadAt 95 t30) w16 λt31 w17=>
   V prog (Instr.indexAt 95 t31 t22) w17 λt33 w18=>
   V prog (Instr.loadAt 4 t33) w18 λt34 w19=>
   gd t34 true (λK=>K t26 w19) w19 λt36 w20=>
   gd t34 true (λK=>K (i64 at') w20) w20 λt37 w21=>
   gd t34 true (λK=>V prog (do eqGuard .eql 3 (Operand.tmp 36) (Operand.tmp 37) t36 t37;binOp .eql 3 t36 t37) w21 K) w21 λt38 w22=>
   aF t34 t38 (Value.bool false) λt39=>
   aI t39 (
   (∃ ok:Bool,Value.bool false=.bool ok/\(ok=true↔BF m sl of r at'))/\aE w w22) (
   V prog (binOp .add 3 t22 (Value.int IntKind.i64 1)) w22 λt40 w24=>
   I1 t40 w24/\μ1 t40 w24 < μ1 t22 w10)) (
   (∃ ok:Bool,Value.bool true=.bool ok/\(ok=true↔BF m sl of r at'))/\aE w w11):=by
  intro hslot;refine ⟨λv w'=>∃ i:Nat,v=i64 i/\i<=of.length/\w1=w'/\∀ (o:Nat) (y:Int),o < i->of[o]?=some y->m r o=true->y≠at',λv _=>of.length - (RowKit.intOf v).toNat,⟨0,rfl,Nat.zero_le _,rfl,λo y h=>by omega⟩,?_⟩;rintro _ _ ⟨i,rfl,hi,rfl,hdone⟩ _;refine aW.2 (aB (λhlt=>?_) λhge=>?_)
  ·have hi':i < of.length:=by omega
   obtain ⟨y,hy⟩:=bE hi';refine lV aQ aG (ho.ext x1) (by omega) (by omega) (cK hy) ?_;refine bC hb1 dT gZ rfl ?_;refine lV rS oL (hcs.ext x1) (by omega) (by omega) (by simpa using hu) ?_;have hub':aA w u 1 R ((mV m r R).map Value.bool):=by have:=hub;unfold gF at this;rw [gR] at this;exact this
   refine lV hY oM (hub'.ext x1) (by omega) (by omega) (MS (lW (by omega))) ?_
   have go:(m r i=true->y≠at')->V prog (binOp .add 3 (i64 i) (Value.int IntKind.i64 1)) w1 λt40 w24=>(∃ i:Nat,t40=i64 i/\i<=of.length/\w1=w24/\∀ (o:Nat) (y:Int),o < i->of[o]?=some y->m r o=true->y≠at')/\of.length - (RowKit.intOf t40).toNat < of.length - (RowKit.intOf (i64 (i:Int))).toNat:=by
    intro h;refine kQ (by omega) ?_;refine ⟨⟨i+1,rfl,by omega,rfl,λo y' ho1 ho2=>?_⟩,by simp only [aL];omega⟩;by_cases hoi:o=i
    ·subst hoi;rw [hy] at ho2;cases ho2;exact h
    ·exact hdone o y' (by omega) ho2
   cases hmi:m r i with
   | false=>
    simp only [lG,aV,Bool.false_eq_true,reduceIte,aP];exact go λh=>by rw [hmi] at h;cases h
   | true=>
    simp only [lO];refine aH.2 ?_;simp only [aV,reduceIte];refine aB (λheq=>?_) λhne=>?_
    ·exact no x1 λh=>h.2 i y hy hmi heq
    ·exact go λ_ h=>hne h
  ·have hil:i=of.length:=by omega
   refine ⟨⟨true,rfl,λ_=>⟨λh=>hslot (by rw [hss] at h;exact Option.some.inj h),λo y h1 h2=>hdone o y (by have:=(List.getElem?_eq_some_iff.1 h1).1;omega) h1 h2⟩,λ_=>rfl⟩,x1⟩
 clear key;cases s with
 | false=>
  simp only [lG,aV,Bool.false_eq_true,reduceIte,aP];refine XY.2 ?_;exact rest λh=>by cases h
 | true=>
  simp only [lO];refine aW.2 ?_;simp only [aV,reduceIte];refine aB (λhlt=>?_) λhge=>?_
  ·exact no x1 λh=>by have:=h.1 hss;omega
  ·refine XY.2 ?_;exact rest λ_=>by omega
def aJ.pureB:aJ->Bool
 | .const _ _|.move _ _|.bin _ _ _ _|.un _ _ _|.choose _ _ _ _|.tick|.goto _|.branch _ _=>true
 | _=>false
def aJ.leavesB:aJ->Bool
 | .getField _ _|.putField _ _=>true
 | g=>g.pureB
theorem aPm {g:aJ} {v:Y} (h:jA w v g):aC prog 137 #[v] w λr w'=>r=.bool g.pureB/\w'=w:=by
 obtain ⟨sv,rfl,hs⟩:=h;apply aXw;unfold QS;cases g<;>(dsimp only [aJ.val];(repeat (first|(with_reducible refine thK (by first|exact bN|exact fM|exact gG|exact iE|exact gP|exact gX|exact jL|exact jK|exact lC|exact lK|exact mD|exact nO|exact tM|exact oY) ?_)|(with_reducible refine tmK (by first|exact bN|exact fM|exact gG|exact iE|exact gP|exact gX|exact jL|exact jK|exact lC|exact lK|exact mD|exact nO|exact tM|exact oY) (by decide) λ_=>?_)));simp only [aV,bJ,aP,Bool.false_eq_true,reduceIte];first|exact ⟨rfl,rfl⟩|exact ⟨trivial,rfl⟩|exact ⟨trivial,trivial⟩|exact ⟨rfl,trivial⟩)
theorem aCo {g:aJ} {v:Y} (h:jA w v g):aC prog 86 #[v] w λr w'=>r=.bool g.leavesB/\w'=w:=by
 have h0:=h;obtain ⟨sv,rfl,hs⟩:=h;apply bFh;unfold YP;have hp:=aPm h0;cases g<;>(dsimp only [aJ.val] at hp ⊢;(repeat (first|(with_reducible refine thK (by first|exact bN|exact fM|exact gG|exact iE|exact gP|exact gX|exact jL|exact jK) ?_)|(with_reducible refine tmK (by first|exact bN|exact fM|exact gG|exact iE|exact gP|exact gX|exact jL|exact jK) (by decide) λ_=>?_)));simp only [aV,bJ,aP,Bool.false_eq_true,reduceIte];first|exact ⟨rfl,rfl⟩|exact ⟨trivial,rfl⟩|exact ⟨trivial,trivial⟩|exact ⟨rfl,trivial⟩|exact hp)
structure Ru (w0 w:O) (ub g0 sg:Nat) (ov:Y) (gs:List Nat) (R:Nat) (m:Mx) (sb:List Bool):Prop where
 x:aE w0 w
 u:bO w ub [.slice (some ⟨g0,0,none⟩) R R,.slice (some ⟨sg,0,none⟩) R R,ov] 141
 out:bO w g0 (gs.map (sl R)) 95
 slot:bO w sg (sb.map Value.bool) 4
 rows:∀ (k g:Nat),gs[k]?=some g->bO w g ((mV m k R).map Value.bool) 4
 lo:w0.heap.size<=ub/\w0.heap.size<=g0/\w0.heap.size<=sg/\∀ g∈gs,w0.heap.size<=g
 ne:ub≠g0/\ub≠sg/\g0≠sg/\∀ g∈gs,g≠ub/\g≠g0/\g≠sg
 nd:gs.Nodup
theorem Ru.setRow (h:Ru w0 w ub g0 sg ov gs R m sb) {k g:Nat} (hk:gs[k]?=some g) (r:Nat) (v:Bool) :
  Ru w0 (w.setCell ⟨g,r,none⟩ (.bool v)) ub g0 sg ov gs R (sU m k r v) sb:=by
 have hgm:=List.mem_of_getElem? hk;obtain ⟨n1,n2,n3⟩:=h.ne.2.2.2 g hgm;refine ⟨h.x.setCell (h.lo.2.2.2 g hgm) _,h.u.other (Ne.symm n1),h.out.other (Ne.symm n2),h.slot.other (Ne.symm n3),λk' g' hk'=>?_,h.lo,h.ne,h.nd⟩;by_cases he:k'=k
 ·subst he;rw [hk] at hk';cases hk';rw [LF,<- nW];exact (h.rows _ _ hk).set r _
 ·rw [CV he];exact (h.rows k' g' hk').other λhgg=>he (aGf h.nd hk' (hgg▸hk))
theorem Ru.setSlot (h:Ru w0 w ub g0 sg ov gs R m sb) (r:Nat) (v:Bool) :
  Ru w0 (w.setCell ⟨sg,r,none⟩ (.bool v)) ub g0 sg ov gs R m (sb.set r v):=by
 refine ⟨h.x.setCell h.lo.2.2.1 _,h.u.other h.ne.2.1,h.out.other h.ne.2.2.1,?_,λk' g' hk'=>(h.rows k' g' hk').other ((h.ne.2.2.2 g' (List.mem_of_getElem? hk')).2.2),h.lo,h.ne,h.nd⟩;rw [<- nW];exact h.slot.set r _
end Go.Proofs.YtjcmcfidblhnnaaGreatDoor
