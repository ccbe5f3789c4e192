/- Package place: the rules' blocks are laid; all over the whole state; the row of Ahead is the call's own. -/
import Derived.Test.YtjcmcfidblhnnaaGreatDoorMg
import Derived.Great.FillDense
import Derived.Great.BuildSlice
import Derived.Laws.StructEq
set_option maxHeartbeats 4000000
namespace Go.Proofs.YtjcmcfidblhnnaaGreatDoor
open Tryz
open Go.Vc
variable {p:eY} {R i r:Nat} {pv:Value} {w:World} {m:Mx} {sb:List Bool} {ord:List Int} {slots:Int}
theorem Rx.setSlot {w0 w:World} {c:RC} {ov:Value} {m:Mx} {sb:List Bool} {ord:List Int} (h:Rx w0 w c ov m sb ord) (r:Nat) (v:Bool):Rx w0 (w.setCell ⟨c.sg,r,none⟩ (.bool v)) c ov m (sb.set r v) ord:=by
 have f:Fr (λi=>i=c.sg) w (w.setCell ⟨c.sg,r,none⟩ (.bool v)):=Fr.of_set rfl;have h1:=h.ord';have h2:=h.lim;refine ⟨h.ru.setSlot r v,f.blk h.box (by omega),f.blk h.seen (by omega),f.own h.ov λk hk he=>?_,h.lim,by have:=f.size;omega⟩;have:=(h.ov.lt k hk).1;omega
theorem Mv.set {c:RC} {ov ov':Value} {w w':World} (h:Mv c ov w ov' w') (r:Nat) (v:Value):Mv c ov w ov' (w'.setCell ⟨c.sg,r,none⟩ v):=⟨h.fr.set (.inr (.inr (.inl rfl))),h.own⟩
def qN (n:Nat):List Int:=(List.range n).map λr=>((r:Nat):Int)
theorem FF (n:Nat):qN (n+1)=qN n++[((n:Nat):Int)]:=by simp [qN,List.range_succ]
theorem wQ (n:Nat):(qN n).length=n:=by simp [qN]
theorem aCz (hp:pD w pv p) (hv:kJ p) (hR:p.regs=R) :
  aB prog 81 #[pv] w λr w'=>(∃ l:List Bool,l.length=R/\w'.ownsRow w.heap.size 4 1 r R (l.map .bool)/\∀ r < R,(l[r]?=some true↔uJ p (nQ p) 0 r))/\aF w w':=by
 have hp0:=hp;obtain ⟨ns,rfl,hns,hargs⟩:=hp;have hns0:=hns;obtain ⟨vs,hs,hvs⟩:=hns;have hl1:=hv.l1;have hl2:=hv.l2;have hr1:=hv.r1;have hr2:=hv.r2;obtain ⟨hpt,hrt⟩:=hv.at (k:=0) (by omega);obtain ⟨u,hu,hnu⟩:=hvs 0 _ hpt;apply bEd;unfold YF;refine bx λb w1 hb x1=>?_;refine iO hb qC rfl ?_;refine (uC (p:=p) (hp0.ext x1) hv).mono λr w2 ⟨hr,x2⟩=>?_;subst hr;refine dK.2 (aP.2 ?_);have hb2:=hb.ext x2;have X2:=x1.trans x2;refine aM.mk' (λw'=>aF w2 w') (aF.refl _).drew ?_;refine jM (λw' hw=>hb2.ext hw) eG kD rfl ?_;refine nR mW CZ (hs.ext X2) (λ_ h=>h) (by omega) (by omega) (by simpa using hu) ?_;refine yA (λw' hw=>hb2.ext hw) qC rfl ?_;refine (aCs (hp0.ext (X2.trans (aF.refl _).drew)) hv hR).mono λmv w3 ⟨⟨m,hm,ham⟩,x3⟩=>?_;have x3':aF w2 w3:=aF.trans (aF.refl _).drew x3;refine ⟨x3',λw'=>aF w3 w',λw' h=>x3'.trans h,aF.refl _,?_⟩;obtain ⟨cs,hcs,hrow⟩:=hm.row hl2 (by omega);obtain ⟨rv,hrv,hrb⟩:=hrow 0 (by omega);refine nR rL oC hcs (λ_ h=>h) (by omega) (by omega) (by simpa using hrv) ?_;have hdf:(p.at' 0).df < R:=by rcases hrt.d with h|h<;>omega
 have hus:∀ r∈(p.at' 0).us,0<=r/\r < ((mN m 0 R).length:Int):=λr hr=>by have:=hrt.u r hr;rw [gI];omega
 refine (MP (hnu.ext (X2.trans x3')) hrb (hargs _ (List.mem_of_getElem? hpt)) (by rw [gI];omega) (by rw [gI];exact hdf) hus).mono λav w4 ⟨hav,x4⟩=>?_;refine ⟨x4,λw'=>aF w3 w',λ_ h=>h,x4,⟨⟨_,?_,(aX (by rw [gI] at hav;exact hav) (X2.trans x3').size),λr hr=>?_⟩,(X2.trans x3').trans x4⟩⟩
 ·rw [wH,gI]
 ·rw [EF (by rw [gI];exact hr) (λx hx=>(hus x hx).1)];rw [List.getD_eq_getElem?_getD,lS hr];simp only [Option.getD_some,Option.some.injEq,Bool.or_eq_true,Bool.and_eq_true,decide_eq_true_eq];unfold uJ;rw [ham 0 r (by omega) hr]
theorem XF {w0:World} {c:RC} {ov lv:Value} {l:List Bool} {B:Nat} (h:Rx w0 w c ov m sb ord) (hR:c.R<=40) (hgl:c.gs.length=c.R) (hl:l.length=c.R)
  (ha:w.ownsRow B 4 1 lv c.R (l.map Value.bool)) (hn:∀ k,lv.ownBlock=some k->¬ Mu c ov k) :
  aB prog 83 #[.pointer (some ⟨c.ub,0,none⟩),lv] w λ_ w'=>(∃ m',Rx w0 w' c ov m' sb ord/\∀ a b,a < c.R->b < c.R->(m' a b=true↔m a b=true\/(a≠b/\l[a]?=some true/\l[b]?=some true)))/\Fr (λi=>i∈c.gs) w w':=by
 refine (bDd hR hgl hl h.ru ha λk hk hg=>hn k hk (.inr (.inr (.inr (.inr (.inr (.inl hg))))))).mono λr w' ⟨⟨m',hru,hm⟩,hf⟩=>⟨⟨m',⟨hru,hf.blk h.box ?_,hf.blk h.seen ?_,hf.own h.ov λk hk hg=>?_,h.lim,?_⟩,hm⟩,hf⟩
 iterate 2
  ·intro hg;have:=h.lim.2.2.2 _ hg;have:=h.ord';omega
 ·have:=h.lim.2.2.2 _ hg;have:=h.ord';have:=(h.ov.lt k hk).1;omega
 ·have:=h.ord';have:=hf.size;omega
def Laid (w2:World) (R:Nat) (t3:Value) (w:World):Prop:=∃ ub g0 sg,t3=.pointer (some ⟨ub,0,none⟩)/\aF w2 w/\bO w ub [sl R g0,sl R sg,.slice none 0 0] 141/\bO w g0 (List.replicate R (.slice none 0 0)) 95/\bO w sg (List.replicate R (.bool false)) 4 /\
 w2.heap.size<=ub/\w2.heap.size<=g0/\w2.heap.size<=sg/\ub≠g0/\ub≠sg/\g0≠sg
theorem uP {w2:World} {ub g0 sg:Nat} (hx:aF w2 w) (hu:bO w ub [.slice none 0 0,.slice none 0 0,.slice none 0 0] 141) (hm:bO w g0 (List.replicate R (.slice none 0 0)) 95) (hs:bO w sg (List.replicate R (.bool false)) 4)
  (h1:w2.heap.size<=ub) (h2:w2.heap.size<=g0) (h3:w2.heap.size<=sg) (h4:ub≠g0) (h5:ub≠sg) (h6:g0≠sg) :
  U prog (Instr.storeAt 141 (.pointer (some ⟨ub,0,none⟩)) (.agg #[sl R g0,sl R sg,.slice none 0 0])) w λ_ w'=>Laid w2 R (.pointer (some ⟨ub,0,none⟩)) w':=
 zS pW hu (l:=[sl R g0,sl R sg,.slice none 0 0]) rfl rfl rfl rfl λ_ hu' hc=>⟨ub,g0,sg,rfl,hc.ext w2 hx h1,hu',hc.other (Ne.symm h4) hm,hc.other (Ne.symm h5) hs,h1,h2,h3,h4,h5,h6⟩
def yK (p:eY) (a b:Nat):Prop:=a≠b/\((JJ p a/\JJ p b)\/∃ k,k < p.nodes.length/\JK p k a/\JK p k b)
def BK (p:eY) (r:Nat):Prop:=∃ k,k < p.nodes.length/\(p.at' k).leavesB=false/\nQ p k r/\(r:Int)≠(p.at' k).df
def pV (p:eY) (R:Nat):List Int:=qN p.params.toNat++p.nodes.map aJ.df++qN R
def bDh (p:eY) (R:Nat) (r:Value) (w:World):Prop:=∃ g0 sg ov m sb,r=.agg #[sl R g0,sl R sg,ov]/\yL w (sl R g0) R R m/\fX w (sl R sg) sb/\sb.length=R/\aN w ov (eX [] (pV p R)) /\
 (∀ a b,a < R->b < R->(m a b=true↔yK p a b))/\∀ r,r < R->(sb[r]?=some true↔BK p r)
theorem CC (hp:pD w pv p) (hv:kJ p) (hR:p.regs=R) :
  aB prog 40 #[pv] w λr w'=>bDh p R r w'/\aF w w':=by
 have hp0:=hp;obtain ⟨ns,rfl,hns,hargs⟩:=hp;obtain ⟨vs,hs,hvs⟩:=hns;have hl1:=hv.l1;have hl2:=hv.l2;have hr1:=hv.r1;have hr2:=hv.r2;have hp1:=hv.p1;have hp2:=hv.p2;have hp3:=hv.p3;apply bFl;unfold ZK;refine bx λb w1 hb x1=>?_;refine AP pW λw2 hz x2=>?_;have hb2:=hb.ext x2;have X12:=x1.trans x2;refine ⟨Laid w2 R,?_,?_⟩
 rotate_left
 ·rintro _ w25 ⟨ub,g0,sg,rfl,x25,hu25,hg25,hs25,l1,l2,l3,n1,n2,n3⟩ _;refine bF (hb2.ext x25) gA aH rfl ?_;rw [hR];have hu25':=hu25.lt;have hg25':=hg25.lt;have hs25':=hs25.lt
  refine ⟨λv w'=>∃ gs:List Nat,v=i64 gs.length/\gs.length<=R/\aF w2 w'/\bO w' ub [sl R g0,sl R sg,.slice none 0 0] 141/\bO w' sg (List.replicate R (.bool false)) 4/\(∀ g∈gs,w2.heap.size<=g/\g < w'.heap.size/\g≠ub/\g≠g0/\g≠sg)/\gs.Nodup /\
    bO w' g0 (gs.map (sl R)++List.replicate (R - gs.length) (.slice none 0 0)) 95/\∀ g∈gs,bO w' g (List.replicate R (.bool false)) 4,
   λv _=>R - (RowKit.intOf v).toNat,⟨[],rfl,Nat.zero_le _,x25,hu25,hs25,by simp,List.nodup_nil,by simpa using hg25,by simp⟩,?_⟩
  rintro _ w4 ⟨gs,rfl,hle,x4,hu4,hs4,hgg,hnd,ho4,hrows4⟩ _;have hu4':=hu4.lt;have hs4':=hs4.lt;have ho4':=ho4.lt;refine aY.2 (aD (λhlt=>?_) λhge=>?_)
  ·have D4:aF w4 w4.drew:=(aF.refl _).drew;refine aM.mk' (λw'=>aF w4 w') D4 ?_;refine jM (λw' hw=>(hu4.ext hw).boxed) dS gQ rfl ?_;refine jM (λw' hw=>hb2.ext (x4.trans hw)) gA aH rfl ?_;refine xG hR underlying95 kP rfl (n:=R) (by omega) (by omega) λw5 hrow x5 hsz5=>?_;have x45:=D4.trans x5;have hz4:w4.drew.heap.size=w4.heap.size:=rfl;rw [hz4] at hrow hsz5;refine ⟨x45,?_⟩;refine aE.ok (λw' _=>aEu (by omega) (by omega)) ?_;rw [Int.toNat_natCast];refine JY rE (ho4.ext x45) (by simp;omega) rfl ?_;refine aU.2 ?_;rw [aC (by omega) (by omega),aR];have hset:=(ho4.ext x45).set gs.length (sl R w4.heap.size);rw [KC R _ gs R (by omega)] at hset;have hx45:=x45.size;refine ⟨⟨gs++[w4.heap.size],by simp,by simp;omega,(x4.trans x45).setCell l2 _,(hu4.ext x45).other n1,(hs4.ext x45).other (Ne.symm n3),?_,?_,hset,?_⟩,by simp only [aL];omega⟩
   ·intro g hg;simp only [World.size_setCell];rcases List.mem_append.1 hg with h|h
    ·have:=hgg g h;omega
    ·have:g=w4.heap.size:=by simpa using h
     have:=x4.size;omega
   ·refine List.nodup_append.2 ⟨hnd,by simp,?_⟩;intro a ha c hc;have:c=w4.heap.size:=by simpa using hc
    have:=hgg a ha;omega
   ·intro g hg;rcases List.mem_append.1 hg with h|h
    ·exact ((hrows4 g h).ext x45).other (by have:=hgg g h;omega)
    ·have he:g=w4.heap.size:=by simpa using h
     subst he;exact hrow.other (by omega)
  have hgl:gs.length=R:=by omega
  rw [hgl,Nat.sub_self] at ho4;simp only [List.replicate_zero,List.append_nil] at ho4;refine iO (hb2.ext x4) qC rfl ?_;refine (aCz (hp0.ext (X12.trans x4)) hv hR).mono λav w5 ⟨⟨l,hll,hlo,hla⟩,x5⟩=>?_;have x25':=x4.trans x5;refine bF (hb2.ext x25') gA aH rfl ?_;refine xG hR underlying95 kP rfl (n:=R) (by omega) (by omega) λw6 hsn x6 hsz6=>?_;refine sI bHe rfl rfl λw7 hsx x7=>?_;refine fnK ?_;have x57:=x6.trans x7;have x27:=x25'.trans x57;have hsx':=hsx.lt;have hx7:=x7.size;have hx5:=x5.size;have hx4:=x4.size;have hc:∃ c:RC,c=⟨ub,g0,sg,w6.heap.size,w5.heap.size,R,w4.heap.size,w7.heap.size,gs⟩:=⟨_,rfl⟩;obtain ⟨c,hc⟩:=hc
  have hRx:Rx w2 w7 c (.slice none 0 0) (λ_ _=>false) (List.replicate R false) []:=by
   subst hc
   refine ⟨⟨x27,(hu4.ext x5).ext x57,(ho4.ext x5).ext x57,by simpa using (hs4.ext x5).ext x57,λk g hk=>by rw [CF];exact ((hrows4 g (List.mem_of_getElem? hk)).ext x5).ext x57,⟨l1,l2,l3,λg hg=>(hgg g hg).1⟩,⟨n1,n2,n3,λg hg=>(hgg g hg).2.2⟩,hnd⟩,
    hsx,by rw [aAt];exact hsn.ext x7,⟨rfl,.inl ⟨rfl,rfl⟩⟩,⟨hu4',ho4',hs4',λg hg=>(hgg g hg).2.1⟩,⟨hx4,hx5,by show w5.heap.size < w6.heap.size;omega,by show w6.heap.size < w7.heap.size;omega,Nat.le_refl _⟩⟩
  have hcub:c.ub=ub:=by rw [hc]
  have hcsx:c.sx=w6.heap.size:=by rw [hc]
  have hcg0:c.g0=g0:=by rw [hc]
  have hcsg:c.sg=sg:=by rw [hc]
  have hcgs:c.gs=gs:=by rw [hc]
  have hcR:c.R=R:=by rw [hc]
  have hav:∀ k,av.ownBlock=some k->¬ Mu c (.slice none 0 0) k:=by
   intro k hk hm;have hlt:=hlo.lt k hk;have h1:=hRx.ord';have h2:=hRx.lim;subst hc;simp only at h1 h2;unfold Mu at hm;rcases hm with h|h|h|h|h|h|h
   iterate 3
    ·omega
   iterate 2
    ·simp only at h;omega
   ·have:=h2.2.2.2 k h;omega
   ·cases h
  have hlo7:=x57.own hlo;rw [<- hcub,<- hcsx];clear hu4 hs4 ho4 hrows4 hgg hu25 hg25 hs25 hsn hsx;have hb7:∀ {w'},aF w2 w'->bG w' b _:=λh=>hb2.ext h;refine bF (hb7 x27) kW aH rfl ?_
  refine ⟨λv w'=>∃ (r:Nat) (ov:Value) (l':List Bool),v=i64 r/\(r:Int)<=p.params/\Rx w2 w' c ov (λ_ _=>false) (List.replicate R false) (eX [] (qN r))/\l'.length=R/\w'.ownsRow w4.heap.size 4 1 av R (l'.map .bool) /\
    (∀ s,s < R->(l'[s]?=some true↔(uJ p (nQ p) 0 s\/s < r)))/\∀ k,av.ownBlock=some k->¬ Mu c ov k,
   λv _=>p.params.toNat - (RowKit.intOf v).toNat,⟨0,_,l,rfl,hp1,hRx,hll,hlo7,λs hs=>by rw [hla s hs];simp,hav⟩,?_⟩
  rintro _ w8 ⟨r,ov,l',rfl,hr,hRx8,hll',hlo8,hla',hav8⟩ _;have hordlen:=tC [] (qN r);rw [wQ] at hordlen;refine aY.2 (aD (λhlt=>?_) λhge2=>?_)
  ·refine stO gT kP hlo8 (by omega) (by omega) rfl λw9 ho9 hg9=>?_;rw [nN] at ho9;have hx9:aF w2 w9:=hRx8.ru.x.grown hg9 λk hk=>by have:=(hlo8.lt k hk).1;omega
   have hRx9:=hRx8.fr (S:=λi=>av.ownBlock=some i) (Fr.of_grown hg9 λk hk=>hk) (λi hi hk=>hav8 i hk hi) hx9;refine (TT hRx9 (r:=(r:Int)) (by rw [hcR];omega) (by rw [hcR];omega) (by simp at hordlen;omega)).mono λ_ w10 ⟨ov',hRx10,hmv⟩=>?_;refine aU.2 ?_;rw [aC (by omega) (by omega),aR];refine ⟨⟨r+1,ov',l'.set r true,rfl,by omega,by rw [FF,uF];exact hRx10,by simp [hll'],hmv.fr.own ho9 hav8,λs hs=>?_,λk hk=>hmv.far (ho9.lt k hk).2 (hav8 k hk)⟩,by simp only [aL];omega⟩;by_cases hsr:r=s
   ·subst hsr;rw [List.getElem?_set_self (by omega)];simp
   ·rw [List.getElem?_set_ne hsr,hla' s hs];constructor<;>(rintro (h|h)<;>first|exact .inl h|exact .inr (by omega))
  have hrp:(r:Int)=p.params:=by omega
  have hset:∀ s,s < R->(l'[s]?=some true↔JJ p s):=λs hs=>by
   rw [hla' s hs];unfold JJ;constructor<;>(rintro (h|h)<;>first|exact .inl h|exact .inr (by omega))
  refine (XF (l:=l') hRx8 (by rw [hcR];omega) (by rw [hcgs,hcR];exact hgl) (by rw [hcR];exact hll') (by rw [hcR];exact hlo8) hav8).mono λ_ w9 ⟨⟨m1,hRx9,hm1⟩,_⟩=>?_;refine iO (hb7 hRx9.ru.x) qC rfl ?_;refine (EC (hp0.ext (X12.trans hRx9.ru.x)) hv hR).mono λbv w10 ⟨⟨mB,hmB,hal⟩,x10⟩=>?_;have hhi:=hRx9.hi;have hRx10:=hRx9.ext x10;rw [show r=p.params.toNat by omega] at hRx10;obtain ⟨g0',gs',rfl,hgl',hout',hrows',hlo0',hlog'⟩:=hmB
  have keepB:∀ {ov' w'},Mv c ov w10 ov' w'->bO w' g0' (gs'.map (sl R)) 95/\∀ (k g:Nat),gs'[k]?=some g->bO w' g ((mN mB k R).map Value.bool) 4:=λ{ov' w'} h=>
   ⟨h.fr.blk hout' λhi=>by have:=hhi _ hi;omega,λk g hk=>h.fr.blk (hrows' k g hk) λhi=>by have:=hhi _ hi;have:=hlog' g (List.mem_of_getElem? hk);omega⟩
  refine gD rL (hout'.slice (n:=p.nodes.length) (by simpa using hgl') (by unfold maxLen;omega)) ?_
  refine ⟨λv w'=>∃ (k:Nat) (ov':Value) (m':Mx) (sb':List Bool),v=i64 k/\k<=p.nodes.length/\Rx w2 w' c ov' m' sb' (eX [] (qN p.params.toNat++(p.nodes.take k).map aJ.df))/\Mv c ov w10 ov' w'/\sb'.length=R /\
    (∀ a b,a < R->b < R->(m' a b=true↔a≠b/\((JJ p a/\JJ p b)\/∃ q,q < k/\JK p q a/\JK p q b))) /\
    (∀ s,s < R->(sb'[s]?=some true↔∃ q,q < k/\(p.at' q).leavesB=false/\nQ p q s/\(s:Int)≠(p.at' q).df)),
   λv _=>p.nodes.length - (RowKit.intOf v).toNat,⟨0,ov,m1,_,rfl,Nat.zero_le _,by simpa using hRx10,Mv.refl _ _ _,by simp,λa b ha hb=>?_,λs hs=>by rw [List.getElem?_replicate_of_lt hs];simp⟩,?_⟩
  ·rw [hm1 a b (by omega) (by omega),hset a ha,hset b hb];simp
  rintro _ w11 ⟨k,ov1,m2,sb2,rfl,hk,hRx11,hmv11,hsbl,hm2,hsb2⟩ _;refine aY.2 (aD (λhlt=>?_) λhge3=>?_)
  ·have hk':k < p.nodes.length:=by omega
   obtain ⟨hat,hrt⟩:=hv.at hk';obtain ⟨nv,hnv,hni⟩:=hvs k _ hat;obtain ⟨g',hg'⟩:=bC (l:=gs') (j:=k) (by omega);have hdf:(p.at' k).df < R:=by rcases hrt.d with h|h<;>omega
   refine lV rL oC ((keepB hmv11).1.slice (n:=p.nodes.length) (by simpa using hgl') (by unfold maxLen;omega)) (by omega) (by omega) (by simp [hg']:(gs'.map (sl R))[((k:Nat):Int).toNat]?=some (sl R g')) ?_;have hX11:=hRx11.ru.x;refine bF (hb7 hX11) eG kD rfl ?_;refine lV mW CZ (hs.ext (X12.trans hX11)) (by omega) (by omega) (by simpa using hnv) ?_;refine (JC (hni.ext (X12.trans hX11))).mono λdv w12 ⟨hd,x12⟩=>?_;subst hd;have hRx12:=hRx11.ext x12
   have hol:(eX [] (qN p.params.toNat++(p.nodes.take k).map aJ.df)).length<=1000:=by
    have:=tC [] (qN p.params.toNat++(p.nodes.take k).map aJ.df);simp only [List.length_append,List.length_map,List.length_take,wQ,List.length_nil] at this;omega
   refine (TT hRx12 (r:=(p.at' k).df) (by rw [hcR];exact hdf) (by rw [hcR];omega) hol).mono λ_ w13 ⟨ov2,hRx13,hmv13⟩=>?_;have hmv13':=(hmv11.trans (Mv.of_ext x12)).trans hmv13
   have hordk:rB (eX [] (qN p.params.toNat++(p.nodes.take k).map aJ.df)) (p.at' k).df=eX [] (qN p.params.toNat++(p.nodes.take (k+1)).map aJ.df):=by
    rw [<- uF,List.append_assoc,List.take_add_one,hat];simp
   rw [hordk] at hRx13;have hrow13:=(keepB hmv13').2 k g' hg'
   have hrl13:fX w13 (sl R g') (mN mB k R):=by
    have:=hrow13.slice (n:=R) (by simp [gI]) (by unfold maxLen;omega);unfold fX;rw [gI];exact this
   refine (aNt hrl13 (by rw [gI];omega) (by rw [gI];exact hdf)).mono λwv w14 ⟨hwo,x14⟩=>?_;rw [gI] at hwo;have hRx14:=hRx13.ext x14;have hhi13:=hRx13.hi;have hwl:(wO (mN mB k R) (p.at' k).df).length=R:=by rw [aAl,gI]
   refine (XF (l:=wO (mN mB k R) (p.at' k).df) hRx14 (by rw [hcR];omega) (by rw [hcgs,hcR];exact hgl) (by rw [hcR];exact hwl) (by rw [hcR];exact hwo) (λi hi hm=>by have:=hhi13 i hm;have:=(hwo.lt i hi).1;omega)).mono λ_ w15 ⟨⟨m3,hRx15,hm3⟩,hf15⟩=>?_;have hmv15:Mv c ov w10 ov2 w15:=(hmv13'.trans (Mv.of_ext x14)).trans ⟨hf15.mono λi hi=>.inr (.inr (.inr (.inr (.inr (.inl hi))))),λ_ h=>.inl h⟩;have hwset:=aAk (p:=p) (R:=R) (k:=k) (m:=mB) (λr hr=>hal k r hk' hr) hdf
   have hm3':∀ a b,a < R->b < R->(m3 a b=true↔a≠b/\((JJ p a/\JJ p b)\/∃ q,q < k+1/\JK p q a/\JK p q b)):=by
    intro a b ha hb;rw [hm3 a b (by omega) (by omega),hm2 a b ha hb,hwset a ha,hwset b hb];constructor
    ·rintro (⟨h1,h2|⟨q,h3,h4⟩⟩|⟨h1,h2⟩)
     ·exact ⟨h1,.inl h2⟩
     ·exact ⟨h1,.inr ⟨q,by omega,h4⟩⟩
     ·exact ⟨h1,.inr ⟨k,by omega,h2⟩⟩
    ·rintro ⟨h1,h2|⟨q,h3,h4⟩⟩
     ·exact .inl ⟨h1,.inl h2⟩
     ·by_cases hqk:q=k
      ·subst hqk;exact .inr ⟨h1,h4⟩
      ·exact .inl ⟨h1,.inr ⟨q,by omega,h4⟩⟩
   have hsl15:∀ {ov' w'},Mv c ov w10 ov' w'->aA w' (sl R g') 1 R ((mN mB k R).map Value.bool):=λh=>((keepB h).2 k g' hg').slice (n:=R) (by simp [gI]) (by unfold maxLen;omega);refine gD gT (hsl15 hmv15) ?_
   refine ⟨λv w'=>∃ (r:Nat) (sb':List Bool),v=i64 r/\r<=R/\Rx w2 w' c ov2 m3 sb' (eX [] (qN p.params.toNat++(p.nodes.take (k+1)).map aJ.df))/\Mv c ov w10 ov2 w'/\sb'.length=R /\
     (∀ s,s < R->(sb'[s]?=some true↔(sb2[s]?=some true\/(s < r/\(p.at' k).leavesB=false/\nQ p k s/\(s:Int)≠(p.at' k).df)))),
    λv _=>R - (RowKit.intOf v).toNat,⟨0,sb2,rfl,Nat.zero_le _,hRx15,hmv15,hsbl,λs hs=>by simp⟩,?_⟩
   rintro _ w16 ⟨r2,sb3,rfl,hr2,hRx16,hmv16,hsb3l,hsb3⟩ _;refine aY.2 (aD (λhlt5=>?_) λhge5=>?_)
   ·have hr2':r2 < R:=by omega
    refine lV gT oD (hsl15 hmv16) (by omega) (by omega) (LX (lS hr2')) ?_;obtain ⟨sv,hsv⟩:=bC (l:=sb3) (j:=r2) (by omega);have D16:aF w16 w16.drew:=(aF.refl _).drew;have hRx17:=hRx16.ext D16;have hss:aA w16.drew (.slice (some ⟨c.sg,0,none⟩) c.R c.R) 1 c.R (sb3.map Value.bool):=hRx17.ru.slot.slice (by simp;omega) (by unfold maxLen;omega)
    have fin:∀ nv:Bool,(nv=true↔(sv=true\/((p.at' k).leavesB=false/\nQ p k r2/\(r2:Int)≠(p.at' k).df))) ->
      aE prog (λw'=>w'=w16.drew) (Instr.indexAt 95 (.slice (some ⟨c.sg,0,none⟩) c.R c.R) (i64 (r2:Int))) λt106=>U prog (Instr.storeAt 4 t106 (.bool nv)) w16.drew λ_ w73=>V prog (binOp .add 3 (i64 (r2:Int)) (Value.int IntKind.i64 1)) w73 λt107 w74=>
       (∃ (r:Nat) (sb':List Bool),t107=i64 r/\r<=R/\Rx w2 w74 c ov2 m3 sb' (eX [] (qN p.params.toNat++(p.nodes.take (k+1)).map aJ.df))/\Mv c ov w10 ov2 w74/\sb'.length=R/\(∀ s,s < R->(sb'[s]?=some true↔(sb2[s]?=some true\/(s < r/\(p.at' k).leavesB=false/\nQ p k s/\(s:Int)≠(p.at' k).df)))))/\R - (RowKit.intOf t107).toNat < R - (RowKit.intOf (i64 (r2:Int))).toNat:=by
     intro nv hnv;refine aE.ok (λw' _=>UW (by omega) (by omega)) ?_;rw [Int.toNat_natCast];refine JY kP hRx17.ru.slot (by simp;omega) rfl ?_;refine aU.2 ?_;rw [aC (by omega) (by omega),aR];refine ⟨⟨r2+1,sb3.set r2 nv,rfl,by omega,hRx17.setSlot r2 nv,(hmv16.trans (Mv.of_ext D16)).set r2 _,by simp [hsb3l],λs hs=>?_⟩,by simp only [aL];omega⟩;by_cases hsr:r2=s
     ·subst hsr;rw [List.getElem?_set_self (by omega)];simp only [Option.some.injEq];have h3:=hsb3 r2 hs;rw [hsv] at h3;simp only [Option.some.injEq] at h3;rw [hnv,h3];constructor
      ·rintro ((h|h)|h)
       ·exact .inl h
       ·omega
       ·exact .inr ⟨by omega,h⟩
      ·rintro (h|⟨_,h⟩)
       ·exact .inl (.inl h)
       ·exact .inr h
     ·rw [List.getElem?_set_ne hsr,hsb3 s hs];constructor
      iterate 2
       ·rintro (h|⟨h1,h2⟩)
        ·exact .inl h
        ·exact .inr ⟨by omega,h2⟩
    have hal':=hal k r2 hk' hr2';refine aM.mk' (λw'=>w'=w16.drew) rfl ?_;refine jM (λw' hw=>hw▸hRx17.ru.u.boxed) dR oC rfl ?_;refine jM (λw' hw=>hw▸hRx17.ru.u.boxed) dR oC rfl ?_;refine nR gT oD hss (λw' hw=>hw▸aF.refl _) (by omega) (by omega) (LX hsv) ?_;cases hsb:sv with
    | true=>
     simp only [qV,SY,GR,aW,reduceIte];refine ⟨trivial,?_⟩;exact fin true (by simp [hsb])
    | false=>
     by_cases hmk:mB k r2=true
     ·simp only [hmk,aHa,WD,aW,reduceIte,Bool.false_eq_true];refine aE.ok (λw' _=>rM) ?_;by_cases hrd:(r2:Int)≠(p.at' k).df
      ·simp only [hrd,ne_eq,not_false_eq_true,lU,aHa,aW,reduceIte,decide_true];refine (aBr (hni.ext (X12.trans hRx17.ru.x))).mono λrv w' ⟨h1,h2⟩=>?_;subst h1;subst h2;refine ⟨rfl,?_⟩;refine aE.ok (λ_ _=>uY) ?_;exact fin (!(p.at' k).leavesB) (by cases hlb:(p.at' k).leavesB<;>simp [hsb,hal'.1 hmk,hrd])
      ·simp only [hrd,lI,SZ,aW,reduceIte,Bool.false_eq_true,decide_false];refine ⟨trivial,?_⟩;exact fin false (by simp [hsb];intro _ _;simpa using hrd)
     ·simp only [hmk,lI,WD,SZ,aW,reduceIte,Bool.false_eq_true];refine ⟨trivial,?_⟩;exact fin false (by simp [hsb];intro _ h;exact absurd (hal'.2 h) hmk)
   ·refine aU.2 ?_;rw [aC (by omega) (by omega),aR];refine ⟨⟨k+1,ov2,m3,sb3,rfl,by omega,hRx16,hmv16,hsb3l,hm3',λs hs=>?_⟩,by simp only [aL];omega⟩;rw [hsb3 s hs,hsb2 s hs];constructor
    ·rintro (⟨q,h1,h2⟩|⟨h1,h2⟩)
     ·exact ⟨q,by omega,h2⟩
     ·exact ⟨k,by omega,h2⟩
    ·rintro ⟨q,h1,h2⟩;by_cases hqk:q=k
     ·subst hqk;exact .inr ⟨by omega,h2⟩
     ·exact .inl ⟨q,by omega,h2⟩
  ·have hkN:k=p.nodes.length:=by omega
   subst hkN;rw [List.take_of_length_le (Nat.le_refl _)] at hRx11;refine bF (hb7 hRx11.ru.x) gA aH rfl ?_;rw [hR]
   refine ⟨λv w'=>∃ (r:Nat) (ov':Value),v=i64 r/\r<=R/\Rx w2 w' c ov' m2 sb2 (eX [] (qN p.params.toNat++p.nodes.map aJ.df++qN r)),
    λv _=>R - (RowKit.intOf v).toNat,⟨0,ov1,rfl,Nat.zero_le _,by simpa [qN] using hRx11⟩,?_⟩
   rintro _ w12 ⟨r3,ov3,rfl,hr3,hRx12⟩ _;refine aY.2 (aD (λhlt6=>?_) λhge6=>?_)
   ·have hol:(eX [] (qN p.params.toNat++p.nodes.map aJ.df++qN r3)).length<=1000:=by
     have:=tC [] (qN p.params.toNat++p.nodes.map aJ.df++qN r3);simp only [List.length_append,List.length_map,wQ,List.length_nil] at this;omega
    refine (TT hRx12 (r:=(r3:Int)) (by rw [hcR];omega) (by rw [hcR];omega) hol).mono λ_ w13 ⟨ov4,hRx13,_⟩=>?_;refine aU.2 ?_;rw [aC (by omega) (by omega),aR];exact ⟨⟨r3+1,ov4,rfl,by omega,by rw [FF,<- List.append_assoc,uF];exact hRx13⟩,by simp only [aL];omega⟩
   ·have hrR:r3=R:=by omega
    subst hrR;refine iO hRx12.ru.u.boxed SG rfl ?_;have hX:=hRx12.ru.x;have hzl:=hz.lt;have hlo12:=hRx12.lo;have hov3:=hRx12.ov;refine zS pW (hz.ext hX) (l:=[.slice (some ⟨c.g0,0,none⟩) c.R c.R,.slice (some ⟨c.sg,0,none⟩) c.R c.R,ov3]) rfl rfl rfl (by have:=nX hov3;simp only [List.all_cons,List.all_nil,this,Bool.and_true];rfl) λw' h' hch=>?_;refine ⟨_,pZ underlying141 rfl pW h' rfl,⟨_,rfl⟩,⟨c.g0,c.sg,ov3,m2,sb2,by rw [hcR];rfl,⟨c.g0,c.gs,rfl,by rw [hcgs];exact hgl,?_,?_⟩,?_,hsbl,?_,?_,?_⟩,hch.ext w (X12.trans hX) x1.size⟩
    ·have:=hch.other (by have:=hRx12.ru.lo;omega) hRx12.ru.out;rw [hcR] at this;exact this
    ·intro q g hq;have:=hch.other (by have:=hRx12.ru.lo.2.2.2 g (List.mem_of_getElem? hq);omega) (hRx12.ru.rows q g hq);rw [hcR] at this;exact this
    ·have:=(hch.other (by have:=hRx12.ru.lo;omega) hRx12.ru.slot).slice (n:=sb2.length) (by simp) (by unfold maxLen;omega);unfold fX sl;rw [hsbl] at this ⊢;exact this
    ·have:=hch.own hov3 (by have:=hRx12.ord';omega);exact this
    ·exact λa b ha hb=>hm2 a b ha hb
    ·exact λs hs=>hsb2 s hs
 refine aM.mk' (λw'=>aF w2 w') (aF.refl _).drew ?_;have X2:aF w2 w2.drew:=(aF.refl _).drew;refine jM (λw' hw=>hb2.ext hw) gA aH rfl ?_;refine jM (λw' hw=>hb2.ext hw) gA aH rfl ?_;refine ⟨?_,?_,?_⟩
 ·refine xG hR underlying139 rE rfl (n:=R) (by omega) (by omega) λwa hM xa sM=>?_;have Xa:=X2.trans xa;refine ⟨Xa,?_,?_⟩
  ·refine xG hR underlying95 kP rfl (n:=R) (by omega) (by omega) λwb hB xb sB=>?_;have Xb:=Xa.trans xb;refine ⟨Xb,?_⟩;refine mY zK [(0,_),(1,_),(2,Value.slice none 0 0)] rfl (by simp [cO]) ?_;refine AP pW λwc hA xc=>?_;have Xc:=Xb.trans xc;refine ⟨Xc,?_⟩;have za:=xa.size;have zb:=xb.size;have la:=(hM).lt;have lb:=(hB).lt;have zw:w2.heap.size=w2.drew.heap.size:=rfl;exact uP Xc hA ((hM.ext xb).ext xc) (hB.ext xc) (by omega) (by omega) (by omega) (by omega) (by omega) (by omega)
  ·refine AP pW λwb hA xb=>?_;have Xb:=Xa.trans xb;refine ⟨Xb,?_⟩;refine xG hR underlying95 kP rfl (n:=R) (by omega) (by omega) λwc hB xc sB=>?_;have Xc:=Xb.trans xc;refine ⟨Xc,?_⟩;refine mY zK [(0,_),(1,_),(2,Value.slice none 0 0)] rfl (by simp [cO]) ?_;have za:=xa.size;have zb:=xb.size;have la:=(hM).lt;have lb:=(hA).lt;have zw:w2.heap.size=w2.drew.heap.size:=rfl;exact uP Xc (hA.ext xc) ((hM.ext xb).ext xc) hB (by omega) (by omega) (by omega) (by omega) (by omega) (by omega)
 ·refine xG hR underlying95 kP rfl (n:=R) (by omega) (by omega) λwa hB xa sB=>?_;have Xa:=X2.trans xa;refine ⟨Xa,?_,?_⟩
  ·refine xG hR underlying139 rE rfl (n:=R) (by omega) (by omega) λwb hM xb sM=>?_;have Xb:=Xa.trans xb;refine ⟨Xb,?_⟩;refine mY zK [(0,_),(1,_),(2,Value.slice none 0 0)] rfl (by simp [cO]) ?_;refine AP pW λwc hA xc=>?_;have Xc:=Xb.trans xc;refine ⟨Xc,?_⟩;have za:=xa.size;have zb:=xb.size;have la:=(hB).lt;have lb:=(hM).lt;have zw:w2.heap.size=w2.drew.heap.size:=rfl;exact uP Xc hA (hM.ext xc) ((hB.ext xb).ext xc) (by omega) (by omega) (by omega) (by omega) (by omega) (by omega)
  ·refine AP pW λwb hA xb=>?_;have Xb:=Xa.trans xb;refine ⟨Xb,?_⟩;refine xG hR underlying139 rE rfl (n:=R) (by omega) (by omega) λwc hM xc sM=>?_;have Xc:=Xb.trans xc;refine ⟨Xc,?_⟩;refine mY zK [(0,_),(1,_),(2,Value.slice none 0 0)] rfl (by simp [cO]) ?_;have za:=xa.size;have zb:=xb.size;have la:=(hB).lt;have lb:=(hA).lt;have zw:w2.heap.size=w2.drew.heap.size:=rfl;exact uP Xc (hA.ext xc) hM ((hB.ext xb).ext xc) (by omega) (by omega) (by omega) (by omega) (by omega) (by omega)
 ·refine AP pW λwa hA xa=>?_;have Xa:=X2.trans xa;refine ⟨Xa,?_,?_⟩
  ·refine xG hR underlying139 rE rfl (n:=R) (by omega) (by omega) λwb hM xb sM=>?_;have Xb:=Xa.trans xb;refine ⟨Xb,?_⟩;refine xG hR underlying95 kP rfl (n:=R) (by omega) (by omega) λwc hB xc sB=>?_;have Xc:=Xb.trans xc;refine ⟨Xc,?_⟩;refine mY zK [(0,_),(1,_),(2,Value.slice none 0 0)] rfl (by simp [cO]) ?_;have za:=xa.size;have zb:=xb.size;have la:=(hA).lt;have lb:=(hM).lt;have zw:w2.heap.size=w2.drew.heap.size:=rfl;exact uP Xc ((hA.ext xb).ext xc) (hM.ext xc) hB (by omega) (by omega) (by omega) (by omega) (by omega) (by omega)
  ·refine xG hR underlying95 kP rfl (n:=R) (by omega) (by omega) λwb hB xb sB=>?_;have Xb:=Xa.trans xb;refine ⟨Xb,?_⟩;refine xG hR underlying139 rE rfl (n:=R) (by omega) (by omega) λwc hM xc sM=>?_;have Xc:=Xb.trans xc;refine ⟨Xc,?_⟩;refine mY zK [(0,_),(1,_),(2,Value.slice none 0 0)] rfl (by simp [cO]) ?_;have za:=xa.size;have zb:=xb.size;have la:=(hA).lt;have lb:=(hB).lt;have zw:w2.heap.size=w2.drew.heap.size:=rfl;exact uP Xc ((hA.ext xb).ext xc) hM (hB.ext xc) (by omega) (by omega) (by omega) (by omega) (by omega) (by omega)
theorem aGx {of:List Int} (hl:of.length=R) (h0:0<=slots) (h1:slots<=40) (hm:∀ a b,a < R->b < R->(m a b=true↔yK p a b)) (hs:∀ r,r < R->(sb[r]?=some true↔BK p r)) :
  (∀ (r:Nat) (x:Int),r < R->of[r]?=some x->qD x slots/\AQ m sb of r x)↔oP p R of slots:=by
 have lt:∀ {r:Nat} {x:Int},of[r]?=some x->r < R:=λh=>by have:=(List.getElem?_eq_some_iff.1 h).1;omega
 constructor
 ·intro h
  have ap:∀ S:Nat->Prop,(∀ a b,a≠b->S a->S b->yK p a b)->EU S R of:=by
   intro S hS r s hsr hr h2 h3 he;obtain ⟨x,hx⟩:=bC (l:=of) (j:=r) (by omega);exact (h r x hr hx).2.2 s x (by rw [<- he];exact hx) ((hm r s hr (by omega)).2 (hS r s (by omega) h2 h3)) rfl
  exact ⟨hl,h0,h1,λr x hx=>(h r x (lt hx) hx).1,λk hk=>ap _ λa b hab ha hb=>⟨hab,.inr ⟨k,hk,ha,hb⟩⟩,λk hk hlb r x hal hne hx=>(h r x (lt hx) hx).2.1 ((hs r (lt hx)).2 ⟨k,hk,hlb,hal,hne⟩),ap _ λa b hab ha hb=>⟨hab,.inl ⟨ha,hb⟩⟩⟩
 ·intro h r x hr hx;refine ⟨h.val r x hx,λhsl=>?_,λo y hy hmo he=>?_⟩
  ·obtain ⟨k,hk,hlb,hal,hne⟩:=(hs r hr).1 hsl;exact h.slot k hk hlb r x hal hne hx
  ·subst he;obtain ⟨hne,hset⟩:=(hm r o hr (lt hy)).1 hmo
   have ap:∀ S:Nat->Prop,EU S R of->S r->S o->False:=by
    intro S hS h2 h3;by_cases hlt:o < r
    ·exact hS r o hlt hr h2 h3 (by rw [hx,hy])
    ·exact hS o r (by omega) (lt hy) h3 h2 (by rw [hx,hy])
   rcases hset with ⟨h2,h3⟩|⟨k,hk,h2,h3⟩
   ·exact ap _ h.start h2 h3
   ·exact ap _ (h.sets k hk) h2 h3
theorem FX {v:Value} {l:List Int} (h:aN w v l):cO v=true:=by
 obtain ⟨a,c,rfl⟩:=h.shape;rfl
theorem EW {ofv:Value} {of:List Int} (hp:pD w pv p) (hv:kJ p) (hR:p.regs=R) (ho:aN w ofv of) (_:of.length<=1000000) :
  aB prog 36 #[pv,.agg #[ofv,i64 slots]] w λr w'=>(∃ ok:Bool,r=.bool ok/\(ok=true↔oP p R of slots))/\aF w w':=by
 have hp0:=hp;obtain ⟨ns,rfl,hns,hargs⟩:=hp;obtain ⟨oa,oc,rfl⟩:=ho.shape;have hr1:=hv.r1;have hr2:=hv.r2;have no:∀ {w'},aF w w'->¬ oP p R of slots->(∃ ok:Bool,Value.bool false=.bool ok/\(ok=true↔oP p R of slots))/\aF w w':=λhx hn=>⟨⟨false,rfl,λh=>(by cases h),λh=>absurd h hn⟩,hx⟩;apply bFp;unfold ZO;refine bx λb w1 hb x1=>?_;refine bx λb2 w2 hb2 x2=>?_;have X2:=x1.trans x2;have hb':=hb.ext x2;refine iO hb' qC rfl ?_;refine (uC (p:=p) (hp0.ext X2) hv).mono λr w3 ⟨hr,x3⟩=>?_;subst hr;have hb3:=hb'.ext x3;have hb23:=hb2.ext x3;have X3:=X2.trans x3;refine dK.2 ?_;simp only [oV,aW,reduceIte,Bool.false_eq_true,Bool.not_true];refine bF hb23 lO bD rfl (gD aQ (ho.ext X3) ?_);refine bF hb3 gA aH rfl (dB.2 ?_);rw [hR];by_cases h1:((of.length:Nat):Int)≠((R:Nat):Int)
 ·simp only [h1,ne_eq,not_false_eq_true,tI,aW,bK,reduceIte,decide_true];exact no X3 λh=>h1 (by have:=h.len;omega)
 have h1':of.length=R:=by omega
 simp only [h1,oV,aW,reduceIte,Bool.false_eq_true,decide_false];refine bF hb23 mC aH rfl (aY.2 ?_);by_cases h2:slots < 0
 ·simp only [h2,tI,aW,bK,reduceIte,decide_true];exact no X3 λh=>by have:=h.s0;omega
 simp only [h2,oV,aW,reduceIte,Bool.false_eq_true,decide_false];refine bF hb23 mC aH rfl (iR.2 ?_);by_cases h3:slots > 40
 ·simp only [h3,bK,decide_true];exact no X3 λh=>by have:=h.s1;omega
 simp only [h3,aP,decide_false];refine iO hb3 qC rfl ?_;refine (CC (hp0.ext X3) hv hR).mono λrv w4 ⟨⟨g0,sg,ov,m,sb,hrv,hmat,hsb,hsbl,hov,hm,hs⟩,x4⟩=>?_;subst hrv;refine sI aEb rfl (by have:=FX hov;show (cO (sl R g0)&&(cO (sl R sg)&&(cO ov&&true)))=true;rw [this];rfl) λw5 hu5 x5=>?_;have x35:=x4.trans x5;have X5:=X3.trans x35;refine bF (hb23.ext x35) lO bD rfl (gD aQ (ho.ext X5) ?_);have hgood:=aGx (p:=p) (slots:=slots) h1' (by omega) (by omega) hm hs;refine ⟨λv w'=>∃ i:Nat,v=i64 i/\i<=of.length/\aF w5 w'/\∀ (r:Nat) (x:Int),r < i->of[r]?=some x->qD x slots/\AQ m sb of r x,λv _=>of.length - (RowKit.intOf v).toNat,⟨0,rfl,Nat.zero_le _,aF.refl _,λr x h=>by omega⟩,?_⟩;rintro _ w6 ⟨i,rfl,hi,x6,hval⟩ _;have x36:=x35.trans x6;have X6:=X5.trans x6;refine aY.2 (aD (λhlt=>?_) λhge=>?_)
 ·have hi':i < of.length:=by omega
  obtain ⟨x,hx⟩:=bC hi';refine lV aQ aH (ho.ext X6) (by omega) (by omega) (cG hx) (dB.2 ?_);have bad:¬ qD x slots->(∃ ok:Bool,Value.bool false=.bool ok/\(ok=true↔oP p R of slots))/\aF w w6:=λh=>no X6 λhg=>h (hg.val i x hx)
  have ok:qD x slots->aB prog 41 #[.agg #[sl R g0,sl R sg,ov],i64 (i:Int),i64 x,.slice oa of.length oc] w6 λq w'=>(∃ ok:Bool,q=.bool ok/\(ok=true↔AQ m sb of i x))/\aF w6 w':=λ_=>
   aFx (by omega) ((hmat.ext x5).ext x6) ((hsb.ext x5).ext x6) hsbl (ho.ext X6) h1' (by omega)
  have fin:qD x slots->V prog (Instr.loadAt 141 (.pointer (some ⟨w4.heap.size,0,none⟩))) w6 λt57 w46=>
    V prog (Instr.fieldAt 72 (.pointer (some ⟨b2,0,none⟩)) 0) w46 λt60 w49=>V prog (Instr.loadAt 23 t60) w49 λt61 w50=>aB prog 41 #[t57,i64 (i:Int),i64 x,t61] w50 λt62 w51=>
    V prog (Op.unary UnOp.not t62) w51 λt63 w52=>aI t63 ((∃ ok:Bool,Value.bool false=.bool ok/\(ok=true↔oP p R of slots))/\aF w w52) (V prog (binOp .add 3 (i64 (i:Int)) (Value.int IntKind.i64 1)) w52 λt65 w54=>
     (∃ i:Nat,t65=i64 i/\i<=of.length/\aF w5 w54/\∀ (r:Nat) (x:Int),r < i->of[r]?=some x->qD x slots/\AQ m sb of r x)/\of.length - (RowKit.intOf t65).toNat < of.length - (RowKit.intOf (i64 (i:Int))).toNat):=by
   intro hvx;refine iO (hu5.ext x6).boxed SG rfl ?_;refine bF (hb23.ext x36) lO bD rfl ?_;refine (ok hvx).mono λq w7 ⟨⟨a,hq,ha⟩,x7⟩=>?_;subst hq;refine dK.2 (aI.mk (λhn=>?_) λhn=>?_)
   ·refine no (X6.trans x7) λhg=>?_;have:=ha.2 (hgood.2 hg i x (by omega) hx).2;subst this;cases hn
   ·refine aU.2 ?_;rw [aC (by omega) (by omega),aR];refine ⟨⟨i+1,rfl,by omega,x6.trans x7,λr y hr hy=>?_⟩,by simp only [aL];omega⟩;by_cases hri:r=i
    ·subst hri;rw [hx] at hy;cases hy;exact ⟨hvx,ha.1 (by simpa using hn)⟩
    ·exact hval r y (by omega) hy
  by_cases h5:x=5
  ·simp only [h5,ne_eq,not_true_eq_false,oV,lI,qV,aW,reduceIte,Bool.false_eq_true,decide_false];exact h5▸fin (.inl h5)
  simp only [h5,ne_eq,not_false_eq_true,dB,lU,aW,reduceIte,decide_true];by_cases h6:x=6
  ·simp only [h6,not_true_eq_false,oV,lI,qV,aW,reduceIte,Bool.false_eq_true,decide_false];exact h6▸fin (.inr (.inl h6))
  simp only [h6,not_false_eq_true,aY,lU,aW,reduceIte,decide_true];by_cases h16:x < 16
  ·simp only [h16,tI,aW,bK,reduceIte,decide_true];exact bad (by unfold qD;omega)
  simp only [h16,oV,reduceIte,Bool.false_eq_true,decide_false];refine bF (hb23.ext x36) mC aH rfl (aU.2 ?_);rw [aC (by omega) (by omega)];simp only [kN,aW];by_cases h17:x>=16+slots
  ·simp only [h17,tI,bK,reduceIte,decide_true];exact bad (by unfold qD;omega)
  simp only [h17,oV,reduceIte,Bool.false_eq_true,decide_false];exact fin (by unfold qD;omega)
 ·refine ⟨⟨true,rfl,λ_=>hgood.1 λr x hr hx=>hval r x (by omega) hx,λ_=>rfl⟩,X6⟩
def rT (p:eY) (of:List Int) (r:Nat) (at':Int):Prop:=(BK p r->16<=at')/\∀ (o:Nat) (y:Int),of[o]?=some y->yK p r o->y≠at'
theorem bHy {of:List Int} {at':Int} (hl:of.length=R) (hm:∀ a b,a < R->b < R->(m a b=true↔yK p a b)) (hs:∀ r,r < R->(sb[r]?=some true↔BK p r)) (hr:r < R):AQ m sb of r at'↔rT p of r at':=by
 have lt:∀ {r:Nat} {x:Int},of[r]?=some x->r < R:=λh=>by have:=(List.getElem?_eq_some_iff.1 h).1;omega
 unfold AQ rT;rw [hs r hr];exact ⟨λh=>⟨h.1,λo y hy hmo=>h.2 o y hy ((hm r o hr (lt hy)).2 hmo)⟩,λh=>⟨h.1,λo y hy hmo=>h.2 o y hy ((hm r o hr (lt hy)).1 hmo)⟩⟩
theorem yK.symm {p:eY} {a b:Nat} (h:yK p a b):yK p b a:=by
 obtain ⟨h1,h2⟩:=h;refine ⟨λh=>h1 h.symm,?_⟩;rcases h2 with ⟨h2,h3⟩|⟨k,hk,h2,h3⟩
 ·exact .inl ⟨h3,h2⟩
 ·exact .inr ⟨k,hk,h3,h2⟩
structure Al (p:eY) (R:Nat) (ord:List Int) (i:Nat) (of:List Int) (slots:Int):Prop where
 len:of.length=R
 s0:0<=slots
 s1:slots<=40
 placed:∀ (r:Nat) (x:Int),of[r]?=some x->(((r:Int)∈ord.take i->qD x slots/\rT p of r x)/\((r:Int) ∉ ord.take i->x=0))
theorem Al.start (p:eY) (R:Nat) (ord:List Int):Al p R ord 0 (List.replicate R 0) 0:=by
 refine ⟨by simp,by omega,by omega,λr x hx=>⟨λh=>by simp at h,λ_=>?_⟩⟩;have:=List.mem_of_getElem? hx;simp at this;exact this.2
theorem Al.step {of:List Int} {at':Int} (h:Al p R ord i of slots) (hr:r < R) (hi:ord[i]?=some (r:Int)) (hm:rT p of r at') (ha:at'=5\/at'=6\/16<=at') (ha2:at'<=55) :
  Al p R ord (i+1) (of.set r at') (max slots (at' - 15)):=by
 have hs0:=h.s0;have hs1:=h.s1;have hval:∀ {x},qD x slots->qD x (max slots (at' - 15)):=by unfold qD;omega
 have htake:ord.take (i+1)=ord.take i++[(r:Int)]:=by rw [List.take_add_one,hi];rfl
 have hlen:=h.len;refine ⟨by simp [h.len],by omega,by omega,λq x hx=>?_⟩;by_cases hq:r=q
 ·subst hq;rw [List.getElem?_set_self (by omega)] at hx;cases hx;refine ⟨λ_=>⟨by unfold qD;omega,hm.1,λo y hy hmo=>?_⟩,λhn=>absurd (by rw [htake];simp) hn⟩;rw [List.getElem?_set_ne (λe=>hmo.1 e)] at hy;exact hm.2 o y hy hmo
 ·rw [List.getElem?_set_ne hq] at hx;obtain ⟨h1,h2⟩:=h.placed q x hx;refine ⟨λhmem=>?_,λhn=>h2 λhmem=>hn (by rw [htake];simp [hmem])⟩
  have hmem':(q:Int)∈ord.take i:=by
   rw [htake] at hmem;rcases List.mem_append.1 hmem with h3|h3
   ·exact h3
   ·have:(q:Int)=r:=by simpa using h3
    omega
  obtain ⟨h3,h4⟩:=h1 hmem';refine ⟨hval h3,h4.1,λo y hy hmo=>?_⟩;by_cases ho:r=o
  ·subst ho;rw [List.getElem?_set_self (by omega)] at hy;cases hy;exact (λe=>hm.2 q x hx hmo.symm e.symm)
  ·rw [List.getElem?_set_ne ho] at hy;exact h4.2 o y hy hmo
theorem aBi {gs:List Int} (h:gs.Nodup) {j:Nat} {g:Int} (hi:gs[i]?=some g) (hj:gs[j]?=some g):i=j:=by
 obtain ⟨hi',hi2⟩:=List.getElem?_eq_some_iff.1 hi;obtain ⟨hj',hj2⟩:=List.getElem?_eq_some_iff.1 hj;have hp:=List.pairwise_iff_getElem.1 h;rcases Nat.lt_trichotomy i j with hlt|he|hgt
 ·exact absurd (hi2.trans hj2.symm) (hp i j hi' hj' hlt)
 ·exact he
 ·exact absurd (hj2.trans hi2.symm) (hp j i hj' hi' hgt)
theorem KW:∀ (l l':List Int),l.Nodup->(∀ x∈l,x∈l')->l.length<=l'.length
 | [],_,_,_=>Nat.zero_le _
 | x::l,l',hn,h=>by
  obtain ⟨hx,hn'⟩:=List.nodup_cons.1 hn
  have h1:=KW l (l'.erase x) hn' λy hy=>by
   have hne:y≠x:=λe=>hx (e▸hy);exact (List.mem_erase_of_ne hne).2 (h y (by simp [hy]))
  have h2:=List.length_erase_of_mem (h x (by simp));have h3:0 < l'.length:=List.length_pos_of_mem (h x (by simp));simp only [List.length_cons];omega
theorem aAo {of:List Int} {at':Int} (hl:of.length=R) (hr:of[r]?=some 0) (h16:16<=at') (h:∀ x,16<=x->x < at'->x∈of):at'<=15+R:=by
 have h1:=KW (0::(List.range (at' - 16).toNat).map λj=>((j:Nat):Int)+16) of (by
  refine List.nodup_cons.2 ⟨λhm=>?_,?_⟩
  ·obtain ⟨j,_,hj⟩:=List.mem_map.1 hm;omega
  ·exact List.pairwise_map.2 (List.Pairwise.imp (λ{a b} h e=>h (by omega)) List.nodup_range)) λx hx=>?_
 ·simp at h1;omega
 ·rcases List.mem_cons.1 hx with rfl|hx
  ·exact List.mem_of_getElem? hr
  ·obtain ⟨j,hj,rfl⟩:=List.mem_map.1 hx;have:=List.mem_range.1 hj;exact h _ (by omega) (by omega)
theorem TU {o:List Int} {r:Int} (h:o.Nodup):(rB o r).Nodup:=by
 unfold rB;split
 ·rename_i hc
  refine List.nodup_append.2 ⟨h,by simp,λa ha b hb e=>?_⟩;have:b=r:=by simpa using hb
  exact hc.2 (this▸e▸ha)
 ·exact h
theorem tD:∀ (l o:List Int),(o.Nodup->(eX o l).Nodup)/\(∀ x,x∈eX o l↔x∈o\/(x∈l/\0<=x))
 | [],o=>by simp [eX]
 | r::l,o=>by
  obtain ⟨h1,h2⟩:=tD l (rB o r);have e:eX o (r::l)=eX (rB o r) l:=rfl;rw [e];refine ⟨λh=>h1 (TU h),λx=>?_⟩;rw [h2 x];unfold rB;split
  ·rename_i hc
   simp only [List.mem_append,List.mem_cons,List.not_mem_nil,or_false];constructor
   ·rintro ((h|rfl)|⟨h,h'⟩)
    ·exact .inl h
    ·exact .inr ⟨.inl rfl,hc.1⟩
    ·exact .inr ⟨.inr h,h'⟩
   ·rintro (h|⟨rfl|h,h'⟩)
    ·exact .inl (.inl h)
    ·exact .inl (.inr rfl)
    ·exact .inr ⟨h,h'⟩
  ·rename_i hc
   simp only [List.mem_cons];constructor
   ·rintro (h|⟨h,h'⟩)
    ·exact .inl h
    ·exact .inr ⟨.inr h,h'⟩
   ·rintro (h|⟨rfl|h,h'⟩)
    ·exact .inl h
    ·by_cases hx:x∈o
     ·exact .inl hx
     ·exact absurd ⟨h',hx⟩ hc
    ·exact .inr ⟨h,h'⟩
theorem VH (hv:kJ p) (hR:p.regs=R) (x:Int):x∈eX [] (pV p R)↔0<=x/\x < R:=by
 rw [(tD (pV p R) []).2 x];have hp3:=hv.p3;have hp1:=hv.p1;constructor
 ·rintro (h|⟨h,h0⟩)
  ·cases h
  ·refine ⟨h0,?_⟩;unfold pV at h;rcases List.mem_append.1 h with h|h
   ·rcases List.mem_append.1 h with h|h
    ·obtain ⟨j,hj,rfl⟩:=List.mem_map.1 h;have:=List.mem_range.1 hj;omega
    ·obtain ⟨g,hg,rfl⟩:=List.mem_map.1 h;obtain ⟨k,hk⟩:=List.getElem?_of_mem hg;have:=(hv.nodes k g hk).d;rcases this with h|h<;>omega
   ·obtain ⟨j,hj,rfl⟩:=List.mem_map.1 h;have:=List.mem_range.1 hj;omega
 ·rintro ⟨h0,h1⟩;refine .inr ⟨?_,h0⟩;unfold pV;refine List.mem_append.2 (.inr (List.mem_map.2 ⟨x.toNat,List.mem_range.2 (by omega),by omega⟩))
theorem Al.good {of:List Int} (hv:kJ p) (hR:p.regs=R) (hi:(eX [] (pV p R)).length<=i) (h:Al p R (eX [] (pV p R)) i of slots):oP p R of slots:=by
 have lt:∀ {r:Nat} {x:Int},of[r]?=some x->r < R:=λh'=>by have:=(List.getElem?_eq_some_iff.1 h').1;have:=h.len;omega
 have hall:∀ (r:Nat) (x:Int),of[r]?=some x->qD x slots/\rT p of r x:=λr x hx=>(h.placed r x hx).1 (by rw [List.take_of_length_le hi,VH hv hR];have:=lt hx;omega);have hlen:=h.len
 have ap:∀ S:Nat->Prop,(∀ a b,a≠b->S a->S b->yK p a b)->EU S R of:=by
  intro S hS r s hsr hr h2 h3 he;obtain ⟨x,hx⟩:=bC (l:=of) (j:=r) (by omega);exact (hall r x hx).2.2 s x (by rw [<- he];exact hx) (hS r s (by omega) h2 h3) rfl
 exact ⟨h.len,h.s0,h.s1,λr x hx=>(hall r x hx).1,λk hk=>ap _ λa b hab ha hb=>⟨hab,.inr ⟨k,hk,ha,hb⟩⟩,λk hk hlb r x hal hne hx=>(hall r x hx).2.1 ⟨k,hk,hlb,hal,hne⟩,ap _ λa b hab ha hb=>⟨hab,.inl ⟨ha,hb⟩⟩⟩
theorem aIb (hp:pD w pv p) (hv:kJ p) (hR:p.regs=R) {Q:Nat->List Int->Int->Prop} (q0:Q 0 (List.replicate R 0) 0)
  (qs:∀ (i:Nat) (of:List Int) (slots:Int) (r:Nat) (at':Int),Al p R (eX [] (pV p R)) i of slots->Q i of slots->(eX [] (pV p R))[i]?=some (r:Int)->r < R->rT p of r at'->(at'=5\/(at'=6/\¬ rT p of r 5)\/(16<=at'/\¬ rT p of r 5/\¬ rT p of r 6))->(∀ x,16<=x->x < at'->¬ rT p of r x)->Q (i+1) (of.set r at') (max slots (at' - 15))) :
  aB prog 18 #[pv] w λr w'=>(∃ (ofv:Value) (of:List Int) (slots:Int),r=.agg #[ofv,i64 slots]/\aN w' ofv of/\oP p R of slots/\Q (eX [] (pV p R)).length of slots)/\aF w w':=by
 have hp0:=hp;obtain ⟨ns,rfl,hns,hargs⟩:=hp;have hl1:=hv.l1;have hl2:=hv.l2;have hr1:=hv.r1;have hr2:=hv.r2;have hp1:=hv.p1;have hp2:=hv.p2;have hp3:=hv.p3;apply bGb;unfold ZZ;refine bx λb w1 hb x1=>?_;refine AP DF λw2 hz x2=>?_;have hb2:=hb.ext x2;have X2:=x1.trans x2;refine iO hb2 qC rfl ?_;refine (uC (p:=p) (hp0.ext X2) hv).mono λr w3 ⟨hr,x3⟩=>?_;subst hr;refine dK.2 (aP.2 ?_);have X3:=X2.trans x3;refine iO (hb2.ext x3) qC rfl ?_;refine (CC (hp0.ext X3) hv hR).mono λrv w4 ⟨⟨g0,sg,ov,m,sb,hrv,hmat,hsb,hsbl,hov,hm,hs⟩,x4⟩=>?_;subst hrv;refine sI aEb rfl (by have:=FX hov;show (cO (sl R g0)&&(cO (sl R sg)&&(cO ov&&true)))=true;rw [this];rfl) λw5 hu5 x5=>?_;have x25:=(x3.trans x4).trans x5;refine bF (hb2.ext x25) gA aH rfl ?_;refine xG hR underlying23 bY rfl (n:=R) (by omega) (by omega) λw6 hof6 x6 hsz6=>?_;refine pP bIm [(0,.slice (some ⟨w5.heap.size,0,none⟩) R R)] rfl rfl ?_;refine sI bHf rfl rfl λw7 hx7 x7=>?_;have x57:=x6.trans x7;have hlx7:=hx7.lt;have hord:=tC [] (pV p R)
 have hordl:(eX [] (pV p R)).length<=1000:=by
  have hol:(pV p R).length<=300:=by
   simp only [pV,List.length_append,List.length_map,wQ];omega
  simp only [List.length_nil] at hord;omega
 have hnd:=(tD (pV p R) []).1 List.nodup_nil;refine bF (hu5.ext x57).boxed dQ bD rfl (gD aQ (hov.ext (x5.trans x57)) ?_)
 refine ⟨λv w'=>∃ (i:Nat) (of:List Int) (slots:Int),v=i64 i/\i<=(eX [] (pV p R)).length/\aF w5 w'/\bO w' w5.heap.size (of.map i64) 3/\bO w' w6.heap.size [.slice (some ⟨w5.heap.size,0,none⟩) R R,i64 slots] 72/\Al p R (eX [] (pV p R)) i of slots/\Q i of slots,
  λv _=>(eX [] (pV p R)).length - (RowKit.intOf v).toNat,⟨0,List.replicate R 0,0,rfl,Nat.zero_le _,x57,by simpa using hof6.ext x7,hx7,Al.start _ _ _,q0⟩,?_⟩
 rintro _ w8 ⟨i,of,slots,rfl,hi,x8,hof8,hx8,hal,hq⟩ _;have hlen:=hal.len;have hs0:=hal.s0;have hs1:=hal.s1;refine aY.2 (aD (λhlt=>?_) λhge=>?_)
 ·have hi':i < (eX [] (pV p R)).length:=by omega
  obtain ⟨rz,hrz⟩:=bC hi';have hrb:=(VH hv hR rz).1 (List.mem_of_getElem? hrz);obtain ⟨r,rfl⟩:∃ r:Nat,rz=r:=⟨rz.toNat,by omega⟩;have hr:r < R:=by omega
  have hof0:of[r]?=some 0:=by
   obtain ⟨x,hx⟩:=bC (l:=of) (j:=r) (by omega);rw [hx,(hal.placed r x hx).2 λhmem=>?_];obtain ⟨j,hj⟩:=List.getElem?_of_mem hmem;rw [List.getElem?_take] at hj;split at hj
   ·have:=aBi hnd hj hrz;omega
   ·cases hj
  refine lV aQ aH (hov.ext (x5.trans x8)) (by omega) (by omega) (cG hrz) ?_
  refine ⟨λv w'=>∃ at':Int,v=i64 at'/\aF w8 w'/\(at'=5\/(at'=6/\¬ rT p of r 5)\/(16<=at'/\¬ rT p of r 5/\¬ rT p of r 6))/\∀ x,16<=x->x < at'->¬ rT p of r x,λv _=>(100 - RowKit.intOf v).toNat,
   ⟨5,rfl,aF.refl _,.inl rfl,λx h1 h2=>by omega⟩,?_⟩
  rintro _ w9 ⟨at',rfl,x9,hat,hno⟩ _;have hfree:∀ x,16<=x->x < at'->x∈of:=λx h1 h2=>Classical.byContradiction λhn=>hno x h1 h2 ⟨λ_=>by omega,λo y hy _ he=>hn (he▸List.mem_of_getElem? hy)⟩
  have hat55:at'<=55:=by
   by_cases h16:16<=at'
   ·have:=aAo hlen hof0 h16 hfree;omega
   ·omega
  have x59:=x8.trans x9
  have hofS:aN w9 (.slice (some ⟨w5.heap.size,0,none⟩) R R) of:=by
   have:=(hof8.ext x9).slice (n:=of.length) (by simp) (by unfold maxLen;omega);unfold aN;rw [<- hlen];exact this
  refine iO (hu5.ext x59).boxed SG rfl ?_;refine bF (hx8.ext x9).boxed lO bD rfl ?_;refine (aFx (by omega) ((hmat.ext x5).ext x59) ((hsb.ext x5).ext x59) hsbl hofS hlen hr).mono λq w10 ⟨⟨ok,hqv,hok⟩,x10⟩=>?_;subst hqv;rw [bHy hlen hm hs hr] at hok;refine dK.2 (aI.mk (λhn=>?_) λhn=>?_)
  ·have hnot:¬ rT p of r at':=λh=>by have:=hok.2 h;subst this;cases hn
   refine aU.2 ?_;rw [aC (by omega) (by omega)];refine aK.2 (aD (λh7=>?_) λh7=>?_)
   ·have h6:at'=6:=by omega
    subst h6;refine ⟨⟨16,rfl,x9.trans x10,.inr (.inr ⟨by omega,?_,hnot⟩),λx h1 h2=>by omega⟩,by simp only [aL];decide⟩;rcases hat with h|⟨_,h⟩|⟨h,_⟩
    ·omega
    ·exact h
    ·omega
   ·refine ⟨⟨at'+1,rfl,x9.trans x10,?_,λx h1 h2=>?_⟩,by simp only [aL];omega⟩
    ·rcases hat with rfl|⟨h,_⟩|⟨h,h1,h2⟩
     ·exact .inr (.inl ⟨by omega,hnot⟩)
     ·omega
     ·exact .inr (.inr ⟨by omega,h1,h2⟩)
    ·by_cases hxa:x=at'
     ·subst hxa;exact hnot
     ·exact hno x h1 (by omega)
  ·have hyes:rT p of r at':=hok.1 (by simpa using hn);have x810:=x9.trans x10;refine bF (hx8.ext x810).boxed lO bD rfl ?_;refine UN aQ bY (hof8.ext x810) (by simp [hlen]) (by omega) (by omega) rfl ?_;have hx11:bO (w10.setCell ⟨w5.heap.size,(r:Int).toNat,none⟩ (i64 at')) w6.heap.size [.slice (some ⟨w5.heap.size,0,none⟩) R R,i64 slots] 72:=(hx8.ext x810).other (by omega);refine bF hx11.boxed mC aH rfl ?_;refine fQ.2 (aU.2 ?_);rw [show IntKind.i64.wrap (at' - 16)=at' - 16 from aC (by omega) (by omega),aC (by omega) (by omega)];refine mx2 λc hc1 hc2 hc3=>?_;refine FK mC bY hx11 rfl (by simp) rfl (aU.2 ?_);rw [aC (by omega) (by omega),aR];have hcm:c=max slots (at' - 15):=by omega
   subst hcm;refine ⟨⟨i+1,of.set r at',_,rfl,by omega,((x8.trans x810).setCell (Nat.le_refl _) _).setCell (by omega) _,?_,hx11.set 1 _,hal.step hr hrz hyes (by omega) hat55,qs i of slots r at' hal hq hrz hr hyes hat hno⟩,by simp only [aL];omega⟩;have h1:=(hof8.ext x810).set r (i64 at');have h2:=bO.other (g':=w6.heap.size) (j:=1) (u:=i64 (max slots (at' - 15))) h1 (by omega);rw [List.map_set];simpa using h2
 ·have hin:i=(eX [] (pV p R)).length:=by omega
  subst hin;refine iO hx8.boxed aGg rfl ?_;have hzl:=hz.lt;have h25:=x25.size;refine zS DF (hz.ext (x25.trans x8)) (l:=[.slice (some ⟨w5.heap.size,0,none⟩) R R,i64 slots]) rfl rfl rfl rfl λw' h' hch=>?_;refine ⟨_,pZ underlying72 rfl DF h' rfl,⟨_,rfl⟩,⟨_,of,slots,rfl,?_,hal.good hv hR (Nat.le_refl _),hq⟩,hch.ext w (X2.trans (x25.trans x8)) x1.size⟩;have:=(hch.other (by omega) hof8).slice (n:=of.length) (by simp) (by unfold maxLen;omega);unfold aN;rw [<- hlen];exact this
end Go.Proofs.YtjcmcfidblhnnaaGreatDoor
namespace Go.Vc
section
variable {P:Program} {w:World} {K:Value->World->Prop} {S:World->Prop} {L:Value->Prop}
theorem DT {s f o b off:Nat} (h:FA P s f o) (hk:K (.pointer (some ⟨b,off+o,none⟩)) w):V P (Instr.fieldAt s (.pointer (some ⟨b,off,none⟩)) f) w K:=V.ok (h.ex w b off) hk
theorem yfA {s f o b off:Nat} (h:FA P s f o) (hk:L (.pointer (some ⟨b,off+o,none⟩))):aE P S (Instr.fieldAt s (.pointer (some ⟨b,off,none⟩)) f) L:=aE.ok (λw' _=>h.ex w' b off) hk
theorem rO {s f o s' f' o' ft b:Nat} {cs:List Value} {u:Value} (hb:bG w b cs) (h:FA P s f o) (h':FA P s' f' o') (hl:L1 P ft) (hc:cs[o+o']?=some u) (hk:K u w) :
  V P (Instr.fieldAt s (.pointer (some ⟨b,0,none⟩)) f) w λq w1=>V P (Instr.fieldAt s' q f') w1 λq w2=>V P (Instr.loadAt ft q) w2 K:=by
 refine V.ok (h.ex w b 0) (ldf h' hl ?_ hk);rw [Nat.add_assoc];exact hb _ u hc
theorem yB2 {s f o s' f' o' ft b:Nat} {cs:List Value} {u:Value} (hb:∀ w',S w'->bG w' b cs) (h:FA P s f o) (h':FA P s' f' o') (hl:L1 P ft) (hc:cs[o+o']?=some u) (hk:L u) :
  aE P S (Instr.fieldAt s (.pointer (some ⟨b,0,none⟩)) f) λq=>aE P S (Instr.fieldAt s' q f') λq=>aE P S (Instr.loadAt ft q) L:=by
 obtain ⟨d,hd,ha⟩:=hl;refine aE.ok (λw' _=>h.ex w' b 0) (aE.ok (λw' _=>h'.ex w' b _) (aE.ok (λw' hw=>iZ hd ha ?_) hk));rw [Nat.add_assoc];exact hb w' hw _ u hc
theorem bGz {s f o s' f' o' ft b n by_:Nat} {z u:Value} {cs:List Value} {e:TypeId} {K':World->Prop} (hf:FA P s f o) (hf':FA P s' f' o') (hi:dA P ft z 1 by_) (hb:bO w b cs e) (hn:cs.length=n) (ho:o+o' < n) (hu:cO u=true) (hk:K' (w.setCell ⟨b,o+o',none⟩ u)) :
  V P (Instr.fieldAt s (.pointer (some ⟨b,0,none⟩)) f) w λq w1=>V P (Instr.fieldAt s' q f') w1 λq w2=>U P (Instr.storeAt ft q u) w2 λ_ w3=>K' w3:=by
 refine V.ok (hf.ex w b 0) (V.ok (hf'.ex w b _) ?_);have hc:=hb.cell (o+o');rw [List.getElem?_eq_getElem (by omega)] at hc;rw [Nat.zero_add];exact U.ok (mO hi hu hc (hb.frozen _)) hk
structure BG (P:Program) (t:TypeId) (zs:List Value) (lay:List (Nat × Nat)):Prop where
 of ::
 ex:∃ fs n b,P.underlying t=some (.struct fs)/\dA P t (.agg zs.toArray) n b/\∀ w:World,(fs.mapM (λf=>do pure (f.offset,<- sizeOf f.type)):Sem (Array (Nat × Nat))).run P w=.ok lay.toArray w
theorem BG.run {t:TypeId} {zs:List Value} {lay:List (Nat × Nat)} (h:BG P t zs lay) {parts:Array (Nat × Value)} {cs:Array Value} (hf:Instr.fill (lay.toArray[·]?) zs.toArray parts.toList=some cs):(Instr.build t parts).run P w=.ok (.agg cs) w:=by
 obtain ⟨fs,n,b,hu,hi,hm⟩:=h;simp only [Instr.build,Sem.run_bind,qQ hi,Result.andThen_ok,run_underlying hu,hm,Value.cells];rw [hf];simp
theorem JE {t:TypeId} {zs:List Value} {lay:List (Nat × Nat)} (h:BG P t zs lay) {parts:Array (Nat × Value)} {cs:Array Value} (hf:Instr.fill (lay.toArray[·]?) zs.toArray parts.toList=some cs) (hk:K (.agg cs) w):V P (Instr.build t parts) w K:=V.ok (h.run hf) hk
theorem bGt {t:TypeId} {zs:List Value} {lay:List (Nat × Nat)} (h:BG P t zs lay) {parts:Array (Nat × Value)} {cs:Array Value} (hf:Instr.fill (lay.toArray[·]?) zs.toArray parts.toList=some cs) (hk:L (.agg cs)):aE P S (Instr.build t parts) L:=aE.ok (λ_ _=>h.run hf) hk
end
end Go.Vc
namespace Go.Proofs.YtjcmcfidblhnnaaGreatDoor
open Tryz
open Go.Vc
variable {w:World} {K:Value->World->Prop}
def aZj:List Value:=[i64 0,i64 0,i64 0,i64 0,i64 0,i64 0,i64 0,i64 0,i64 0,i64 0,i32 0]
theorem AG:BG prog 180 aZj [(0,1),(1,6),(7,1),(8,1),(9,1),(10,1)]:=⟨_,_,_,underlying180,vV,λw=>by kernel_rfl⟩
theorem WG (i:gZ):Instr.fill (([(0,1),(1,6),(7,1),(8,1),(9,1),(10,1)]:List (Nat × Nat)).toArray[·]?) aZj.toArray [(0,i64 1),(1,.agg [i64 i.op,i64 i.d,i64 i.n,i64 i.m,i64 i.imm,i64 i.cond].toArray)]=some (cF.one i).cells.toArray:=by kernel_rfl
def gZ.v (i:gZ):Value:=.agg #[i64 i.op,i64 i.d,i64 i.n,i64 i.m,i64 i.imm,i64 i.cond]
structure Ec where
 H:Nat->Prop
 B:Nat
 g:Nat
 pr:Value
 rg:Value
 nv:Value
 ov:Value
 sl:Value
 ap:Int
 fr:Value
 of:List Int
 N:Nat
structure Eo (c:Ec) (wb:World):Prop where
 gB:c.g < c.B/\c.B<=wb.heap.size
 hH:∀ k,c.H k->k < wb.heap.size/\k≠c.g
 of:∀ w,Fr (λk=>¬ c.H k) wb w->aN w c.ov c.of
 nn:∀ w,Fr (λk=>¬ c.H k) wb w->∃ vs,aA w c.nv 1 c.N vs
structure Ew (c:Ec) (wb w:World) (l:List cF) (ys:List Value):Prop where
 o:Eo c wb
 fr:Fr (λk=>¬ c.H k) wb w
 at_:∃ iv tv,bO w c.g [c.pr,c.rg,c.nv,c.ov,c.sl,i64 c.ap,iv,tv,c.fr] 135/\w.ownsRow c.B 180 11 iv l.length (itC l)/\w.ownsRow c.B 43 1 tv ys.length ys/\(∀ k,iv.ownBlock=some k->¬ c.H k)/\(∀ k,tv.ownBlock=some k->¬ c.H k)
variable {c:Ec} {wb:World} {l:List cF} {ys:List Value}
theorem Ew.gH (h:Ew c wb w l ys):¬ c.H c.g:=λhg=>(h.o.hH _ hg).2 rfl
theorem Ew.ext {w':World} (h:Ew c wb w l ys) (hx:aF w w'):Ew c wb w' l ys:=by
 obtain ⟨o,fr,iv,tv,a1,a2,a3,a4⟩:=h;exact ⟨o,fr.trans (Fr.of_ext hx) λ_ _ h=>h,iv,tv,a1.ext hx,hx.own a2,hx.own a3,a4⟩
theorem Ew.ofAt (h:Ew c wb w l ys):aN w c.ov c.of:=h.o.of w h.fr
def Ec.hold (c:Ec) (a b:Nat):Ec:={ c with H:=λk=>c.H k\/(a<=k/\k < b) }
theorem Ew.hold {w1:World} (h:Ew c wb w l ys) (hx:aF w w1):Ew (c.hold w.heap.size w1.heap.size) w1 w1 l ys:=by
 obtain ⟨o,fr,iv,tv,a1,a2,a3,a4,a5⟩:=h;have f1:Fr (λk=>¬ c.H k) wb w1:=fr.trans (Fr.of_ext hx) λ_ _ h=>h;have hg:=a1.lt;have s1:=f1.size;have fm:∀ {w'},Fr (λk=>¬ (c.hold w.heap.size w1.heap.size).H k) w1 w'->Fr (λk=>¬ c.H k) wb w':=λhf=>f1.trans (hf.mono λk hk hc=>hk (.inl hc)) λ_ _ h=>h;refine ⟨⟨⟨o.gB.1,Nat.le_trans o.gB.2 s1⟩,λk hk=>?_,λw' hf=>o.of w' (fm hf),λw' hf=>o.nn w' (fm hf)⟩,Fr.refl _ _,iv,tv,a1.ext hx,hx.own a2,hx.own a3,λk hk hc=>?_,λk hk hc=>?_⟩
 ·rcases hk with hk|⟨h1,h2⟩
  ·have:=o.hH k hk;exact ⟨by omega,this.2⟩
  ·exact ⟨h2,by show k≠c.g;omega⟩
 ·rcases hc with hc|⟨hc,_⟩
  ·exact a4 k hk hc
  ·have:=(a2.lt k hk).2;omega
 ·rcases hc with hc|⟨hc,_⟩
  ·exact a5 k hk hc
  ·have:=(a3.lt k hk).2;omega
theorem Ew.free {w1 w':World} {a b:Nat} {l':List cF} {ys':List Value} (h:Ew c wb w l ys) (hx:aF w w1) (h':Ew (c.hold a b) w1 w' l' ys'):Ew c wb w' l' ys':=by
 obtain ⟨o,fr,iv,tv,a1,a2,a3,a4,a5⟩:=h';exact ⟨h.o,(h.fr.trans (Fr.of_ext hx) λ_ _ h=>h).trans (fr.mono λk hk hc=>hk (.inl hc)) λ_ _ h=>h,iv,tv,a1,a2,a3,λk hk hc=>a4 k hk (.inl hc),λk hk hc=>a5 k hk (.inl hc)⟩
theorem aGp (l:List cF) (x:cF):itC (l++[x])=itC l++x.cells:=by simp [itC]
theorem sU (x:cF):x.cells.all cO=true:=by cases x<;>rfl
structure Er (c:Ec) (wb w:World) (l:List cF) (ys:List Value) (v:Value):Prop where
 o:Eo c wb
 fr:Fr (λk=>¬ c.H k) wb w
 at_:∃ iv tv,bO w c.g [c.pr,c.rg,c.nv,c.ov,c.sl,i64 c.ap,iv,tv,c.fr] 135/\w.ownsRow c.B 180 11 v l.length (itC l)/\w.ownsRow c.B 43 1 tv ys.length ys/\(∀ k,v.ownBlock=some k->¬ c.H k)/\(∀ k,tv.ownBlock=some k->¬ c.H k)
theorem bHz {x:cF} {cs:Array Value} (he:cs=x.cells.toArray) (hk:∀ u w1,w1.ownsRow w.heap.size 180 11 u 1 x.cells->aF w w1->K u w1):V prog (Instr.buildSlice 66 1 #[(0,.agg cs)]) w K:=by
 subst he;refine zI underlying66 vV rfl (by decide) [.agg x.cells.toArray] rfl rfl (by intro v hv;rw [List.mem_singleton] at hv;subst hv;simpa [Value.cells] using x.len) (by decide) (by decide) λuv w1 ho1 x1=>?_;exact hk uv w1 (by simpa [Value.cells] using ho1) x1
theorem Ew.app {x:cF} {u iv:Value} {B':Nat} (h:Ew c wb w l ys) (hl:l.length<=1000000) (hiv:w.cell? ⟨c.g,6,none⟩=some iv) (hu:w.ownsRow B' 180 11 u 1 x.cells) (hk:∀ v w',Er c wb w' (l++[x]) ys v->Fr (λk=>iv.ownBlock=some k) w w'->(∀ k,iv.ownBlock=some k->c.B<=k/\k < w.heap.size)->K v w') :
  V prog (Builtin.append_ #[66,66] 66 #[iv,u]) w K:=by
 have hg:=h.gH;obtain ⟨o,fr,iv',tv,a1,a2,a3,a4,a5⟩:=h;have hgB:=o.gB;have e0:=a1.cell 6;rw [hiv] at e0;cases e0;refine apG underlying66 vV rfl (by decide) a2 (aA.of_own hu) (sU x) (by omega) (by unfold maxLen;omega) (Nat.le_trans hgB.2 fr.size) λv2 w2 ho2 hg2 hl2=>?_;have f2:Fr (λk=>iv.ownBlock=some k) w w2:=Fr.of_grown hg2 λk hk=>hk;have hlo:∀ k,iv.ownBlock=some k->c.B<=k/\k < w.heap.size:=λk hk=>a2.lt k hk;rw [<- aGp] at ho2;refine hk v2 w2 ⟨o,fr.trans (f2.mono λk hk=>a4 k hk) λ_ _ h=>h,iv,tv,f2.blk a1 λhk=>?_,by rw [List.length_append];exact ho2,f2.own a3 λk hk hk'=>?_,λk hk=>?_,a5⟩ f2 hlo
 ·have:=hlo _ hk;omega
 ·rcases yZ a3 a2 (by decide) with h|h
  ·rw [h] at hk;cases hk
  ·exact h (by rw [hk,hk'])
 ·rcases hl2 with h2|h2
  ·rw [h2] at hk;exact a4 k hk
  ·rw [h2] at hk;cases hk;intro hH;have h1:=(o.hH _ hH).1;have h3:=fr.size;omega
theorem Er.put {v:Value} {K':World->Prop} (h:Er c wb w l ys v) (hk:∀ w',Ew c wb w' l ys->K' w'):U prog (Instr.storeAt 66 (.pointer (some ⟨c.g,6,none⟩)) v) w λ_ w2=>K' w2:=by
 obtain ⟨o,fr,iv,tv,a1,a2,a3,a4,a5⟩:=h;have hgB:=o.gB;have hg:¬ c.H c.g:=λhg=>(o.hH _ hg).2 rfl;have f:Fr (λk=>k=c.g) w (w.setCell ⟨c.g,6,none⟩ v):=Fr.of_set rfl;refine U.ok (mO aYr (nX a2) (a1.cell 6) (a1.frozen _)) (hk _ ⟨o,fr.set hg,v,tv,a1.set 6 _,f.own a2 λk hk he=>?_,f.own a3 λk hk he=>?_,a4,a5⟩)
 ·have:=(a2.lt k hk).1;omega
 ·have:=(a3.lt k hk).1;omega
theorem Ew.items (h:Ew c wb w l ys):∃ iv tv,w.cell? ⟨c.g,6,none⟩=some iv/\bO w c.g [c.pr,c.rg,c.nv,c.ov,c.sl,i64 c.ap,iv,tv,c.fr] 135:=by
 obtain ⟨o,fr,iv,tv,a1,_⟩:=h;exact ⟨iv,tv,a1.cell 6,a1⟩
theorem Ew.push {x:cF} {cs:Array Value} {K':World->Prop} (he:cs=x.cells.toArray) (h:Ew c wb w l ys) (hl:l.length<=1000000) (hk:∀ w',Ew c wb w' (l++[x]) ys->K' w') {iv:Value} (hiv:w.cell? ⟨c.g,6,none⟩=some iv) :
  V prog (Instr.buildSlice 66 1 #[(0,.agg cs)]) w λu w1=>V prog (Builtin.append_ #[66,66] 66 #[iv,u]) w1 λt2 w2=>
  Go.Vc.bL (.pointer (some ⟨c.g,0,none⟩))/\V prog (Instr.fieldAt 135 (.pointer (some ⟨c.g,0,none⟩)) 3) w2 λq w3=>V prog (Instr.fieldAt 68 q 0) w3 λq w4=>U prog (Instr.storeAt 66 q t2) w4 λ_ w5=>K' w5:=by
 refine bHz he λ_ _ ho1 x1=>?_;refine (h.ext x1).app hl (x1.cell hiv) ho1 λ_ _ hr _ _=>⟨.inl ⟨_,rfl⟩,?_⟩;refine DT bR (DT lP ?_);have:=hr.put hk;exact this
theorem aFg {i:gZ} (h:Ew c wb w l ys) (hl:l.length<=1000000) (hk:∀ w',Ew c wb w' (l++[.one i]) ys->K (.tuple #[]) w'):aB prog 78 #[.pointer (some ⟨c.g,0,none⟩),i.v] w K:=by
 apply bEg;unfold YI;refine bxK λw1 hb x1=>?_;have hb:bO w1 w.heap.size [i64 i.op,i64 i.d,i64 i.n,i64 i.m,i64 i.imm,i64 i.cond] 83:=hb;have h2:=h.ext x1.drew;obtain ⟨iv,tv,e1,e2⟩:=h2.items;refine aM.mk' (λw'=>bG w' c.g [c.pr,c.rg,c.nv,c.ov,c.sl,i64 c.ap,iv,tv,c.fr]/\bG w' w.heap.size [i64 i.op,i64 i.d,i64 i.n,i64 i.m,i64 i.imm,i64 i.cond]) ⟨e2.boxed,(hb.drew).boxed⟩ ?_;refine ⟨.inl ⟨_,rfl⟩,yB2 (λw' hx=>hx.1) bR lP LH rfl ?_⟩;refine yA (λw' hx=>hx.2) qB rfl (bGt AG (WG i) ?_);refine bHz (x:=.one i) rfl λu w3 ho3 x3=>⟨⟨(e2.ext x3).boxed,(hb.drew.ext x3).boxed⟩,?_⟩
 have lo:∀ k,iv.ownBlock=some k->k < w.heap.size/\k≠c.g:=λk hk=>by
  obtain ⟨iv0,tv0,e3,e4⟩:=h.items;have e5:=(x1.drew).cell e3;rw [e1] at e5;cases e5;obtain ⟨o,_,iv',tv',b1,b2,_⟩:=h;have e6:=b1.cell 6;rw [e3] at e6;cases e6;have:=(b2.lt _ hk);have:=o.gB;omega
 refine (h2.ext x3).app hl (x3.cell e1) ho3 λv w4 hr f4 _=>⟨⟨?_,?_⟩,.inl ⟨_,rfl⟩,?_⟩
 ·exact (f4.blk (e2.ext x3) λhk=>(lo _ hk).2 rfl).boxed
 ·exact (f4.blk (hb.drew.ext x3) λhk=>by have:=(lo _ hk).1;omega).boxed
 ·refine yfA bR (yfA lP ?_);have:=hr.put hk;exact this
theorem aOm {q:Int} (h:Ew c wb w l ys) (hl:l.length<=1000000) (hk:∀ w',Ew c wb w' (l++[.place q]) ys->K (.tuple #[]) w'):aB prog 38 #[.pointer (some ⟨c.g,0,none⟩),i64 q] w K:=by
 apply bFn;unfold ZM;obtain ⟨iv,tv,e1,e2⟩:=h.items;refine ⟨.inl ⟨_,rfl⟩,rO e2.boxed bR lP LH rfl ?_⟩;refine JE AG rfl ?_;exact h.push rfl hl hk e1
theorem bBh {q d:Int} (h:Ew c wb w l ys) (hl:l.length<=1000000) (hk:∀ w',Ew c wb w' (l++[.jump d q]) ys->K (.tuple #[]) w'):aB prog 76 #[.pointer (some ⟨c.g,0,none⟩),i64 d,i64 q] w K:=by
 apply bEi;unfold YK;obtain ⟨iv,tv,e1,e2⟩:=h.items;refine ⟨.inl ⟨_,rfl⟩,rO e2.boxed bR lP LH rfl ?_⟩;refine JE AG rfl ?_;exact h.push rfl hl hk e1
theorem aFl {q d:Int} (h:Ew c wb w l ys) (hl:l.length<=1000000) (hk:∀ w',Ew c wb w' (l++[.load d q]) ys->K (.tuple #[]) w'):aB prog 69 #[.pointer (some ⟨c.g,0,none⟩),i64 d,i32 q] w K:=by
 apply bEp;unfold YR;obtain ⟨iv,tv,e1,e2⟩:=h.items;refine ⟨.inl ⟨_,rfl⟩,rO e2.boxed bR lP LH rfl ?_⟩;refine JE AG rfl ?_;exact h.push rfl hl hk e1
theorem aDo {op d m:Int} (h:Ew c wb w l ys) (hl:l.length<=1000000) (hk:∀ w',Ew c wb w' (l++[iB op d m]) ys->K (.tuple #[]) w'):aB prog 67 #[.pointer (some ⟨c.g,0,none⟩),i64 op,i64 d,i64 m] w K:=by
 apply bEr;unfold YT;refine pP pQ [(0,i64 op),(1,i64 d),(3,i64 m)] rfl rfl ?_;exact aFg (i:=⟨op,d,0,m,0,0⟩) h hl hk
theorem HR {op d m:Int} (h:Ew c wb w l ys) (hl:l.length<=1000000) (hk:∀ w',Ew c wb w' (l++[iW op d m]) ys->K (.tuple #[]) w'):aB prog 68 #[.pointer (some ⟨c.g,0,none⟩),i64 op,i64 d,i64 m] w K:=by
 apply bEq;unfold YS;refine pP pQ [(0,i64 op),(1,i64 d),(4,i64 m)] rfl rfl ?_;exact aFg (i:=⟨op,d,0,0,m,0⟩) h hl hk
structure nP (c:Ec) (wb:World) (f:FuncId) (args:Array Value) (xs:List cF):Prop where
 run:∀ {w:World} {l:List cF} {ys:List Value} {K:Value->World->Prop},Ew c wb w l ys->l.length+xs.length<=900000->(∀ w',Ew c wb w' (l++xs) ys->K (.tuple #[]) w')->aB prog f args w K
theorem Ew.oAt (h:Ew c wb w l ys):∃ cs,bG w c.g cs/\cs[3]?=some c.ov/\cs[5]?=some (i64 c.ap)/\cs[2]?=some c.nv:=by
 obtain ⟨iv,tv,e1,e2⟩:=h.items;exact ⟨_,e2.boxed,rfl,rfl,rfl⟩
theorem bAv {reg r:Int} (hr0:0<=r) (hr1:r < c.of.length) (hb:∀ a∈c.of,0<=a/\a < 1000):nP c wb 131 #[.pointer (some ⟨c.g,0,none⟩),i64 reg,i64 r] [eLd c.of reg r]:=by
 refine ⟨λ{w l ys K} h hl hk=>?_⟩;apply aWq;unfold QD;obtain ⟨cs,e1,e2,_⟩:=h.oAt;obtain ⟨r,rfl⟩:∃ k:Nat,r=k:=⟨r.toNat,by omega⟩;obtain ⟨a,ha⟩:=bC (l:=c.of) (j:=r) (by omega);have hab:=hb a (List.mem_of_getElem? ha);have hd:c.of.getD ((r:Int)).toNat 0=a:=by rw [List.getD_eq_getElem?_getD,Int.toNat_natCast,ha];rfl
 refine ⟨.inl ⟨_,rfl⟩,rO e1 eC lO bD e2 ?_⟩;refine lV aQ aH h.ofAt (by omega) (by omega) (cG ha) (aY.2 (aD (λhlt=>?_) λhge=>?_))
 ·refine aDo h (by omega) λw' h'=>hk w' ?_;unfold eLd;dsimp only;rw [hd,if_pos hlt];exact h'
 ·refine fQ.2 ?_;rw [aC (by omega) (by omega)];refine oO.2 ?_;rw [aC (by omega) (by omega)];refine HR h (by omega) λw' h'=>hk w' ?_;unfold eLd;dsimp only;rw [hd,if_neg hge];exact h'
theorem UM {reg r:Int} (hr0:0<=r) (hr1:r < c.of.length) (hb:∀ a∈c.of,0<=a/\a < 1000):nP c wb 37 #[.pointer (some ⟨c.g,0,none⟩),i64 r,i64 reg] [eSt c.of r reg]:=by
 refine ⟨λ{w l ys K} h hl hk=>?_⟩;apply bFo;unfold ZN;obtain ⟨cs,e1,e2,_⟩:=h.oAt;obtain ⟨r,rfl⟩:∃ k:Nat,r=k:=⟨r.toNat,by omega⟩;obtain ⟨a,ha⟩:=bC (l:=c.of) (j:=r) (by omega);have hab:=hb a (List.mem_of_getElem? ha);have hd:c.of.getD ((r:Int)).toNat 0=a:=by rw [List.getD_eq_getElem?_getD,Int.toNat_natCast,ha];rfl
 refine ⟨.inl ⟨_,rfl⟩,rO e1 eC lO bD e2 ?_⟩;refine lV aQ aH h.ofAt (by omega) (by omega) (cG ha) (aY.2 (aD (λhlt=>?_) λhge=>?_))
 ·refine aDo h (by omega) λw' h'=>hk w' ?_;unfold eSt;dsimp only;rw [hd,if_pos hlt];exact h'
 ·refine fQ.2 ?_;rw [aC (by omega) (by omega)];refine oO.2 ?_;rw [aC (by omega) (by omega)];refine HR h (by omega) λw' h'=>hk w' ?_;unfold eSt;dsimp only;rw [hd,if_neg hge];exact h'
end Go.Proofs.YtjcmcfidblhnnaaGreatDoor
namespace Go.Proofs.YtjcmcfidblhnnaaGreatDoor
open Tryz
open Go.Vc
variable {w:World} {K:Value->World->Prop} {c:Ec} {wb:World} {l:List cF} {ys:List Value}
variable {n:aJ}
theorem CS (i:gZ):nP c wb 78 #[.pointer (some ⟨c.g,0,none⟩),i.v] [.one i]:=⟨λh hl hk=>aFg h (by omega) hk⟩
theorem nL (op d m:Int):nP c wb 67 #[.pointer (some ⟨c.g,0,none⟩),i64 op,i64 d,i64 m] [iB op d m]:=⟨λh hl hk=>aDo h (by omega) hk⟩
theorem wR (op d m:Int):nP c wb 68 #[.pointer (some ⟨c.g,0,none⟩),i64 op,i64 d,i64 m] [iW op d m]:=⟨λh hl hk=>HR h (by omega) hk⟩
theorem SH (d q:Int):nP c wb 76 #[.pointer (some ⟨c.g,0,none⟩),i64 d,i64 q] [.jump d q]:=⟨λh hl hk=>bBh h (by omega) hk⟩
theorem VE (q:Int):nP c wb 38 #[.pointer (some ⟨c.g,0,none⟩),i64 q] [.place q]:=⟨λh hl hk=>aOm h (by omega) hk⟩
theorem CT (d q:Int):nP c wb 69 #[.pointer (some ⟨c.g,0,none⟩),i64 d,i32 q] [.load d q]:=⟨λh hl hk=>aFl h (by omega) hk⟩
theorem nP.go {f:FuncId} {args:Array Value} {xs rs ms l':List cF} (he:nP c wb f args xs) (h:Ew c wb w l' ys) (hm:l'++xs++rs=l++ms) (hl:l.length+ms.length<=900000) (hk:∀ w',Ew c wb w' (l'++xs) ys->K (.tuple #[]) w'):aB prog f args w K:=by
 refine he.run h ?_ hk;have:=congrArg List.length hm;simp only [List.length_append] at this;omega
theorem aQc:nP c wb 186 #[.pointer (some ⟨c.g,0,none⟩)] (qX):=by
 refine ⟨λ{w l ys K} h hl hk=>?_⟩;apply aUm;unfold OE;refine (wR 8 0 0).go (l:=l) (ms:=qX) (rs:=[iB 17 0 0]) h (by simp [qX]) hl λw h=>?_;refine (nL 17 0 0).go (l:=l) (ms:=qX) (rs:=[]) h (by simp [qX]) hl λw h=>?_;refine hk w ?_;simpa [qX] using h
theorem WW:nP c wb 135 #[.pointer (some ⟨c.g,0,none⟩)] (lB):=by
 refine ⟨λ{w l ys K} h hl hk=>?_⟩;apply aWn;unfold QA;refine (nL 22 0 1).go (l:=l) (ms:=lB) (rs:=[iB 18 0 0]++[iB 21 0 0]) h (by simp [lB]) hl λw h=>?_;refine (nL 18 0 0).go (l:=l) (ms:=lB) (rs:=[iB 21 0 0]) h (by simp [lB]) hl λw h=>?_;refine (nL 21 0 0).go (l:=l) (ms:=lB) (rs:=[]) h (by simp [lB]) hl λw h=>?_;refine hk w ?_;simpa [lB] using h
theorem aDc:nP c wb 134 #[.pointer (some ⟨c.g,0,none⟩)] (qW):=by
 refine ⟨λ{w l ys K} h hl hk=>?_⟩;apply aWo;unfold QB;refine (nL 21 0 0).go (l:=l) (ms:=qW) (rs:=qX) h (by simp [qW]) hl λw h=>?_;refine (aQc).go (l:=l) (ms:=qW) (rs:=[]) h (by simp [qW]) hl λw h=>?_;refine hk w ?_;simpa [qW] using h
theorem HU (op:Int):nP c wb 133 #[.pointer (some ⟨c.g,0,none⟩),i64 op] (oW op):=by
 refine ⟨λ{w l ys K} h hl hk=>?_⟩;apply aWp;unfold QC;refine (wR 8 2 31).go (l:=l) (ms:=oW op) (rs:=[iB 12 1 2]++[iB op 0 1]) h (by simp [oW]) hl λw h=>?_;refine (nL 12 1 2).go (l:=l) (ms:=oW op) (rs:=[iB op 0 1]) h (by simp [oW]) hl λw h=>?_;refine (nL op 0 1).go (l:=l) (ms:=oW op) (rs:=[]) h (by simp [oW]) hl λw h=>?_;refine hk w ?_;simpa [oW] using h
theorem aHv:nP c wb 74 #[.pointer (some ⟨c.g,0,none⟩)] (kL):=by
 refine ⟨λ{w l ys K} h hl hk=>?_⟩;apply bEk;unfold YM;refine (nL 21 0 0).go (l:=l) (ms:=kL) (rs:=[iB 18 0 0]++[iB 13 1 2]++[iB 12 0 1]++[iB 13 0 2]) h (by simp [kL]) hl λw h=>?_;refine (nL 18 0 0).go (l:=l) (ms:=kL) (rs:=[iB 13 1 2]++[iB 12 0 1]++[iB 13 0 2]) h (by simp [kL]) hl λw h=>?_;refine (nL 13 1 2).go (l:=l) (ms:=kL) (rs:=[iB 12 0 1]++[iB 13 0 2]) h (by simp [kL]) hl λw h=>?_;refine (nL 12 0 1).go (l:=l) (ms:=kL) (rs:=[iB 13 0 2]) h (by simp [kL]) hl λw h=>?_;refine (nL 13 0 2).go (l:=l) (ms:=kL) (rs:=[]) h (by simp [kL]) hl λw h=>?_;refine hk w ?_;simpa [kL] using h
theorem aZo (q:Int):nP c wb 75 #[.pointer (some ⟨c.g,0,none⟩),i64 q] (mL q):=by
 refine ⟨λ{w l ys K} h hl hk=>?_⟩;apply bEj;unfold YL;refine (wR 9 7 0).go (l:=l) (ms:=mL q) (rs:=[cF.jump 1 q]++[cF.one ⟨44,0,0,0,0,0⟩]++[cF.place q]++[iW 11 7 1]) h (by simp [mL]) hl λw h=>?_;refine (SH 1 q).go (l:=l) (ms:=mL q) (rs:=[cF.one ⟨44,0,0,0,0,0⟩]++[cF.place q]++[iW 11 7 1]) h (by simp [mL]) hl λw h=>?_;refine pP pQ [(0,i64 44)] rfl rfl ?_;refine (CS ⟨44,0,0,0,0,0⟩).go (l:=l) (ms:=mL q) (rs:=[cF.place q]++[iW 11 7 1]) h (by simp [mL]) hl λw h=>?_;refine (VE q).go (l:=l) (ms:=mL q) (rs:=[iW 11 7 1]) h (by simp [mL]) hl λw h=>?_;refine (wR 11 7 1).go (l:=l) (ms:=mL q) (rs:=[]) h (by simp [mL]) hl λw h=>?_;refine hk w ?_;simpa [mL] using h
theorem bIl (op:Int):nP c wb 72 #[.pointer (some ⟨c.g,0,none⟩),i64 op] (oI op):=by
 refine ⟨λ{w l ys K} h hl hk=>?_⟩;apply bEm;unfold YO;refine aK.2 (aD (λe=>?_) λe6=>?_)
 ·have ee:oI op=oI 6:=by rw [e]
  rw [ee] at hl hk;refine pP pQ [(0,i64 4),(1,i64 0),(2,i64 0),(3,i64 1)] rfl rfl ?_;exact (CS ⟨4,0,0,1,0,0⟩).run h hl hk
 refine aK.2 (aD (λe=>?_) λe7=>?_)
 ·have ee:oI op=oI 7:=by rw [e]
  rw [ee] at hl hk;refine pP pQ [(0,i64 5),(1,i64 0),(2,i64 0),(3,i64 1)] rfl rfl ?_;exact (CS ⟨5,0,0,1,0,0⟩).run h hl hk
 refine aK.2 (aD (λe=>?_) λe8=>?_)
 ·have ee:oI op=oI 8:=by rw [e]
  rw [ee] at hl hk;exact (nL 25 0 1).run h hl hk
 refine aK.2 (aD (λe=>?_) λe9=>?_)
 ·have ee:oI op=oI 9:=by rw [e]
  rw [ee] at hl hk;exact (nL 12 0 1).run h hl hk
 refine aK.2 (aD (λe=>?_) λe10=>?_)
 ·have ee:oI op=oI 10:=by rw [e]
  rw [ee] at hl hk;exact (nL 24 0 1).run h hl hk
 refine aK.2 (aD (λe=>?_) λe11=>?_)
 ·have ee:oI op=oI 11:=by rw [e]
  rw [ee] at hl hk;exact (nL 13 0 1).run h hl hk
 refine aK.2 (aD (λe=>?_) λe12=>?_)
 ·have ee:oI op=oI 12:=by rw [e]
  rw [ee] at hl hk;exact (HU 14).run h hl hk
 refine aK.2 (aD (λe=>?_) λe13=>?_)
 ·have ee:oI op=oI 13:=by rw [e]
  rw [ee] at hl hk;exact (HU 15).run h hl hk
 refine aK.2 (aD (λe=>?_) λe14=>?_)
 ·have ee:oI op=oI 14:=by rw [e]
  rw [ee] at hl hk;exact (HU 16).run h hl hk
 refine aK.2 (aD (λe=>?_) λe19=>?_)
 ·have ee:oI op=.one ⟨5,0,0,1,0,0⟩::qW:=by rw [e];rfl
  rw [ee] at hl hk;refine pP pQ [(0,i64 5),(1,i64 0),(2,i64 0),(3,i64 1)] rfl rfl ?_;refine (CS ⟨5,0,0,1,0,0⟩).go (l:=l) (ms:=.one ⟨5,0,0,1,0,0⟩::qW) (rs:=qW) h (by simp) hl λw h=>?_;refine aDc.go (l:=l) (ms:=.one ⟨5,0,0,1,0,0⟩::qW) (rs:=[]) h (by simp) hl λw h=>hk w ?_;simpa using h
 refine aK.2 (aD (λe=>?_) λe20=>?_)
 ·have ee:oI op=.load 2 (-2147483648)::iB 13 0 2::iB 13 1 2::lB:=by rw [e];rfl
  rw [ee] at hl hk;refine (CT 2 (-2147483648)).go (l:=l) (ms:=.load 2 (-2147483648)::iB 13 0 2::iB 13 1 2::lB) (rs:=iB 13 0 2::iB 13 1 2::lB) h (by simp) hl λw h=>?_;refine (nL 13 0 2).go (l:=l) (ms:=.load 2 (-2147483648)::iB 13 0 2::iB 13 1 2::lB) (rs:=iB 13 1 2::lB) h (by simp) hl λw h=>?_;refine (nL 13 1 2).go (l:=l) (ms:=.load 2 (-2147483648)::iB 13 0 2::iB 13 1 2::lB) (rs:=lB) h (by simp) hl λw h=>?_;refine (WW).go (l:=l) (ms:=.load 2 (-2147483648)::iB 13 0 2::iB 13 1 2::lB) (rs:=[]) h (by simp) hl λw h=>?_;refine hk w ?_;simpa using h
 have ee:oI op=lB:=by unfold oI;simp only [e6,e7,e8,e9,e10,e11,e12,e13,e14,e19,e20,if_false]
 rw [ee] at hl hk;exact (WW).run h hl hk
theorem bJl (op:Int):nP c wb 73 #[.pointer (some ⟨c.g,0,none⟩),i64 op] (eUn op):=by
 refine ⟨λ{w l ys K} h hl hk=>?_⟩;apply bEl;unfold YN;unfold eUn at hl hk;refine aK.2 (aD (λe=>?_) λe15=>?_)
 ·rw [if_pos e] at hl hk;exact (nL 21 0 0).run h hl hk
 rw [if_neg e15] at hl hk;refine aK.2 (aD (λe=>?_) λe16=>?_)
 ·rw [if_pos e] at hl hk;exact (nL 27 0 0).run h hl hk
 rw [if_neg e16] at hl hk;exact (aDc).run h hl hk
theorem WH (ha:0<=c.ap/\c.ap < 4):nP c wb 77 #[.pointer (some ⟨c.g,0,none⟩)] [tA c.ap]:=by
 refine ⟨λ{w l ys K} h hl hk=>?_⟩;apply bEh;unfold YJ;obtain ⟨cs,e1,_,e2,_⟩:=h.oAt;refine ⟨.inl ⟨_,rfl⟩,bF e1 eO aH e2 (oO.2 ?_)⟩;rw [aC (by omega) (by omega)];refine aU.2 ?_;rw [aC (by omega) (by omega)];refine V.ok (lL underlying3 underlying21) ?_;exact (CT _ _).run h hl hk
theorem aCg {of l:List Int} {j:Nat} {r:Int} (h:l[j]?=some r):jG of (l.take (j+1))=jG of (l.take j)++[eLd of (j:Int) r]:=by
 obtain ⟨hj,rfl⟩:=List.getElem?_eq_some_iff.1 h;have e:(l.take j).length=j:=by simp;omega
 have e1:(l.take (j+1)).length=j+1:=by simp;omega
 unfold jG;rw [e1,e,List.range_succ,List.map_append]
 congr 1
 ·apply List.map_congr_left;intro k hk;have hk:=List.mem_range.1 hk;simp [List.getD_eq_getElem?_getD,hk,Nat.lt_succ_of_lt hk]
 ·simp [List.getD_eq_getElem?_getD,hj]
theorem aPb {rv:Value} {rs:List Int} (hs:∀ w,Fr (λk=>¬ c.H k) wb w->aN w rv rs) (hr:∀ r∈rs,0<=r/\r < c.of.length) (hb:∀ a∈c.of,0<=a/\a < 1000):nP c wb 70 #[.pointer (some ⟨c.g,0,none⟩),rv] (jG c.of rs):=by
 refine ⟨λ{w l ys K} h hl hk=>?_⟩;apply bEo;unfold YQ;have hll:(jG c.of rs).length=rs.length:=by simp [jG]
 refine gD aQ (hs w h.fr) ?_;refine ⟨λv w'=>∃ j:Nat,v=i64 j/\j<=rs.length/\Ew c wb w' (l++jG c.of (rs.take j)) ys,λv _=>rs.length - (RowKit.intOf v).toNat,⟨0,rfl,Nat.zero_le _,by simpa [jG] using h⟩,?_⟩;rintro _ w1 ⟨j,rfl,hj,h1⟩ _;refine aY.2 (aD (λhlt=>?_) λhge=>?_)
 ·obtain ⟨r,hrj⟩:=bC (l:=rs) (j:=j) (by omega);obtain ⟨q1,q2⟩:=hr r (List.mem_of_getElem? hrj);refine lV aQ aH (hs w1 h1.fr) (by omega) (by omega) (cG hrj) ?_;refine (bAv q1 q2 hb).run h1 (by simp [jG];omega) λw2 h2=>aU.2 ?_;rw [aC (by omega) (by omega),aR];rw [List.append_assoc,<- aCg hrj] at h2;exact ⟨⟨j+1,rfl,by omega,h2⟩,by simp only [aL];omega⟩
 ·have e:rs.take j=rs:=List.take_of_length_le (by omega);rw [e] at h1;exact hk w1 h1
structure OfB (of:List Int):Prop where
 b:∀ a∈of,0<=a/\a < 1000
theorem vI {v:Value} (h:Ew c wb w l ys) (hn:iX w v n) (ha:n.args.length<=4294967296) (hr:∀ r∈n.us,0<=r/\r < c.of.length) (hb:OfB c.of) (hl:l.length+n.us.length<=900000) (hk:∀ w',Ew c wb w' (l++jG c.of n.us) ys->K (.tuple #[]) w') :
  aB prog 71 #[v] w λt w1=>aB prog 70 #[.pointer (some ⟨c.g,0,none⟩),t] w1 K:=by
 refine (HM hn ha).mono λr w1 ⟨ho,x1⟩=>?_;have h1:=h.hold x1;refine (aPb (c:=c.hold w.heap.size w1.heap.size) (wb:=w1) (rs:=n.us) (λw2 f=>aA.of_own (f.own ho λk hk hS=>hS (.inr (ho.lt k hk)))) hr hb.b).run h1 (by simp only [jG,List.length_map,List.length_range];exact hl) λw2 h2=>hk w2 (h.free x1 h2)
theorem Ew.tab (h:Ew c wb w l ys):∃ iv tv,bO w c.g [c.pr,c.rg,c.nv,c.ov,c.sl,i64 c.ap,iv,tv,c.fr] 135/\w.ownsRow c.B 43 1 tv ys.length ys:=by
 obtain ⟨o,fr,iv,tv,a1,_,a3,_⟩:=h;exact ⟨iv,tv,a1,a3⟩
theorem Ew.pushT {v tv:Value} {iv:Value} {K':World->Prop} (h:Ew c wb w l ys) (h1:cO v=true) (hy:ys.length<=100000) (hB:bO w c.g [c.pr,c.rg,c.nv,c.ov,c.sl,i64 c.ap,iv,tv,c.fr] 135) (hk:∀ w',Ew c wb w' l (ys++[v])->K' w') :
  V prog (Instr.buildSlice 31 1 #[(0,v)]) w λu w1=>V prog (Builtin.append_ #[31,31] 31 #[tv,u]) w1 λt2 w2=>
  Go.Vc.bL (.pointer (some ⟨c.g,0,none⟩))/\V prog (Instr.fieldAt 135 (.pointer (some ⟨c.g,0,none⟩)) 3) w2 λq w3=>V prog (Instr.fieldAt 68 q 1) w3 λq w4=>U prog (Instr.storeAt 31 q t2) w4 λ_ w5=>K' w5:=by
 have hg:=h.gH;obtain ⟨o,fr,iv',tv',a1,a2,a3,a4,a5⟩:=h;have hgB:=o.gB;have e6:=hB.cell 6;have e7:=hB.cell 7;rw [a1.cell 6] at e6;rw [a1.cell 7] at e7;cases e6;cases e7;refine jS aDf [v] rfl rfl (by simp) (by simpa using h1) λu w1 ho1 x1=>?_;have s1:=x1.size;have s0:=fr.size;refine apG underlying31 LO rfl (by decide) (x1.own a3) (aA.of_own ho1) (by simpa using h1) (by omega) (by unfold maxLen;omega) (by omega) λtv2 w2 ho2 hg2 hl2=>?_;have f2:Fr (λk=>tv.ownBlock=some k) w1 w2:=Fr.of_grown hg2 λk hk=>hk;have a1':=f2.blk (a1.ext x1) λhk=>by have:=a3.lt _ hk;omega
 have a2':=f2.own (x1.own a2) λk hk hk'=>by
  rcases yZ a3 a2 (by decide) with h|h
  ·rw [h] at hk';cases hk'
  ·exact h (by rw [hk,hk'])
 have fr2:Fr (λk=>¬ c.H k) wb w2:=(fr.trans (Fr.of_ext x1) λ_ _ h=>h).trans (f2.mono λk hk=>a5 k hk) λ_ _ h=>h;refine ⟨.inl ⟨_,rfl⟩,?_⟩;refine bGz bR mV LQ a1' (n:=9) rfl (by decide) (nX ho2) ?_;refine hk _ ⟨o,fr2.set hg,iv,tv2,a1'.set 7 _,?_,?_,a4,λk hk=>?_⟩
 ·exact (Fr.of_set (S:=λi=>i=c.g) rfl).own a2' λk hk he=>by have:=(a2'.lt k hk).1;omega
 ·rw [List.length_append];exact (Fr.of_set (S:=λi=>i=c.g) rfl).own ho2 λk hk he=>by have:=(ho2.lt k hk).1;omega
 ·rcases hl2 with h2|h2
  ·rw [h2] at hk;exact a5 k hk
  ·rw [h2] at hk;cases hk;intro hH;have h1:=(o.hH _ hH).1;omega
theorem RV {v:Value} (h:iX w v n):cO v=true:=by
 obtain ⟨sv,rfl,_⟩:=h;cases n<;>rfl
structure aIn (n:aJ) (R:Nat):Prop where
 u:∀ r∈n.us,0<=r/\r < R
 d:n.df>=0->n.df < R
 a:n.args.length<=4294967296
 l:n.us.length<=5
theorem WM {v:Value} {R:Value->World->Prop} (h:Ew c wb w l ys) (hn:iX w v n) (hr:aIn n c.of.length) (hb:OfB c.of) (hl:l.length<=800000) (hk:∀ w',Ew c wb w' (l++uV c.of n) ys->R (.tuple #[]) w') :
  aB prog 80 #[v] w λt w1=>V prog (binOp .geq 3 t (i64 0)) w1 λt2 w2=>aI t2 (aB prog 37 #[.pointer (some ⟨c.g,0,none⟩),t,i64 0] w2 λ_ w3=>R (.tuple #[]) w3) (R (.tuple #[]) w2):=by
 refine (JC hn).mono λr w1 ⟨hr1,x1⟩=>?_;subst hr1;have h1:=h.ext x1;refine kN.2 (aD (λhd=>?_) λhd=>?_)
 ·refine (UM (by omega) (hr.d hd) hb.b).run h1 (by simp;omega) λw2 h2=>hk w2 ?_;unfold uV;rw [if_pos hd];exact h2
 ·refine hk w1 ?_;unfold uV;rw [if_neg hd,List.append_nil];exact h1
theorem aDx {v:Value} (h:Ew c wb w l ys) (hn:iX w v n) (hs:∀ w',Fr (λk=>¬ c.H k) wb w'->iX w' v n) (hr:aIn n c.of.length) (hb:OfB c.of) (hl:l.length<=700000) (hy:ys.length<=100000) (hk:∀ w',Ew c wb w' (l++((jG c.of n.us++[.one ⟨44,0,0,0,(ys.length:Int)+1,0⟩])++uV c.of n)) (ys++[v])->K (.tuple #[]) w') :
  aB prog 79 #[.pointer (some ⟨c.g,0,none⟩),v] w K:=by
 apply bEf;unfold YH;have hrl:=hr.l;have hel:(jG c.of n.us).length=n.us.length:=by simp [jG]
 refine vI h hn hr.a hr.u hb (by omega) λw1 h1=>?_;obtain ⟨iv,tv,e1,e2⟩:=h1.tab;refine ⟨.inl ⟨_,rfl⟩,rO e1.boxed bR mV kD rfl ?_⟩;refine h1.pushT (RV hn) hy e1 λw2 h2=>?_;obtain ⟨iv2,tv2,e3,e4⟩:=h2.tab;refine ⟨.inl ⟨_,rfl⟩,rO e3.boxed bR mV kD rfl (gD mW (aA.of_own e4) (aU.2 ?_))⟩;have e5:((ys++[v]).length:Int)=(ys.length:Int)+1:=by simp
 rw [aC (by omega) (by omega)];refine fQ.2 ?_;rw [aC (by omega) (by omega)];refine pP pQ [(0,i64 44),(4,i64 (1+((ys++[v]).length:Int) - 1))] rfl rfl ?_;have e6:1+((ys++[v]).length:Int) - 1=(ys.length:Int)+1:=by omega
 rw [e6];refine (CS ⟨44,0,0,0,(ys.length:Int)+1,0⟩).run h2 (by simp;omega) λw3 h3=>?_;refine WM h3 (hs w3 h3.fr) hr hb (by simp;omega) λw4 h4=>hk w4 ?_;simpa using h4
theorem nM (h:n.args=[]):iX w (n.val aZ) n:=⟨aZ,rfl,by rw [h];exact aA.nil w 1⟩
theorem bAi {v:Value} {k:Nat} (h:Ew c wb w l ys) (hn:iX w v n) (hs:∀ w',Fr (λk=>¬ c.H k) wb w'->iX w' v n) (hr:aIn n c.of.length) (hb:OfB c.of) (ha:0<=c.ap/\c.ap < 4) (hN:c.N<=1000) (hk0:k<=1000) (hl:l.length<=600000) (hy:ys.length<=100000) (hF:n.okF)
  (hk:∀ w',Ew c wb w' (l++oM c.of c.N c.ap ys.length n k) (if n.srvB then ys++[v] else ys)->K (.tuple #[]) w'):aB prog 39 #[.pointer (some ⟨c.g,0,none⟩),v,i64 k] w K:=by
 have hn0:=hn;obtain ⟨sv,rfl,hsv⟩:=hn;have h5:=hr.l;apply bFm;unfold ZL
 have fin:∀ (pre:List cF) (w':World),oM c.of c.N c.ap ys.length n k=pre++uV c.of n->n.srvB=false->pre.length<=1000->Ew c wb w' (l++pre) ys ->
   aB prog 80 #[n.val sv] w' λt w1=>V prog (binOp .geq 3 t (i64 0)) w1 λt2 w2=>aI t2 (aB prog 37 #[.pointer (some ⟨c.g,0,none⟩),t,i64 0] w2 λ_ w3=>K (.tuple #[]) w3) (K (.tuple #[]) w2):=by
  intro pre w' he hsr hp h';refine WM h' (hs w' h'.fr) hr hb (by simp;omega) λw2 h2=>hk w2 ?_;rw [he,<- List.append_assoc];simpa [hsr] using h2
 have srv:n.srvB=true->oM c.of c.N c.ap ys.length n k=(jG c.of n.us++[.one ⟨44,0,0,0,(ys.length:Int)+1,0⟩])++uV c.of n->aB prog 79 #[.pointer (some ⟨c.g,0,none⟩),n.val sv] w λ_ w'=>K (.tuple #[]) w':=λhs1 he=>by
  refine aDx h hn0 hs hr hb (by omega) hy λw2 h2=>hk w2 ?_;rw [he,hs1];exact h2
 cases n with
 | const d k=>
  dsimp only [aJ.val] at fin srv ⊢;refine ⟨λw'=>Ew c wb w' (l++(.load 0 k::[])) ys,?_,λw' h' _=>fin _ w' rfl rfl (by simp []) h'⟩
  (repeat (first|(with_reducible refine th (by first|exact bM|exact oL) ?_)|((with_reducible refine tm bM (by decide) ?_);intro _ _ _)))
  refine sI aYd rfl rfl λw1 hB x1=>?_;have hB:bO w1 w.heap.size [i64 d,i32 k] 90:=hB;have h1:=h.hold x1;have hx1:=x1.size;have hlt:=hB.lt;refine bF hB.boxed aPu kI rfl ?_;exact (CT (c:=c.hold w.heap.size w1.heap.size) (wb:=w1) 0 k).run h1 (by simp;omega) λw2 h2=>h.free x1 h2
 | move d s=>
  dsimp only [aJ.val] at fin srv ⊢;refine ⟨λw'=>Ew c wb w' (l++(jG c.of [s])) ys,?_,λw' h' _=>fin _ w' rfl rfl (by simp [jG,aJ.us]) h'⟩
  (repeat (first|(with_reducible refine th bM ?_)|((with_reducible refine tm (by first|exact bM|exact oL) (by decide) ?_);intro _ _ _)))
  refine sI yU rfl rfl λw1 hB x1=>?_;have hB:bO w1 w.heap.size [i64 d,i64 s] 107:=hB;have h1:=h.hold x1;have hx1:=x1.size;have hlt:=hB.lt;refine iO hB.boxed bBg rfl (RZ IE ?_);refine vI (c:=c.hold w.heap.size w1.heap.size) (wb:=w1) (n:=.move d s) h1 (nM (n:=.move d s) rfl) hr.a hr.u hb (by show l.length+_<=_;omega) λw2 h2=>?_;have hB2:=h2.fr.blk hB λhS=>hS (.inr ⟨by omega,hlt⟩);exact h.free x1 h2
 | bin op d a b=>
  dsimp only [aJ.val] at fin srv ⊢;refine ⟨λw'=>Ew c wb w' (l++(jG c.of [a,b]++oI op)) ys,?_,λw' h' _=>fin _ w' rfl rfl (by have:=(TE op).len;simp [jG,aJ.us];omega) h'⟩
  (repeat (first|(with_reducible refine th (by first|exact bM|exact fK) ?_)|((with_reducible refine tm (by first|exact bM|exact oL) (by decide) ?_);intro _ _ _)))
  refine sI tU rfl rfl λw1 hB x1=>?_;have hB:bO w1 w.heap.size [i64 op,i64 d,i64 a,i64 b] 109:=hB;have h1:=h.hold x1;have hx1:=x1.size;have hlt:=hB.lt;refine iO hB.boxed bBf rfl (RZ oR ?_);refine vI (c:=c.hold w.heap.size w1.heap.size) (wb:=w1) (n:=.bin op d a b) h1 (nM (n:=.bin op d a b) rfl) hr.a hr.u hb (by show l.length+_<=_;omega) λw2 h2=>?_;have hB2:=h2.fr.blk hB λhS=>hS (.inr ⟨by omega,hlt⟩);refine bF hB2.boxed cD aH rfl ?_;refine (bIl (c:=c.hold w.heap.size w1.heap.size) (wb:=w1) op).run h2 (by have:=(TE op).len;simp [jG,aJ.us] at *;omega) λw3 h3=>?_;rw [List.append_assoc] at h3;exact h.free x1 h3
 | un op d a=>
  dsimp only [aJ.val] at fin srv ⊢;refine ⟨λw'=>Ew c wb w' (l++(jG c.of [a]++eUn op)) ys,?_,λw' h' _=>fin _ w' rfl rfl (by have:=(aHl op).len;simp [jG,aJ.us];omega) h'⟩
  (repeat (first|(with_reducible refine th (by first|exact bM|exact fY) ?_)|((with_reducible refine tm (by first|exact bM|exact fK|exact oL) (by decide) ?_);intro _ _ _)))
  refine sI vN rfl rfl λw1 hB x1=>?_;have hB:bO w1 w.heap.size [i64 op,i64 d,i64 a] 111:=hB;have h1:=h.hold x1;have hx1:=x1.size;have hlt:=hB.lt;refine iO hB.boxed bBe rfl (RZ ID ?_);refine vI (c:=c.hold w.heap.size w1.heap.size) (wb:=w1) (n:=.un op d a) h1 (nM (n:=.un op d a) rfl) hr.a hr.u hb (by show l.length+_<=_;omega) λw2 h2=>?_;have hB2:=h2.fr.blk hB λhS=>hS (.inr ⟨by omega,hlt⟩);refine bF hB2.boxed cC aH rfl ?_;refine (bJl (c:=c.hold w.heap.size w1.heap.size) (wb:=w1) op).run h2 (by have:=(aHl op).len;simp [jG,aJ.us] at *;omega) λw3 h3=>?_;rw [List.append_assoc] at h3;exact h.free x1 h3
 | choose d q a b=>
  dsimp only [aJ.val] at fin srv ⊢;refine ⟨λw'=>Ew c wb w' (l++(jG c.of [q,a,b]++kL)) ys,?_,λw' h' _=>fin _ w' rfl rfl (by simp [jG,kL,aJ.us]) h'⟩
  (repeat (first|(with_reducible refine th (by first|exact bM|exact hU) ?_)|((with_reducible refine tm (by first|exact bM|exact fK|exact fY|exact oL) (by decide) ?_);intro _ _ _)))
  refine sI vM rfl rfl λw1 hB x1=>?_;have hB:bO w1 w.heap.size [i64 d,i64 q,i64 a,i64 b] 113:=hB;have h1:=h.hold x1;have hx1:=x1.size;have hlt:=hB.lt;refine iO hB.boxed bBd rfl (RZ aFu ?_);refine vI (c:=c.hold w.heap.size w1.heap.size) (wb:=w1) (n:=.choose d q a b) h1 (nM (n:=.choose d q a b) rfl) hr.a hr.u hb (by show l.length+_<=_;omega) λw2 h2=>?_;have hB2:=h2.fr.blk hB λhS=>hS (.inr ⟨by omega,hlt⟩);refine (aHv (c:=c.hold w.heap.size w1.heap.size) (wb:=w1) ).run h2 (by simp [jG,aJ.us,kL] at *;omega) λw3 h3=>?_;rw [List.append_assoc] at h3;exact h.free x1 h3
 | tick  =>
  dsimp only [aJ.val] at fin srv ⊢;refine ⟨λw'=>Ew c wb w' (l++(mL ((c.N:Int)+k))) ys,?_,λw' h' _=>fin _ w' rfl rfl (by simp [mL]) h'⟩
  (repeat (first|(with_reducible refine th (by first|exact bM|exact tG) ?_)|((with_reducible refine tm (by first|exact bM|exact fK|exact fY|exact hU|exact oL) (by decide) ?_);intro _ _ _)))
  refine sI bHh rfl rfl λw1 hB x1=>?_;have h1:=h.ext x1;obtain ⟨cs,e1,_,_,e2⟩:=h1.oAt;obtain ⟨vs,hvs⟩:=h1.o.nn w1 h1.fr;refine ⟨.inl ⟨_,rfl⟩,rO e1 eQ eG kD e2 (gD mW hvs (aU.2 ?_))⟩;rw [aC (by omega) (by omega)];exact (aZo ((c.N:Int)+k)).run h1 (by simp [mL];omega) λw2 h2=>h2
 | goto t=>
  dsimp only [aJ.val] at fin srv ⊢;refine ⟨λw'=>Ew c wb w' (l++(.jump 14 t::[])) ys,?_,λw' h' _=>fin _ w' rfl rfl (by simp []) h'⟩
  (repeat (first|(with_reducible refine th (by first|exact bM|exact gE) ?_)|((with_reducible refine tm (by first|exact bM|exact fK|exact fY|exact hU|exact gE|exact gO|exact jJ|exact jI|exact lA|exact lE|exact lX|exact nI|exact tG|exact oL) (by decide) ?_);intro _ _ _)))
  refine sI tT rfl rfl λw1 hB x1=>?_;have hB:bO w1 w.heap.size [i64 t] 115:=hB;have h1:=h.hold x1;have hx1:=x1.size;have hlt:=hB.lt;refine bF hB.boxed bT aH rfl ?_;exact (SH (c:=c.hold w.heap.size w1.heap.size) (wb:=w1) 14 t).run h1 (by simp;omega) λw2 h2=>h.free x1 h2
 | branch q t=>
  dsimp only [aJ.val] at fin srv ⊢;refine ⟨λw'=>Ew c wb w' (l++(jG c.of [q]++[iW 9 0 0,.jump 1 t])) ys,?_,λw' h' _=>fin _ w' rfl rfl (by simp [jG,aJ.us]) h'⟩
  (repeat (first|(with_reducible refine th (by first|exact bM|exact gO) ?_)|((with_reducible refine tm (by first|exact bM|exact fK|exact fY|exact hU|exact gE|exact gO|exact jJ|exact jI|exact lA|exact lE|exact lX|exact nI|exact tG|exact oL) (by decide) ?_);intro _ _ _)))
  refine sI tS rfl rfl λw1 hB x1=>?_;have hB:bO w1 w.heap.size [i64 q,i64 t] 117:=hB;have h1:=h.hold x1;have hx1:=x1.size;have hlt:=hB.lt;refine iO hB.boxed aGh rfl (RZ SB ?_);refine vI (c:=c.hold w.heap.size w1.heap.size) (wb:=w1) (n:=.branch q t) h1 (nM (n:=.branch q t) rfl) hr.a hr.u hb (by show l.length+_<=_;omega) λw2 h2=>?_;have hB2:=h2.fr.blk hB λhS=>hS (.inr ⟨by omega,hlt⟩);refine (wR (c:=c.hold w.heap.size w1.heap.size) (wb:=w1) 9 0 0).run h2 (by simp [jG,aJ.us] at *;omega) λw3 h3=>?_;have hB3:=h3.fr.blk hB λhS=>hS (.inr ⟨by omega,hlt⟩);refine bF hB3.boxed bS aH rfl ?_;refine (SH (c:=c.hold w.heap.size w1.heap.size) (wb:=w1) 1 t).run h3 (by simp [jG,aJ.us] at *;omega) λw4 h4=>h.free (a:=w.heap.size) (b:=w1.heap.size) x1 ?_;have e9:l++jG c.of [q]++[iW 9 0 0]++[.jump 1 t]=l++(jG c.of [q]++[iW 9 0 0,.jump 1 t]):=by simp
  rw [<- e9];exact h4
 | getField d f=>
  dsimp only [aJ.val] at fin srv ⊢;refine ⟨λw'=>Ew c wb w' (l++([tA c.ap,.one ⟨31,0,1,0,4*f,0⟩])) ys,?_,λw' h' _=>fin _ w' rfl rfl (by simp []) h'⟩
  (repeat (first|(with_reducible refine th (by first|exact bM|exact jJ) ?_)|((with_reducible refine tm (by first|exact bM|exact fK|exact fY|exact hU|exact gE|exact gO|exact jJ|exact jI|exact lA|exact lE|exact lX|exact nI|exact tG|exact oL) (by decide) ?_);intro _ _ _)))
  have hf:0<=f/\f < 8:=hF;refine sI CA rfl rfl λw1 hB x1=>?_;have hB:bO w1 w.heap.size [i64 d,i64 f] 119:=hB;have h1:=h.hold x1;have hx1:=x1.size;have hlt:=hB.lt;refine (WH (c:=c.hold w.heap.size w1.heap.size) (wb:=w1) ha).run h1 (by simp;omega) λw2 h2=>?_;have hB2:=h2.fr.blk hB λhS=>hS (.inr ⟨by omega,hlt⟩);refine bF hB2.boxed cR aH rfl (oO.2 ?_);rw [aC (by omega) (by omega)];refine pP pQ [(0,i64 31),(1,i64 0),(2,i64 1),(4,i64 (4*f))] rfl rfl ?_;refine (CS (c:=c.hold w.heap.size w1.heap.size) (wb:=w1) ⟨31,0,1,0,4*f,0⟩).run h2 (by simp;omega) λw3 h3=>h.free (a:=w.heap.size) (b:=w1.heap.size) x1 ?_;rw [List.append_assoc] at h3;exact h3
 | putField f s=>
  dsimp only [aJ.val] at fin srv ⊢;refine ⟨λw'=>Ew c wb w' (l++(jG c.of [s]++[tA c.ap,.one ⟨32,0,1,0,4*f,0⟩])) ys,?_,λw' h' _=>fin _ w' rfl rfl (by simp [jG,aJ.us]) h'⟩
  (repeat (first|(with_reducible refine th (by first|exact bM|exact jI) ?_)|((with_reducible refine tm (by first|exact bM|exact fK|exact fY|exact hU|exact gE|exact gO|exact jJ|exact jI|exact lA|exact lE|exact lX|exact nI|exact tG|exact oL) (by decide) ?_);intro _ _ _)))
  have hf:0<=f/\f < 8:=hF;refine sI yT rfl rfl λw1 hB x1=>?_;have hB:bO w1 w.heap.size [i64 f,i64 s] 121:=hB;have h1:=h.hold x1;have hx1:=x1.size;have hlt:=hB.lt;refine iO hB.boxed bBb rfl (RZ aFs ?_);refine vI (c:=c.hold w.heap.size w1.heap.size) (wb:=w1) (n:=.putField f s) h1 (nM (n:=.putField f s) rfl) hr.a hr.u hb (by show l.length+_<=_;omega) λw2 h2=>?_;have hB2:=h2.fr.blk hB λhS=>hS (.inr ⟨by omega,hlt⟩);refine (WH (c:=c.hold w.heap.size w1.heap.size) (wb:=w1) ha).run h2 (by simp [jG,aJ.us] at *;omega) λw3 h3=>?_;have hB3:=h3.fr.blk hB λhS=>hS (.inr ⟨by omega,hlt⟩);refine bF hB3.boxed cQ aH rfl (oO.2 ?_);rw [aC (by omega) (by omega)];refine pP pQ [(0,i64 32),(1,i64 0),(2,i64 1),(4,i64 (4*f))] rfl rfl ?_;refine (CS (c:=c.hold w.heap.size w1.heap.size) (wb:=w1) ⟨32,0,1,0,4*f,0⟩).run h3 (by simp [jG,aJ.us] at *;omega) λw4 h4=>h.free (a:=w.heap.size) (b:=w1.heap.size) x1 ?_;have e9:l++jG c.of [s]++[tA c.ap]++[.one ⟨32,0,1,0,4*f,0⟩]=l++(jG c.of [s]++[tA c.ap,.one ⟨32,0,1,0,4*f,0⟩]):=by simp
  rw [<- e9];exact h4
 | serve op a b d r=>
  dsimp only [aJ.val] at fin srv ⊢;refine ⟨λ_=>False,?_,λ_ h' _=>h'.elim⟩
  (repeat (first|(with_reducible refine th bM ?_)|((with_reducible refine tm (by first|exact bM|exact fK|exact fY|exact hU|exact gE|exact gO|exact jJ|exact jI|exact lA|exact lE|exact lX|exact nI|exact tG|exact oL) (by decide) ?_);intro _ _ _)))
  exact srv rfl rfl
 | call m d r=>
  dsimp only [aJ.val] at fin srv ⊢;refine ⟨λ_=>False,?_,λ_ h' _=>h'.elim⟩
  (repeat (first|(with_reducible refine th bM ?_)|((with_reducible refine tm (by first|exact bM|exact fK|exact fY|exact hU|exact gE|exact gO|exact jJ|exact jI|exact lA|exact lE|exact lX|exact nI|exact tG|exact oL) (by decide) ?_);intro _ _ _)))
  exact srv rfl rfl
 | callX m d r=>
  dsimp only [aJ.val] at fin srv ⊢;refine ⟨λ_=>False,?_,λ_ h' _=>h'.elim⟩
  (repeat (first|(with_reducible refine th bM ?_)|((with_reducible refine tm (by first|exact bM|exact fK|exact fY|exact hU|exact gE|exact gO|exact jJ|exact jI|exact lA|exact lE|exact lX|exact nI|exact tG|exact oL) (by decide) ?_);intro _ _ _)))
  exact srv rfl rfl
 | ret s=>
  dsimp only [aJ.val] at fin srv ⊢;refine ⟨λ_=>False,?_,λ_ h' _=>h'.elim⟩
  (repeat (first|(with_reducible refine th bM ?_)|((with_reducible refine tm (by first|exact bM|exact fK|exact fY|exact hU|exact gE|exact gO|exact jJ|exact jI|exact lA|exact lE|exact lX|exact nI|exact tG|exact oL) (by decide) ?_);intro _ _ _)))
  exact srv rfl rfl
end Go.Proofs.YtjcmcfidblhnnaaGreatDoor
namespace Go.Vc
theorem aGe {P:Program} {w:World} {K:Value->World->Prop} {t n b off:Nat} {cs l:List Value} (hb:bG w b cs) (ht:∃ d z by_,P.underlying t=some d/\lQ d=true/\dA P t z n by_) (hl:l.length=n) (he:(cs.drop off).take n=l) (hk:K (.agg l.toArray) w) :
  V P (Instr.loadAt t (.pointer (some ⟨b,off,none⟩))) w K:=by
 obtain ⟨d,z,by_,h1,h2,h3⟩:=ht;refine V.ok (mP h1 h2 h3 hl λj hj=>?_) hk;obtain ⟨u,hu⟩:∃ u,l[j]?=some u:=⟨_,List.getElem?_eq_getElem hj⟩;rw [hu]
 have h5:cs[off+j]?=some u:=by
  rw [<- he,List.getElem?_take] at hu;split at hu
  ·rwa [List.getElem?_drop] at hu
  ·cases hu
 have:=hb _ u h5
 rwa [Nat.zero_add] at this
end Go.Vc
namespace Go.Proofs.YtjcmcfidblhnnaaGreatDoor
open Tryz
open Go.Vc
variable {w:World} {K:Value->World->Prop}
variable {p:eY} {R:Nat} {slots:Int}
theorem bJx:BG prog 135 [i64 0,i64 0,aZ,aZ,i64 0,i64 0,aZ,aZ,i64 0] [(0,3),(3,2),(5,1),(6,3)]:=⟨_,_,_,underlying135,bBr,λw=>by kernel_rfl⟩
theorem bBy (a b c d e:Value) (f:Int):Instr.fill (([(0,3),(3,2),(5,1),(6,3)]:List (Nat × Nat)).toArray[·]?) [i64 0,i64 0,aZ,aZ,i64 0,i64 0,aZ,aZ,i64 0].toArray [(0,.agg [a,b,c].toArray),(1,.agg [d,e].toArray),(2,i64 f)]=some [a,b,c,d,e,i64 f,aZ,aZ,i64 0].toArray:=by kernel_rfl
theorem oP.ofB {of:List Int} (h:oP p R of slots):OfB of:=⟨λa ha=>by
 obtain ⟨k,hk⟩:=List.getElem?_of_mem ha;have h1:=h.s1;rcases h.val k a hk with e|e|e<;>omega⟩
theorem oP.ofOk {of:List Int} (h:oP p R of slots):MS of R:=λr h0 h1=>by
 have hl:=h.len;have h2:=h.s1;have hk:of[r.toNat]?=some (of.getD r.toNat 0):=by rw [List.getD_eq_getElem?_getD,List.getElem?_eq_getElem (by omega)];rfl
 rcases h.val _ _ hk with e|e|e<;>omega
theorem pC.regB {n:aJ} {k c:Int} (h:pC n k R c) (ha:n.args.length<=4294967296):aIn n R:=⟨h.u,λhd=>by rcases h.d with h1|h1<;>omega,ha,h.us5⟩
theorem bCa {T:Value->aJ->Prop} {ns ov:Value} {vs0:List Value} {of:List Int} {ap:Int} (hp:pD w (.agg #[i64 p.params,i64 p.regs,ns]) p) (hvs0:aA w ns 1 p.nodes.length vs0) (hvn0:∀ (i:Nat) n,p.nodes[i]?=some n->∃ u,vs0[i]?=some u/\iX w u n/\T u n) (hv:kJ p) (hR:p.regs=R) (ho:aN w ov of) (hg:oP p R of slots) (ha:0<=ap/\ap < 4)
  (hk:∀ iv tv ys w',w'.ownsRow w.heap.size 180 11 iv (mK p of ap).length (itC (mK p of ap))->w'.ownsRow w.heap.size 43 1 tv (hO p).length ys->(∀ (q:Nat) n,(hO p)[q]?=some n->∃ u,ys[q]?=some u/\iX w u n/\T u n)->aF w w'->K (.tuple #[.agg #[iv,tv,i64 (4*slots)],i64 0]) w') :
  aB prog 17 #[.agg #[i64 p.params,i64 p.regs,ns],.agg #[ov,i64 slots],i64 ap] w K:=by
 have hp0:=hp;have hargs:∀ n∈p.nodes,n.args.length<=4294967296:=by obtain ⟨_,_,_,h⟩:=hp;exact h
 have hl1:=hv.l1;have hl2:=hv.l2;have hr1:=hv.r1;have hr2:=hv.r2;have hp1:=hv.p1;have hp2:=hv.p2;have hp3:=hv.p3;have hs0:=hg.s0;have hs1:=hg.s1;have hlen:=hg.len;apply bGc;unfold aAa;refine bxK λw1 hb3 x1=>?_;have hb3:bO w1 w.heap.size [i64 p.params,i64 p.regs,ns] 33:=hb3;refine bxK λw2 hb4 x2=>?_;have hb4:bO w2 w1.heap.size [ov,i64 slots] 72:=hb4;refine AP uA λw3 hb6 x3=>?_;have hb6:bO w3 w2.heap.size [aZ,aZ,i64 0] 68:=hb6;have x02:=x1.trans x2;have x03:=x02.trans x3;refine iO (hb3.ext (x2.trans x3)).boxed qC rfl ?_;refine (uC (hp0.ext x03) hv).mono λr w4 ⟨hr,x4⟩=>?_;subst hr;refine dK.2 ?_;simp only [Bool.not_true,oV];refine iO (hb3.ext ((x2.trans x3).trans x4)).boxed qC rfl ?_;refine iO ((hb4.ext x3).ext x4).boxed aGg rfl ?_;refine (EW (hp0.ext (x03.trans x4)) hv hR (ho.ext (x03.trans x4)) (by omega)).mono λr w5 ⟨⟨ok,hr,hok⟩,x5⟩=>?_;obtain rfl:ok=true:=hok.2 hg;subst hr;refine dK.2 ?_;simp only [Bool.not_true,oV,aW,Bool.false_eq_true,reduceIte];refine aY.2 ?_;simp only [show decide (ap < 0)=false from by simp;omega,oV,aW,Bool.false_eq_true,reduceIte];refine kN.2 ?_;simp only [show decide (ap>=4)=false from by simp;omega,aP];have x35:=x4.trans x5;have x05:=x03.trans x35;have hb3':=hb3.ext ((x2.trans x3).trans x35);have hb4':=(hb4.ext x3).ext x35;have hb6':=hb6.ext x35
 refine iO hb3'.boxed qC rfl ?_;refine iO hb4'.boxed aGg rfl ?_;refine JE bJx (bBy _ _ _ _ _ _) ?_;refine bxK λw6 hB x6=>?_;have hB:bO w6 w5.heap.size [i64 p.params,i64 p.regs,ns,ov,i64 slots,i64 ap,aZ,aZ,i64 0] 135:=hB;refine bF (hb4'.ext x6).boxed mC aH rfl (oO.2 ?_);rw [aC (by omega) (by omega)];refine ⟨.inl ⟨_,rfl⟩,bGz bR pH bY hB (n:=9) rfl (by decide) rfl ?_⟩;have f7:Fr (λk=>k=w5.heap.size) w6 (w6.setCell ⟨w5.heap.size,8,none⟩ (i64 (4*slots))):=Fr.of_set rfl;have hB7:=hB.set 8 (i64 (4*slots));have x57:aF w5 (w6.setCell ⟨w5.heap.size,8,none⟩ (i64 (4*slots))):=f7.ext x6 λi hi=>by omega
 show V _ _ (w6.setCell ⟨w5.heap.size,8,none⟩ (i64 (4*slots))) _;generalize w6.setCell ⟨w5.heap.size,8,none⟩ (i64 (4*slots))=w7 at f7 hB7 x57;have x07:=x05.trans x57;refine bF (hb3'.ext x57).boxed kW aH rfl ?_;have hB7:bO w7 w5.heap.size [i64 p.params,i64 p.regs,ns,ov,i64 slots,i64 ap,aZ,aZ,i64 (4*slots)] 135:=hB7;have h57:=hB7.lt;have toX:∀ {w'},Fr (λk=>¬ k < w5.heap.size) w7 w'->aF w5 w':=λhf=>hf.ext x57 λi hi=>by omega
 have hE:∃ c:Ec,c={ H:=λk=>k < w5.heap.size,B:=w5.heap.size+1,g:=w5.heap.size,pr:=i64 p.params,rg:=i64 p.regs,nv:=ns,ov:=ov,sl:=i64 slots,ap:=ap,fr:=i64 (4*slots),of:=of,N:=p.nodes.length }:=⟨_,rfl⟩;obtain ⟨c,hc⟩:=hE
 have ho7:Eo c w7:=by
  subst hc;exact ⟨⟨Nat.lt_succ_self _,h57⟩,λk hk=>⟨by have hk:k < w5.heap.size:=hk;omega,by have hk:k < w5.heap.size:=hk;show k≠w5.heap.size;omega⟩,λw' hf=>ho.ext (x05.trans (toX hf)),λw' hf=>⟨vs0,hvs0.ext (x05.trans (toX hf))⟩⟩
 have h7:Ew c w7 w7 [] []:=by
  refine ⟨ho7,Fr.refl _ _,aZ,aZ,?_,World.ownsRow_nil _ _ _ _,World.ownsRow_nil _ _ _ _,λk hk=>(by cases hk),λk hk=>(by cases hk)⟩;subst hc;exact hB7
 have hcg:c.g=w5.heap.size:=by rw [hc]
 have hcof:c.of=of:=by rw [hc]
 have hcap:c.ap=ap:=by rw [hc]
 have hcN:c.N=p.nodes.length:=by rw [hc]
 have hcH:∀ {w'},Fr (λk=>¬ c.H k) w7 w'->aF w5 w':=by rw [hc];exact toX
 have hofb:OfB c.of:=by rw [hcof];exact hg.ofB
 rw [<- hcg];refine ⟨λv w'=>∃ j:Nat,v=i64 j/\(j:Int)<=p.params/\Ew c w7 w' ((List.range j).map λ(k:Nat)=>eSt of (k:Int) (k:Int)) [],λv _=>p.params.toNat - (RowKit.intOf v).toNat,⟨0,rfl,by omega,h7⟩,?_⟩;rintro _ w8 ⟨j,rfl,hj,h8⟩ _;refine aY.2 (aD (λhlt=>?_) λhge=>?_)
 ·refine (UM (by omega) (by rw [hcof];omega) hofb.b).run h8 (by simp;omega) λw9 h9=>aU.2 ?_;rw [aC (by omega) (by omega),aR];refine ⟨⟨j+1,rfl,by omega,?_⟩,by simp only [aL];omega⟩;rw [List.range_succ,List.map_append];rw [hcof] at h9;exact h9
 have hjp:((List.range j).map λ(k:Nat)=>eSt of (k:Int) (k:Int))=(fW p of ap 0).1:=by
  have:p.params.toNat=j:=by omega
  simp only [fW,this]
 rw [hjp] at h8;clear hge hjp;have hb38:∀ {w'},Fr (λk=>¬ c.H k) w7 w'->bG w' w.heap.size [i64 p.params,i64 p.regs,ns]:=λhf=>(hb3'.ext (hcH hf)).boxed;refine bF (hb38 h8.fr) eG kD rfl (gD mW (hvs0.ext (x05.trans (hcH h8.fr))) ?_);refine ⟨λv w'=>∃ (j:Nat) (ys:List Value),v=i64 j/\j<=p.nodes.length/\Ew c w7 w' (fW p of ap j).1 ys/\ys.length=(fW p of ap j).2.length/\∀ (q:Nat) n,(fW p of ap j).2[q]?=some n->∃ u,ys[q]?=some u/\iX w u n/\T u n,λv _=>p.nodes.length - (RowKit.intOf v).toNat,⟨0,[],rfl,Nat.zero_le _,h8,rfl,λq n hq=>by simp [fW] at hq⟩,?_⟩;rintro _ w9 ⟨j,ys,rfl,hj,h9,hyl,hyn⟩ _;have hem:=DU (of:=of) (applet:=ap) hv hR rfl hg.ofOk j hj;have hel:=hem.len;have htl:(fW p of ap j).2.length<=j:=by rw [hem.tab];exact Nat.le_trans (List.length_filter_le _ _) (by simp)
 refine aY.2 (aD (λhlt=>?_) λhge=>?_)
 ·have hj':j < p.nodes.length:=by omega
  obtain ⟨hpk,hrk⟩:=hv.at hj';obtain ⟨u,hu,hnu,hTu⟩:=hvn0 j _ hpk;have hna:=hargs _ (List.mem_of_getElem? hpk);refine lV mW CZ (hvs0.ext (x05.trans (hcH h9.fr))) (by omega) (by omega) (by simpa using hu) ?_;refine (VE (j:Int)).run h9 (by simp;omega) λw10 h10=>?_;have hrb:aIn (p.at' j) c.of.length:=by rw [hcof,hlen,<- Int.toNat_natCast R,<- hR];rw [hR] at hrk ⊢;exact hrk.regB hna
  refine bAi (n:=p.at' j) (k:=j) h10 (hnu.ext (x05.trans (hcH h10.fr))) (λw' hf=>hnu.ext (x05.trans (hcH hf))) hrb hofb (by rw [hcap];exact ha) (by rw [hcN];omega) (by omega) (by simp;omega) (by omega) hrk.f λw11 h11=>aU.2 ?_;rw [aC (by omega) (by omega),aR];have e1:(fW p of ap (j+1)).1=(fW p of ap j).1++.place j::oM of p.nodes.length ap (fW p of ap j).2.length (p.at' j) j:=rfl;have e2:(fW p of ap (j+1)).2=if (p.at' j).srvB then (fW p of ap j).2++[p.at' j] else (fW p of ap j).2:=rfl
  rw [hcof,hcN,hcap,hyl,List.append_assoc,List.singleton_append,<- e1] at h11;refine ⟨⟨j+1,_,rfl,by omega,h11,?_,?_⟩,by simp only [aL];omega⟩
  ·rw [e2];split<;>simp [hyl]
  ·rw [e2];intro q n hq;split at hq
   ·rename_i hsr
    rw [if_pos hsr];rw [List.getElem?_append] at hq ⊢;rw [hyl];split at hq
    ·rename_i hql;rw [if_pos hql];exact hyn q n hq
    ·rename_i hql
     rw [if_neg hql]
     have hq0:q - (fW p of ap j).2.length=0:=by
      have:=(List.getElem?_eq_some_iff.1 hq).1;simpa using this
     rw [hq0] at hq ⊢;cases hq;exact ⟨u,rfl,hnu,hTu⟩
   ·rename_i hsr
    rw [if_neg hsr];exact hyn q n hq
 obtain rfl:j=p.nodes.length:=by omega
 have htab:(fW p of ap p.nodes.length).2=hO p:=(xS (applet:=ap) hv hR hg.ofOk).2;obtain ⟨iv,tv,e1,e2⟩:=h9.items;obtain ⟨_,f9,iv',tv',b1,b2,b3,b4,b5⟩:=h9;have ei:=b1.cell 6;rw [e1] at ei;cases ei;have et:=b1.cell 7;rw [e2.cell 7] at et;cases et;refine ⟨.inl ⟨_,rfl⟩,DT bR (aGe (l:=[iv,tv,c.fr]) e2.boxed bIb rfl rfl ?_)⟩;have x59:=hcH f9;have hfr:c.fr=i64 (4*slots):=by rw [hc]
 rw [hfr];have hb69:=hb6'.ext x59;refine zS uA hb69 (l:=[iv,tv,i64 (4*slots)]) rfl rfl rfl (by show (cO iv&&(cO tv&&(cO (i64 (4*slots))&&true)))=true;rw [nX b2,nX b3];rfl) λwE hBE hcE=>?_;refine ⟨_,pZ underlying68 rfl uA hBE rfl,⟨_,rfl⟩,?_⟩;have fE:Fr (λk=>k=w2.heap.size) w9 wE:=Fr.of_grown hcE.grown λk hk=>by cases hk;rfl
 have s25:=x3.size;have hlt25:w2.heap.size < w5.heap.size:=hb6'.lt;have hcB:c.B=w5.heap.size+1:=by rw [hc]
 have kp:∀ {e s:Nat} {v:Value} {n:Nat} {zs:List Value},w9.ownsRow c.B e s v n zs->wE.ownsRow c.B e s v n zs:=λho=>fE.own ho λk hk hS=>by have:=(ho.lt k hk).1;omega
 have xE:aF w wE:=hcE.ext _ (x05.trans x59) (by have:=x02.size;omega);have s03:=x02.size;exact hk iv tv ys wE (aX (kp b2) (by omega)) (by rw [<- htab,<- hyl];exact aX (kp b3) (by omega)) (by rw [<- htab];exact hyn) xE
end Go.Proofs.YtjcmcfidblhnnaaGreatDoor
namespace Go.Proofs.YtjcmcfidblhnnaaGreatDoor
open Tryz
open Go.Vc
structure jL where
 part:Int
 shift:Int
 bits:Int
 least:Int
 most:Int
 step:Int
def jL.cells (s:jL):List Value:=[i64 s.part,i64 s.shift,i64 s.bits,i64 s.least,i64 s.most,i64 s.step]
def aT (part shift:Int):jL:=⟨part,shift,3,0,7,1⟩
def bI (shift bits least most step:Int):jL:=⟨3,shift,bits,least,most,step⟩
def gZ.part (i:gZ) (k:Int):Int:=if k=0 then i.d else if k=1 then i.n else if k=2 then i.m else if k=3 then i.imm else i.cond
def lY (op:Int):Option (Int × List jL):=
 if op=36 then some (0x9000,[aT 0 8,bI 0 8 0 1020 4]) else if op=35 then some (0x9800,[aT 0 8,bI 0 8 0 1020 4])
 else if op=37 then some (0xb000,[bI 0 7 0 508 4]) else if op=38 then some (0xb080,[bI 0 7 0 508 4])
 else if op=39 then some (0xb400,[bI 0 9 1 511 1]) else if op=40 then some (0xbc00,[bI 0 9 1 511 1])
 else if op=41 then some (0xd000,[bI 0 8 (-256) 254 2,⟨4,8,4,0,13,1⟩]) else if op=42 then some (0xe000,[bI 0 11 (-2048) 2046 2])
 else if op=44 then some (0xdf00,[bI 0 8 0 255 1]) else if op=45 then some (0xbf00,[]) else none
def cZ (op:Int):Option (Int × List jL):=
 if 12<=op/\op<=27 then some (0x4000+(op - 12)*64,[aT 0 0,aT 2 3])
 else if 8<=op/\op<=11 then some (0x2000+(op - 8)*2048,[aT 0 8,bI 0 8 0 255 1])
 else if op=1 then some (0,[aT 0 0,aT 2 3,bI 6 5 0 31 1]) else if op=2 then some (0x800,[aT 0 0,aT 2 3,bI 6 5 1 32 1]) else if op=3 then some (0x1000,[aT 0 0,aT 2 3,bI 6 5 1 32 1])
 else if op=4 then some (0x1800,[aT 0 0,aT 1 3,aT 2 6]) else if op=5 then some (0x1a00,[aT 0 0,aT 1 3,aT 2 6])
 else if op=6 then some (0x1c00,[aT 0 0,aT 1 3,bI 6 3 0 7 1]) else if op=7 then some (0x1e00,[aT 0 0,aT 1 3,bI 6 3 0 7 1])
 else if op=30 then some (0x5000,[aT 0 0,aT 1 3,aT 2 6]) else if op=29 then some (0x5800,[aT 0 0,aT 1 3,aT 2 6])
 else if op=32 then some (0x6000,[aT 0 0,aT 1 3,bI 6 5 0 124 4]) else if op=31 then some (0x6800,[aT 0 0,aT 1 3,bI 6 5 0 124 4])
 else if op=34 then some (0x7000,[aT 0 0,aT 1 3,bI 6 5 0 31 1]) else if op=33 then some (0x7800,[aT 0 0,aT 1 3,bI 6 5 0 31 1])
 else lY op
def jK (sl:List jL) (i:gZ) (k:Int):Bool:=
 match sl.find? λs=>decide (s.part=k) with
 | some s=>decide (s.least<=i.part k)&&decide (i.part k<=s.most)&&decide ((i.part k).tmod s.step=0)
 | none=>decide (i.part k=0)
def cN (i:gZ):Bool:=
 if i.op=28 then decide (i.n=0/\i.imm=0/\i.cond=0)&&decide (0<=i.d)&&decide (i.d < 15)&&decide (i.d≠13)&&decide (0<=i.m)&&decide (i.m < 15)
 else if i.op=43 then decide (i.d=0/\i.n=0/\i.m=0/\i.cond=0)&&decide (-16777216<=i.imm)&&decide (i.imm<=16777214)&&decide (i.imm.tmod 2=0)
 else match cZ i.op with
  | some r=>jK r.2 i 0&&jK r.2 i 1&&jK r.2 i 2&&jK r.2 i 3&&jK r.2 i 4
  | none=>false
theorem UL {a b:Int} (h0:0<=a) (h:a % b=0):a.tmod b=0:=by rw [Int.tmod_eq_emod_of_nonneg h0];exact h
theorem dV {sl:List jL} {i:gZ} {k:Int} {s:jL} (h:sl.find? (λs=>decide (s.part=k))=some s) (h1:s.least<=i.part k) (h2:i.part k<=s.most) (h3:(i.part k).tmod s.step=0):jK sl i k=true:=by
 unfold jK;rw [h];simp [h1,h2,h3]
theorem bX {sl:List jL} {i:gZ} {k:Int} (h:sl.find? (λs=>decide (s.part=k))=none) (h1:i.part k=0):jK sl i k=true:=by
 unfold jK;rw [h];simp [h1]
theorem zA {i:gZ} (h:i.okT):cN i=true:=by
 obtain ⟨op,d,n,m,imm,cond⟩:=i;have m1:∀ a:Int,a.tmod 1=0:=λa=>Int.tmod_one a;rcases h with ⟨h1,⟨h2,h3,h4⟩,⟨h5,h6⟩,h7,h8,h9⟩|⟨h1,⟨h2,h3⟩,h4,h5,⟨h6,h7,h8⟩,h9⟩|⟨⟨h1,h1'⟩,⟨h2,h3⟩,h4,h5,⟨h6,h7⟩,h9⟩|⟨⟨h1,h1'⟩,⟨h2,h3⟩,h4,⟨h5,h6⟩,h8,h9⟩|⟨h1,⟨h2,h3⟩,⟨h4,h5⟩,⟨h6,h7⟩,h8,h9⟩|⟨h1,⟨h2,h3⟩,⟨h4,h5⟩,h6,⟨h7,h8,h10⟩,h9⟩|⟨h1,h2,h3,h4,⟨h6,h7⟩,h9⟩<;>dsimp only at *
 ·subst h1 h7 h8 h9;simp [cN];omega
 ·have fin:∀ b sl,cZ op=some (b,sl)->sl=[aT 0 8,bI 0 8 0 1020 4]->¬ op=28->¬ op=43->cN ⟨op,d,n,m,imm,cond⟩=true:=λb sl hf hs c1 c2=>by
   subst hs h4 h5 h9;unfold cN;rw [if_neg c1,if_neg c2,hf];have a0:=dV (sl:=[aT 0 8,bI 0 8 0 1020 4]) (i:=⟨op,d,0,0,imm,0⟩) (k:=0) (s:=aT 0 8) rfl h2 h3 (m1 _);have a1:=bX (sl:=[aT 0 8,bI 0 8 0 1020 4]) (i:=⟨op,d,0,0,imm,0⟩) (k:=1) rfl rfl;have a2:=bX (sl:=[aT 0 8,bI 0 8 0 1020 4]) (i:=⟨op,d,0,0,imm,0⟩) (k:=2) rfl rfl;have a3:=dV (sl:=[aT 0 8,bI 0 8 0 1020 4]) (i:=⟨op,d,0,0,imm,0⟩) (k:=3) (s:=bI 0 8 0 1020 4) rfl h6 h7 (UL h6 h8);have a4:=bX (sl:=[aT 0 8,bI 0 8 0 1020 4]) (i:=⟨op,d,0,0,imm,0⟩) (k:=4) rfl rfl;dsimp only;rw [a0,a1,a2,a3,a4];rfl
  rcases h1 with rfl|rfl
  iterate 2
   ·exact fin _ _ rfl rfl (by decide) (by decide)
 ·subst h4 h5 h9;have hf:cZ op=some (0x2000+(op - 8)*2048,[aT 0 8,bI 0 8 0 255 1]):=by unfold cZ;rw [if_neg (by omega),if_pos ⟨h1,h1'⟩]
  unfold cN;rw [if_neg (by dsimp only;omega),if_neg (by dsimp only;omega)];dsimp only;rw [hf];have a0:=dV (sl:=[aT 0 8,bI 0 8 0 255 1]) (i:=⟨op,d,0,0,imm,0⟩) (k:=0) (s:=aT 0 8) rfl h2 h3 (m1 _);have a1:=bX (sl:=[aT 0 8,bI 0 8 0 255 1]) (i:=⟨op,d,0,0,imm,0⟩) (k:=1) rfl rfl;have a2:=bX (sl:=[aT 0 8,bI 0 8 0 255 1]) (i:=⟨op,d,0,0,imm,0⟩) (k:=2) rfl rfl;have a3:=dV (sl:=[aT 0 8,bI 0 8 0 255 1]) (i:=⟨op,d,0,0,imm,0⟩) (k:=3) (s:=bI 0 8 0 255 1) rfl h6 h7 (m1 _);have a4:=bX (sl:=[aT 0 8,bI 0 8 0 255 1]) (i:=⟨op,d,0,0,imm,0⟩) (k:=4) rfl rfl;dsimp only;rw [a0,a1,a2,a3,a4];rfl
 ·subst h4 h8 h9;have hf:cZ op=some (0x4000+(op - 12)*64,[aT 0 0,aT 2 3]):=by unfold cZ;rw [if_pos ⟨h1,h1'⟩]
  unfold cN;rw [if_neg (by dsimp only;omega),if_neg (by dsimp only;omega)];dsimp only;rw [hf];have a0:=dV (sl:=[aT 0 0,aT 2 3]) (i:=⟨op,d,0,m,0,0⟩) (k:=0) (s:=aT 0 0) rfl h2 h3 (m1 _);have a1:=bX (sl:=[aT 0 0,aT 2 3]) (i:=⟨op,d,0,m,0,0⟩) (k:=1) rfl rfl;have a2:=dV (sl:=[aT 0 0,aT 2 3]) (i:=⟨op,d,0,m,0,0⟩) (k:=2) (s:=aT 2 3) rfl h5 h6 (m1 _);have a3:=bX (sl:=[aT 0 0,aT 2 3]) (i:=⟨op,d,0,m,0,0⟩) (k:=3) rfl rfl;have a4:=bX (sl:=[aT 0 0,aT 2 3]) (i:=⟨op,d,0,m,0,0⟩) (k:=4) rfl rfl;dsimp only;rw [a0,a1,a2,a3,a4];rfl
 ·have fin:∀ b sl,cZ op=some (b,sl)->sl=[aT 0 0,aT 1 3,aT 2 6]->¬ op=28->¬ op=43->cN ⟨op,d,n,m,imm,cond⟩=true:=λb sl hf hs c1 c2=>by
   subst hs h8 h9;unfold cN;rw [if_neg c1,if_neg c2,hf];have a0:=dV (sl:=[aT 0 0,aT 1 3,aT 2 6]) (i:=⟨op,d,n,m,0,0⟩) (k:=0) (s:=aT 0 0) rfl h2 h3 (m1 _);have a1:=dV (sl:=[aT 0 0,aT 1 3,aT 2 6]) (i:=⟨op,d,n,m,0,0⟩) (k:=1) (s:=aT 1 3) rfl h4 h5 (m1 _);have a2:=dV (sl:=[aT 0 0,aT 1 3,aT 2 6]) (i:=⟨op,d,n,m,0,0⟩) (k:=2) (s:=aT 2 6) rfl h6 h7 (m1 _);have a3:=bX (sl:=[aT 0 0,aT 1 3,aT 2 6]) (i:=⟨op,d,n,m,0,0⟩) (k:=3) rfl rfl;have a4:=bX (sl:=[aT 0 0,aT 1 3,aT 2 6]) (i:=⟨op,d,n,m,0,0⟩) (k:=4) rfl rfl;dsimp only;rw [a0,a1,a2,a3,a4];rfl
  rcases h1 with rfl|rfl
  iterate 2
   ·exact fin _ _ rfl rfl (by decide) (by decide)
 ·have fin:∀ b sl,cZ op=some (b,sl)->sl=[aT 0 0,aT 1 3,bI 6 5 0 124 4]->¬ op=28->¬ op=43->cN ⟨op,d,n,m,imm,cond⟩=true:=λb sl hf hs c1 c2=>by
   subst hs h6 h9;unfold cN;rw [if_neg c1,if_neg c2,hf];have a0:=dV (sl:=[aT 0 0,aT 1 3,bI 6 5 0 124 4]) (i:=⟨op,d,n,0,imm,0⟩) (k:=0) (s:=aT 0 0) rfl h2 h3 (m1 _);have a1:=dV (sl:=[aT 0 0,aT 1 3,bI 6 5 0 124 4]) (i:=⟨op,d,n,0,imm,0⟩) (k:=1) (s:=aT 1 3) rfl h4 h5 (m1 _);have a2:=bX (sl:=[aT 0 0,aT 1 3,bI 6 5 0 124 4]) (i:=⟨op,d,n,0,imm,0⟩) (k:=2) rfl rfl;have a3:=dV (sl:=[aT 0 0,aT 1 3,bI 6 5 0 124 4]) (i:=⟨op,d,n,0,imm,0⟩) (k:=3) (s:=bI 6 5 0 124 4) rfl h7 h8 (UL h7 h10);have a4:=bX (sl:=[aT 0 0,aT 1 3,bI 6 5 0 124 4]) (i:=⟨op,d,n,0,imm,0⟩) (k:=4) rfl rfl;dsimp only;rw [a0,a1,a2,a3,a4];rfl
  rcases h1 with rfl|rfl
  iterate 2
   ·exact fin _ _ rfl rfl (by decide) (by decide)
 ·subst h1 h2 h3 h4 h9;have hf:cZ 44=some (0xdf00,[bI 0 8 0 255 1]):=rfl;unfold cN;rw [if_neg (by dsimp only;decide),if_neg (by dsimp only;decide)];dsimp only;rw [hf];have a0:=bX (sl:=[bI 0 8 0 255 1]) (i:=⟨44,0,0,0,imm,0⟩) (k:=0) rfl rfl;have a1:=bX (sl:=[bI 0 8 0 255 1]) (i:=⟨44,0,0,0,imm,0⟩) (k:=1) rfl rfl;have a2:=bX (sl:=[bI 0 8 0 255 1]) (i:=⟨44,0,0,0,imm,0⟩) (k:=2) rfl rfl;have a3:=dV (sl:=[bI 0 8 0 255 1]) (i:=⟨44,0,0,0,imm,0⟩) (k:=3) (s:=bI 0 8 0 255 1) rfl h6 h7 (m1 _);have a4:=bX (sl:=[bI 0 8 0 255 1]) (i:=⟨44,0,0,0,imm,0⟩) (k:=4) rfl rfl;dsimp only;rw [a0,a1,a2,a3,a4];rfl
end Go.Proofs.YtjcmcfidblhnnaaGreatDoor
namespace Go.Vc
section
variable {P:Program} {w:World} {K:Value->World->Prop} {k:IntKind} {t:TypeId} {a b:Int}
theorem CN:(binOp .and t (.int k a) (.int k b)).run P w=.ok (.int k (k.wrap (BitVec.ofInt k.bits a &&& BitVec.ofInt k.bits b).toNat)) w:=by simp [binOp,Op.intBits]
theorem bHk:(binOp .or t (.int k a) (.int k b)).run P w=.ok (.int k (k.wrap (BitVec.ofInt k.bits a ||| BitVec.ofInt k.bits b).toNat)) w:=by simp [binOp,Op.intBits]
theorem aYi:(binOp .xor t (.int k a) (.int k b)).run P w=.ok (.int k (k.wrap (BitVec.ofInt k.bits a ^^^ BitVec.ofInt k.bits b).toNat)) w:=by simp [binOp,Op.intBits]
theorem KN:(binOp .andNot t (.int k a) (.int k b)).run P w=.ok (.int k (k.wrap (BitVec.ofInt k.bits a &&& ~~~ BitVec.ofInt k.bits b).toNat)) w:=by simp [binOp,Op.intBits]
theorem KJ {k':IntKind} (h:0<=b):(binOp .shl t (.int k a) (.int k' b)).run P w=.ok (.int k (k.wrap (a*2 ^ (min b.toNat k.bits)))) w:=by
 have:¬ b < 0:=by omega
 simp [binOp,Op.shift,this]
theorem uX {k':IntKind} (h:0<=b):(binOp .shr t (.int k a) (.int k' b)).run P w=.ok (.int k (a.fdiv (2 ^ (min b.toNat k.bits)))) w:=by
 have:¬ b < 0:=by omega
 simp [binOp,Op.shift,this]
end
end Go.Vc
namespace Go.Proofs.YtjcmcfidblhnnaaGreatDoor
open Tryz
open Go.Vc
variable {w:World} {K:Value->World->Prop}
variable {n:Nat} {R:Value->World->Prop} {parts:Array (Nat × Value)} {a base op:Int} {w' w0:World}
abbrev u16 (b:Int):Value:=.int .u16 b
theorem uW {n:Int} (h0:0<=n) (h1:n < 65536):IntKind.u16.wrap n=n:=by
 have e:n % (2 ^ 16:Int)=n:=by omega
 unfold IntKind.wrap;simp only [show IntKind.u16.bits=16 from rfl,show IntKind.u16.signed=false from rfl,e,Bool.false_and,Bool.false_eq_true,if_false]
def jL.v (s:jL):Value:=.agg #[i64 s.part,i64 s.shift,i64 s.bits,i64 s.least,i64 s.most,i64 s.step]
def slC (l:List jL):List Value:=l.flatMap jL.cells
def bIr (w:World) (v:Value) (l:List jL):Prop:=aA w v 6 l.length (slC l)
def MT (B:Nat) (w:World) (op:Int):Option (Int × List jL)->Value->Prop
 | some (b,sl),v=>∃ sv,v=.tuple #[.agg #[i64 op,u16 b,sv],.bool true]/\w.ownsRow B 210 6 sv sl.length (slC sl)
 | none,v=>v=.tuple #[.agg #[i64 0,u16 0,aZ],.bool false]
theorem aYa {s:jL} (hp:parts=#[(0,i64 s.part),(1,i64 s.shift),(2,i64 s.bits),(3,i64 s.least),(4,i64 s.most),(5,i64 s.step)]) (hk:∀ w',aF w w'->R s.v w') :
  V prog (Instr.alloc 210 true (.tuple #[])) w λp w1=>V prog (Instr.build 210 parts) w1 λv w2=>U prog (Instr.storeAt 210 p v) w2 λ_ w3=>
   ∃ r1,(loadVar 210 (match p with|.pointer (some p)=>p|_=>⟨0,0,none⟩)).run prog w3=.ok r1 w3/\(∃ q,p=Value.pointer (some q))/\R r1 w3:=by
 subst hp;refine AP nC λw1 hB x1=>?_;have hB:bO w1 w.heap.size [i64 0,i64 0,i64 0,i64 0,i64 0,i64 0] 210:=hB;refine pP aHw [(0,i64 s.part),(1,i64 s.shift),(2,i64 s.bits),(3,i64 s.least),(4,i64 s.most),(5,i64 s.step)] rfl rfl ?_;refine zS nC hB (l:=s.cells) rfl rfl rfl rfl λw2 hB2 hc=>?_;exact ⟨_,pZ underlying210 rfl nC hB2 rfl,⟨_,rfl⟩,hk w2 (hc.ext _ x1 (Nat.le_refl _))⟩
theorem FP {p s:Int} (hk:∀ w',aF w w'->K (aT p s).v w'):aB prog 99 #[i64 p,i64 s] w K:=by
 apply bDl;unfold XP;exact aYa (s:=aT p s) rfl hk
theorem vB {s b l m t:Int} (hk:∀ w',aF w w'->K (bI s b l m t).v w'):aB prog 100 #[i64 s,i64 b,i64 l,i64 m,i64 t] w K:=by
 apply aXv;unfold RD;exact aYa (s:=bI s b l m t) rfl hk
theorem JZ {sl:List jL} (hn:n=sl.length) (hp:parts.toList=((sl.map jL.v).zipIdx 0).map λx=>(x.2,x.1)) (h0:0 < n) (hl:n<=100) (hk:∀ u w1,w1.ownsRow w.heap.size 210 6 u sl.length (slC sl)->aF w w1->K u w1):V prog (Instr.buildSlice 155 n parts) w K:=by
 refine zI underlying155 nC rfl (by decide) (sl.map jL.v) (by simpa using hn) hp (λv hv=>?_) h0 (by omega) λu w1 ho x1=>hk u w1 ?_ x1
 ·obtain ⟨s,_,rfl⟩:=List.mem_map.1 hv;rfl
 ·have e:(sl.map jL.v).flatMap (λv=>v.cells.toList)=slC sl:=by
   unfold slC;rw [List.flatMap_map];rfl
  rw [e,hn] at ho;exact ho
theorem aFh {b:Int} {u:Value} (h:cO u=true):([i64 a,u16 b,u].all cO)=true:=by show (true&&(true&&(cO u&&true)))=true;rw [h];rfl
theorem bl3 {b:Int} {u:Value} (h:cO u=true):([(0,i64 a),(1,u16 b),(2,u)].all λx:Nat × Value=>decide (x.1 < 3)&&cO x.2)=true:=by show ((true&&true)&&((true&&true)&&((true&&cO u)&&true)))=true;rw [h];rfl
theorem aEe {sl:List jL} {g:Nat} {u:Value} {B:Nat} (hB:bO w g [i64 0,u16 0,aZ] 157) (hx:aF w0 w) (hg:w0.heap.size<=g) (hu:w.ownsRow B 210 6 u sl.length (slC sl)) (hgB:g < B)
  (hk:∀ v w',UA w g w'->MT w0.heap.size w' op (some (base,sl)) v->aF w0 w'->R v w') :
  U prog (Instr.storeAt 157 (.pointer (some ⟨g,0,none⟩)) (.agg #[i64 op,u16 base,u])) w λ_ w3=>
   ∃ r1,(loadVar 157 ⟨g,0,none⟩).run prog w3=.ok r1 w3/\(∃ q,Value.pointer (some ⟨g,0,none⟩)=Value.pointer (some q))/\R (.tuple #[r1,.bool true]) w3:=by
 refine zS nJ hB (l:=[i64 op,u16 base,u]) rfl rfl rfl (aFh (nX hu)) λw2 hB2 hc=>?_;exact ⟨_,pZ underlying157 rfl nJ hB2 rfl,⟨_,rfl⟩,hk _ w2 hc ⟨u,rfl,aX (hc.ownRow hu hgB) (by omega)⟩ (hc.ext _ hx hg)⟩
theorem pU {sl:List jL} {g:Nat} (hB:bO w g [i64 0,u16 0,aZ] 157) (hx:aF w0 w) (hg:w0.heap.size<=g) (hn:n=sl.length) (hp:parts.toList=((sl.map jL.v).zipIdx 0).map λx=>(x.2,x.1)) (h0:0 < n) (hl:n<=100)
  (hk:∀ v w',MT w0.heap.size w' op (some (base,sl)) v->aF w0 w'->R v w') :
  V prog (Instr.buildSlice 155 n parts) w λu w1=>V prog (Instr.build 157 #[(0,i64 op),(1,u16 base),(2,u)]) w1 λv w2=>U prog (Instr.storeAt 157 (.pointer (some ⟨g,0,none⟩)) v) w2 λ_ w3=>
   ∃ r1,(loadVar 157 ⟨g,0,none⟩).run prog w3=.ok r1 w3/\(∃ q,Value.pointer (some ⟨g,0,none⟩)=Value.pointer (some q))/\R (.tuple #[r1,.bool true]) w3:=by
 refine JZ hn hp h0 hl λu w1 ho x1=>?_;refine pP JG [(0,i64 op),(1,u16 base),(2,u)] rfl (bl3 (nX ho)) ?_;exact aEe (hB.ext x1) (hx.trans x1) hg ho hB.lt λv w' _=>hk v w'
theorem nG {sl:List jL} {g:Nat} {S:World->Prop} (hB:bO w g [i64 0,u16 0,aZ] 157) (hx:aF w0 w) (hg:w0.heap.size<=g) (hn:n=sl.length) (hp:parts.toList=((sl.map jL.v).zipIdx 0).map λx=>(x.2,x.1)) (h0:0 < n) (hl:n<=100)
  (h1:∀ w',aF w w'->S w') (h2:∀ w1 w',aF w w1->UA w1 g w'->S w') (hk:∀ v w',MT w0.heap.size w' op (some (base,sl)) v->aF w0 w'->R v w') :
  V prog (Instr.buildSlice 155 n parts) w λu w1=>S w1/\aE prog S (Instr.build 157 #[(0,i64 op),(1,u16 base),(2,u)]) λv=>U prog (Instr.storeAt 157 (.pointer (some ⟨g,0,none⟩)) v) w1 λ_ w3=>
   S w3/\∃ r1,(loadVar 157 ⟨g,0,none⟩).run prog w3=.ok r1 w3/\(∃ q,Value.pointer (some ⟨g,0,none⟩)=Value.pointer (some q))/\R (.tuple #[r1,.bool true]) w3:=by
 refine JZ hn hp h0 hl λu w1 ho x1=>⟨h1 w1 x1,?_⟩;refine mY JG [(0,i64 op),(1,u16 base),(2,u)] rfl (bl3 (nX ho)) ?_;refine zS nJ (hB.ext x1) (l:=[i64 op,u16 base,u]) rfl rfl rfl (aFh (nX ho)) λw2 hB2 hc=>⟨h2 w1 w2 x1 hc,?_⟩;exact ⟨_,pZ underlying157 rfl nJ hB2 rfl,⟨_,rfl⟩,hk _ w2 ⟨u,rfl,aX (hc.ownRow ho hB.lt) (by have:=hB.lt;omega)⟩ (hc.ext _ (hx.trans x1) hg)⟩
theorem aEp {lo hi:Int} {A B:World->Prop} (h1:lo<=a/\a<=hi->A w) (h2:¬ (lo<=a/\a<=hi)->B w):V prog (binOp .geq 3 (i64 a) (i64 lo)) w λt w1=>gd t true (λK=>K (i64 a) w1) w1 λt2 w2=>gd t true (λK=>V prog (binOp .leq 3 t2 (i64 hi)) w2 K) w2 λt3 w3=>aG t t3 (.bool false) λt4=>aI t4 (A w3) (B w3):=by
 refine kN.2 ?_;by_cases hl:a>=lo
 ·simp only [hl,decide_true,lU];refine tK.2 (jW ?_);rw [if_pos rfl];exact aD (λh=>h1 ⟨hl,h⟩) λh=>h2 λh'=>h h'.2
 ·simp only [hl,decide_false,lI,aW,Bool.false_eq_true,reduceIte,aP];exact h2 λh=>hl h.1
structure JR (b4 b5 b6 b7 b8:Nat) (w:World):Prop where
 a4:bG w b4 (aT 0 0).cells
 a5:bG w b5 (aT 2 3).cells
 a6:bG w b6 (aT 0 8).cells
 a7:bG w b7 (aT 1 3).cells
 a8:bG w b8 (aT 2 6).cells
theorem JR.ext {b4 b5 b6 b7 b8:Nat} {w':World} (h:JR b4 b5 b6 b7 b8 w) (hx:aF w w'):JR b4 b5 b6 b7 b8 w':=⟨h.a4.ext hx,h.a5.ext hx,h.a6.ext hx,h.a7.ext hx,h.a8.ext hx⟩
theorem oY {b g:Nat} {cs:List Value} (h:bG w b cs) (hc:UA w g w') (hne:b≠g):bG w' b cs:=λj u hj=>by rw [hc.cell hne];exact h j u hj
theorem JR.chg {b4 b5 b6 b7 b8 g:Nat} (h:JR b4 b5 b6 b7 b8 w) (hc:UA w g w') (hg:g < b4/\g < b5/\g < b6/\g < b7/\g < b8):JR b4 b5 b6 b7 b8 w':=⟨oY h.a4 hc (by omega),oY h.a5 hc (by omega),oY h.a6 hc (by omega),oY h.a7 hc (by omega),oY h.a8 hc (by omega)⟩
theorem aPf (hk:∀ v w',MT w.heap.size w' op (lY op) v->aF w w'->K v w'):aB prog 101 #[i64 op] w K:=by
 apply aXu;unfold RB;refine AP nJ λw1 hB x1=>?_;have hB:bO w1 w.heap.size [i64 0,u16 0,aZ] 157:=hB;have hlt:=hB.lt;refine FP λw2 x2=>?_;refine sI HV rfl rfl λw3 hB4 x3=>?_;have hB4:bO w3 w2.heap.size (aT 0 8).cells 210:=hB4;have x03:=(x1.trans x2).trans x3;have hB:=(hB.ext x2).ext x3;refine aK.2 (aD (λe=>?_) λe36=>?_)
 ·subst e;have hf:lY 36=some (36864,[aT 0 8,bI 0 8 0 1020 4]):=rfl;rw [hf] at hk;have D:aF w3 w3.drew:=(aF.refl _).drew;refine aM.mk' (λw'=>bG w' w2.heap.size (aT 0 8).cells) (hB4.ext D).boxed ?_;refine yA (λ_ h=>h) fA rfl ?_;refine vB λw4 x4=>⟨(hB4.ext (D.trans x4)).boxed,?_⟩;exact nG (hB.ext (D.trans x4)) (x03.trans (D.trans x4)) (Nat.le_refl _) (sl:=[aT 0 8,bI 0 8 0 1020 4]) rfl rfl (by decide) (by decide) (λw' hx=>(hB4.ext ((D.trans x4).trans hx)).boxed) (λw5 w6 hx hc=>oY (hB4.ext ((D.trans x4).trans hx)).boxed hc (by have:=x2.size;omega)) hk
 refine aK.2 (aD (λe=>?_) λe35=>?_)
 ·subst e;have hf:lY 35=some (38912,[aT 0 8,bI 0 8 0 1020 4]):=rfl;rw [hf] at hk;have D:aF w3 w3.drew:=(aF.refl _).drew;refine aM.mk' (λw'=>bG w' w2.heap.size (aT 0 8).cells) (hB4.ext D).boxed ?_;refine yA (λ_ h=>h) fA rfl ?_;refine vB λw4 x4=>⟨(hB4.ext (D.trans x4)).boxed,?_⟩;exact nG (hB.ext (D.trans x4)) (x03.trans (D.trans x4)) (Nat.le_refl _) (sl:=[aT 0 8,bI 0 8 0 1020 4]) rfl rfl (by decide) (by decide) (λw' hx=>(hB4.ext ((D.trans x4).trans hx)).boxed) (λw5 w6 hx hc=>oY (hB4.ext ((D.trans x4).trans hx)).boxed hc (by have:=x2.size;omega)) hk
 refine aK.2 (aD (λe=>?_) λe37=>?_)
 ·subst e;have hf:lY 37=some (45056,[bI 0 7 0 508 4]):=rfl;rw [hf] at hk;refine vB λw4 x4=>?_;exact pU (hB.ext x4) (x03.trans x4) (Nat.le_refl _) (sl:=[bI 0 7 0 508 4]) rfl rfl (by decide) (by decide) hk
 refine aK.2 (aD (λe=>?_) λe38=>?_)
 ·subst e;have hf:lY 38=some (45184,[bI 0 7 0 508 4]):=rfl;rw [hf] at hk;refine vB λw4 x4=>?_;exact pU (hB.ext x4) (x03.trans x4) (Nat.le_refl _) (sl:=[bI 0 7 0 508 4]) rfl rfl (by decide) (by decide) hk
 refine aK.2 (aD (λe=>?_) λe39=>?_)
 ·subst e;have hf:lY 39=some (46080,[bI 0 9 1 511 1]):=rfl;rw [hf] at hk;refine vB λw4 x4=>?_;exact pU (hB.ext x4) (x03.trans x4) (Nat.le_refl _) (sl:=[bI 0 9 1 511 1]) rfl rfl (by decide) (by decide) hk
 refine aK.2 (aD (λe=>?_) λe40=>?_)
 ·subst e;have hf:lY 40=some (48128,[bI 0 9 1 511 1]):=rfl;rw [hf] at hk;refine vB λw4 x4=>?_;exact pU (hB.ext x4) (x03.trans x4) (Nat.le_refl _) (sl:=[bI 0 9 1 511 1]) rfl rfl (by decide) (by decide) hk
 refine aK.2 (aD (λe=>?_) λe41=>?_)
 ·subst e;have hf:lY 41=some (53248,[bI 0 8 (-256) 254 2,⟨4,8,4,0,13,1⟩]):=rfl;rw [hf] at hk;refine vB λw4 x4=>?_;refine pP aHw [(0,i64 4),(1,i64 8),(2,i64 4),(3,i64 0),(4,i64 13),(5,i64 1)] rfl rfl ?_;exact pU (hB.ext x4) (x03.trans x4) (Nat.le_refl _) (sl:=[bI 0 8 (-256) 254 2,⟨4,8,4,0,13,1⟩]) rfl rfl (by decide) (by decide) hk
 refine aK.2 (aD (λe=>?_) λe42=>?_)
 ·subst e;have hf:lY 42=some (57344,[bI 0 11 (-2048) 2046 2]):=rfl;rw [hf] at hk;refine vB λw4 x4=>?_;exact pU (hB.ext x4) (x03.trans x4) (Nat.le_refl _) (sl:=[bI 0 11 (-2048) 2046 2]) rfl rfl (by decide) (by decide) hk
 refine aK.2 (aD (λe=>?_) λe44=>?_)
 ·subst e;have hf:lY 44=some (57088,[bI 0 8 0 255 1]):=rfl;rw [hf] at hk;refine vB λw4 x4=>?_;exact pU (hB.ext x4) (x03.trans x4) (Nat.le_refl _) (sl:=[bI 0 8 0 255 1]) rfl rfl (by decide) (by decide) hk
 refine aK.2 (aD (λe=>?_) λe45=>?_)
 ·subst e;have hf:lY 45=some (48896,[]):=rfl;rw [hf] at hk;refine pP JG [(0,i64 45),(1,u16 48896),(2,aZ)] rfl rfl ?_;exact aEe hB x03 (Nat.le_refl _) (sl:=[]) (World.ownsRow_nil _ (w.heap.size+1) _ _) (Nat.lt_succ_self _) λv w' _=>hk v w'
 have hf:lY op=none:=by unfold lY;simp only [e36,e35,e37,e38,e39,e40,e41,e42,e44,e45,if_false]
 rw [hf] at hk;refine pP JG [] rfl rfl ?_;refine zS nJ hB (l:=[i64 0,u16 0,aZ]) rfl rfl rfl rfl λw4 hB2 hc=>?_;exact ⟨_,pZ underlying157 rfl nJ hB2 rfl,⟨_,rfl⟩,hk _ w4 rfl (hc.ext _ x03 (Nat.le_refl _))⟩
theorem aHg (hk:∀ v w',MT w.heap.size w' op (cZ op) v->aF w w'->K v w'):aB prog 48 #[i64 op] w K:=by
 apply bFe;unfold ZE;refine AP nJ λw1 hB x1=>?_;have hB:bO w1 w.heap.size [i64 0,u16 0,aZ] 157:=hB;have hlt:=hB.lt;refine FP λw2 x2=>FP λw3 x3=>FP λw4 x4=>FP λw5 x5=>?_;refine AP nC λw6 h4 x6=>AP nC λw7 h5 x7=>AP nC λw8 h6 x8=>AP nC λw9 h7 x9=>?_;have x15:=((x2.trans x3).trans x4).trans x5;have x19:=(((x15.trans x6).trans x7).trans x8).trans x9;have z4:=h4.lt;have z5:=h5.lt;have z6:=h6.lt;have z7:=h7.lt;have s5:=x15.size;have s6:=x6.size;have s7:=x7.size;have s8:=x8.size;have s9:=x9.size;have h4:=((h4.ext x7).ext x8).ext x9;have h5:=(h5.ext x8).ext x9;have h6:=h6.ext x9;have hB:=hB.ext x19;have x09:=x1.trans x19;generalize w5.heap.size=b4 at *;generalize w6.heap.size=b5 at *;generalize w7.heap.size=b6 at *;generalize w8.heap.size=b7 at *;refine zS nC h4 (l:=(aT 0 0).cells) rfl rfl rfl rfl λw10 k4 c4=>?_;have h5:=c4.other (by omega) h5;have h6:=c4.other (by omega) h6;have h7:=c4.other (by omega) h7;have hB:=c4.other (by omega) hB;refine zS nC h5 (l:=(aT 2 3).cells) rfl rfl rfl rfl λw11 k5 c5=>?_;have k4:=c5.other (by omega) k4;have h6:=c5.other (by omega) h6;have h7:=c5.other (by omega) h7;have hB:=c5.other (by omega) hB;refine zS nC h6 (l:=(aT 0 8).cells) rfl rfl rfl rfl λw12 k6 c6=>?_;have k4:=c6.other (by omega) k4;have k5:=c6.other (by omega) k5;have h7:=c6.other (by omega) h7;have hB:=c6.other (by omega) hB
 refine zS nC h7 (l:=(aT 1 3).cells) rfl rfl rfl rfl λw13 k7 c7=>?_;have k4:=c7.other (by omega) k4;have k5:=c7.other (by omega) k5;have k6:=c7.other (by omega) k6;have hB:=c7.other (by omega) hB;have x13:aF w w13:=c7.ext _ (c6.ext _ (c5.ext _ (c4.ext _ x09 (by omega)) (by omega)) (by omega)) (by omega);have s13:w13.heap.size=w9.heap.size:=by rw [c7.size,c6.size,c5.size,c4.size]
 refine FP λw14 x14=>?_;refine sI HV rfl rfl λw16 k8 x16=>?_;have k8:bO w16 w14.heap.size (aT 2 6).cells 210:=k8;have xa:=x14.trans x16;have s14:=x14.size;have hS:JR b4 b5 b6 b7 w14.heap.size w16:=⟨(k4.ext xa).boxed,(k5.ext xa).boxed,(k6.ext xa).boxed,(k7.ext xa).boxed,k8.boxed⟩;have hB:=hB.ext xa;have x0:=x13.trans xa;have hG:w.heap.size < b4/\w.heap.size < b5/\w.heap.size < b6/\w.heap.size < b7/\w.heap.size < w14.heap.size:=by omega
 obtain ⟨g,hgg⟩:∃ g,g=w.heap.size:=⟨_,rfl⟩;have hg:w.heap.size<=g:=Nat.le_of_eq hgg.symm;rw [<- hgg] at hB hG ⊢;have hgl:=hB.lt;generalize w14.heap.size=b8 at hS hG;clear k4 k5 k6 k7 k8 c4 c5 c6 c7 h4 h5 h6 h7 x09 x19 x15 xa x13 s5 s6 s7 s8 s9 z4 z5 z6 z7 s13 s14;have D:aF w16 w16.drew:=(aF.refl _).drew
 have imm:∀ {s b l m t:Int} {K':Value->World->Prop},(∀ w',JR b4 b5 b6 b7 b8 w'->bO w' g [i64 0,u16 0,aZ] 157->aF w w'->K' (bI s b l m t).v w')->aB prog 100 #[i64 s,i64 b,i64 l,i64 m,i64 t] w16.drew K':=λhk'=>
  vB λw' hx=>hk' w' (hS.ext (D.trans hx)) (hB.ext (D.trans hx)) (x0.trans (D.trans hx))
 refine aEp (λh1=>?_) λn1=>?_
 ·have hf:cZ op=some (0x4000+(op - 12)*64,[aT 0 0,aT 2 3]):=by unfold cZ;rw [if_pos h1]
  rw [hf] at hk;refine fQ.2 ?_;rw [aC (by omega) (by omega)];refine V.ok (lL underlying3 underlying151) ?_;rw [uW (by omega) (by omega)];refine V.ok (KJ (by decide)) ?_;rw [show (2:Int) ^ (min (6:Int).toNat IntKind.u16.bits)=64 from rfl,uW (by omega) (by omega)];refine aU.2 ?_;rw [uW (by omega) (by omega)];refine iO hS.a4 fA rfl (iO hS.a5 fA rfl ?_);exact pU hB x0 hg (sl:=[aT 0 0,aT 2 3]) rfl rfl (by decide) (by decide) hk
 refine aEp (λh1=>?_) λn2=>?_
 ·have hf:cZ op=some (0x2000+(op - 8)*2048,[aT 0 8,bI 0 8 0 255 1]):=by unfold cZ;rw [if_neg n1,if_pos h1]
  rw [hf] at hk;refine aM.mk' (JR b4 b5 b6 b7 b8) (hS.ext D) ?_;refine aE.ok (λ_ _=>eU) ?_;rw [aC (by omega) (by omega)];refine aE.ok (λ_ _=>lL underlying3 underlying151) ?_;rw [uW (by omega) (by omega)];refine aE.ok (λ_ _=>KJ (by decide)) ?_;rw [show (2:Int) ^ (min (11:Int).toNat IntKind.u16.bits)=2048 from rfl,uW (by omega) (by omega)];refine aE.ok (λ_ _=>KO) ?_;rw [uW (by omega) (by omega)];refine yA (λ_ h=>h.a6) fA rfl ?_;refine imm λw' hS hB x0=>⟨hS,?_⟩;exact nG hB x0 hg (sl:=[aT 0 8,bI 0 8 0 255 1]) rfl rfl (by decide) (by decide) (λ_ hx=>hS.ext hx) (λ_ _ hx hc=>(hS.ext hx).chg hc hG) hk
 refine aK.2 (aD (λe=>?_) λe1=>?_)
 ·subst e;have hf:cZ 1=some (0,[aT 0 0,aT 2 3,bI 6 5 0 31 1]):=rfl;rw [hf] at hk;refine aM.mk' (JR b4 b5 b6 b7 b8) (hS.ext D) ?_;refine yA (λ_ h=>h.a4) fA rfl (yA (λ_ h=>h.a5) fA rfl ?_);refine imm λw' hS hB x0=>⟨hS,?_⟩;exact nG hB x0 hg (sl:=[aT 0 0,aT 2 3,bI 6 5 0 31 1]) rfl rfl (by decide) (by decide) (λ_ hx=>hS.ext hx) (λ_ _ hx hc=>(hS.ext hx).chg hc hG) hk
 refine aK.2 (aD (λe=>?_) λe2=>?_)
 ·subst e;have hf:cZ 2=some (2048,[aT 0 0,aT 2 3,bI 6 5 1 32 1]):=rfl;rw [hf] at hk;refine aM.mk' (JR b4 b5 b6 b7 b8) (hS.ext D) ?_;refine yA (λ_ h=>h.a4) fA rfl (yA (λ_ h=>h.a5) fA rfl ?_);refine imm λw' hS hB x0=>⟨hS,?_⟩;exact nG hB x0 hg (sl:=[aT 0 0,aT 2 3,bI 6 5 1 32 1]) rfl rfl (by decide) (by decide) (λ_ hx=>hS.ext hx) (λ_ _ hx hc=>(hS.ext hx).chg hc hG) hk
 refine aK.2 (aD (λe=>?_) λe3=>?_)
 ·subst e;have hf:cZ 3=some (4096,[aT 0 0,aT 2 3,bI 6 5 1 32 1]):=rfl;rw [hf] at hk;refine aM.mk' (JR b4 b5 b6 b7 b8) (hS.ext D) ?_;refine yA (λ_ h=>h.a4) fA rfl (yA (λ_ h=>h.a5) fA rfl ?_);refine imm λw' hS hB x0=>⟨hS,?_⟩;exact nG hB x0 hg (sl:=[aT 0 0,aT 2 3,bI 6 5 1 32 1]) rfl rfl (by decide) (by decide) (λ_ hx=>hS.ext hx) (λ_ _ hx hc=>(hS.ext hx).chg hc hG) hk
 refine aK.2 (aD (λe=>?_) λe4=>?_)
 ·subst e;have hf:cZ 4=some (6144,[aT 0 0,aT 1 3,aT 2 6]):=rfl;rw [hf] at hk;refine iO hS.a4 fA rfl (iO hS.a7 fA rfl (iO hS.a8 fA rfl ?_));exact pU hB x0 hg (sl:=[aT 0 0,aT 1 3,aT 2 6]) rfl rfl (by decide) (by decide) hk
 refine aK.2 (aD (λe=>?_) λe5=>?_)
 ·subst e;have hf:cZ 5=some (6656,[aT 0 0,aT 1 3,aT 2 6]):=rfl;rw [hf] at hk;refine iO hS.a4 fA rfl (iO hS.a7 fA rfl (iO hS.a8 fA rfl ?_));exact pU hB x0 hg (sl:=[aT 0 0,aT 1 3,aT 2 6]) rfl rfl (by decide) (by decide) hk
 refine aK.2 (aD (λe=>?_) λe6=>?_)
 ·subst e;have hf:cZ 6=some (7168,[aT 0 0,aT 1 3,bI 6 3 0 7 1]):=rfl;rw [hf] at hk;refine aM.mk' (JR b4 b5 b6 b7 b8) (hS.ext D) ?_;refine yA (λ_ h=>h.a4) fA rfl (yA (λ_ h=>h.a7) fA rfl ?_);refine imm λw' hS hB x0=>⟨hS,?_⟩;exact nG hB x0 hg (sl:=[aT 0 0,aT 1 3,bI 6 3 0 7 1]) rfl rfl (by decide) (by decide) (λ_ hx=>hS.ext hx) (λ_ _ hx hc=>(hS.ext hx).chg hc hG) hk
 refine aK.2 (aD (λe=>?_) λe7=>?_)
 ·subst e;have hf:cZ 7=some (7680,[aT 0 0,aT 1 3,bI 6 3 0 7 1]):=rfl;rw [hf] at hk;refine aM.mk' (JR b4 b5 b6 b7 b8) (hS.ext D) ?_;refine yA (λ_ h=>h.a4) fA rfl (yA (λ_ h=>h.a7) fA rfl ?_);refine imm λw' hS hB x0=>⟨hS,?_⟩;exact nG hB x0 hg (sl:=[aT 0 0,aT 1 3,bI 6 3 0 7 1]) rfl rfl (by decide) (by decide) (λ_ hx=>hS.ext hx) (λ_ _ hx hc=>(hS.ext hx).chg hc hG) hk
 refine aK.2 (aD (λe=>?_) λe30=>?_)
 ·subst e;have hf:cZ 30=some (20480,[aT 0 0,aT 1 3,aT 2 6]):=rfl;rw [hf] at hk;refine iO hS.a4 fA rfl (iO hS.a7 fA rfl (iO hS.a8 fA rfl ?_));exact pU hB x0 hg (sl:=[aT 0 0,aT 1 3,aT 2 6]) rfl rfl (by decide) (by decide) hk
 refine aK.2 (aD (λe=>?_) λe29=>?_)
 ·subst e;have hf:cZ 29=some (22528,[aT 0 0,aT 1 3,aT 2 6]):=rfl;rw [hf] at hk;refine iO hS.a4 fA rfl (iO hS.a7 fA rfl (iO hS.a8 fA rfl ?_));exact pU hB x0 hg (sl:=[aT 0 0,aT 1 3,aT 2 6]) rfl rfl (by decide) (by decide) hk
 refine aK.2 (aD (λe=>?_) λe32=>?_)
 ·subst e;have hf:cZ 32=some (24576,[aT 0 0,aT 1 3,bI 6 5 0 124 4]):=rfl;rw [hf] at hk;refine aM.mk' (JR b4 b5 b6 b7 b8) (hS.ext D) ?_;refine yA (λ_ h=>h.a4) fA rfl (yA (λ_ h=>h.a7) fA rfl ?_);refine imm λw' hS hB x0=>⟨hS,?_⟩;exact nG hB x0 hg (sl:=[aT 0 0,aT 1 3,bI 6 5 0 124 4]) rfl rfl (by decide) (by decide) (λ_ hx=>hS.ext hx) (λ_ _ hx hc=>(hS.ext hx).chg hc hG) hk
 refine aK.2 (aD (λe=>?_) λe31=>?_)
 ·subst e;have hf:cZ 31=some (26624,[aT 0 0,aT 1 3,bI 6 5 0 124 4]):=rfl;rw [hf] at hk;refine aM.mk' (JR b4 b5 b6 b7 b8) (hS.ext D) ?_;refine yA (λ_ h=>h.a4) fA rfl (yA (λ_ h=>h.a7) fA rfl ?_);refine imm λw' hS hB x0=>⟨hS,?_⟩;exact nG hB x0 hg (sl:=[aT 0 0,aT 1 3,bI 6 5 0 124 4]) rfl rfl (by decide) (by decide) (λ_ hx=>hS.ext hx) (λ_ _ hx hc=>(hS.ext hx).chg hc hG) hk
 refine aK.2 (aD (λe=>?_) λe34=>?_)
 ·subst e;have hf:cZ 34=some (28672,[aT 0 0,aT 1 3,bI 6 5 0 31 1]):=rfl;rw [hf] at hk;refine aM.mk' (JR b4 b5 b6 b7 b8) (hS.ext D) ?_;refine yA (λ_ h=>h.a4) fA rfl (yA (λ_ h=>h.a7) fA rfl ?_);refine imm λw' hS hB x0=>⟨hS,?_⟩;exact nG hB x0 hg (sl:=[aT 0 0,aT 1 3,bI 6 5 0 31 1]) rfl rfl (by decide) (by decide) (λ_ hx=>hS.ext hx) (λ_ _ hx hc=>(hS.ext hx).chg hc hG) hk
 refine aK.2 (aD (λe=>?_) λe33=>?_)
 ·subst e;have hf:cZ 33=some (30720,[aT 0 0,aT 1 3,bI 6 5 0 31 1]):=rfl;rw [hf] at hk;refine aM.mk' (JR b4 b5 b6 b7 b8) (hS.ext D) ?_;refine yA (λ_ h=>h.a4) fA rfl (yA (λ_ h=>h.a7) fA rfl ?_);refine imm λw' hS hB x0=>⟨hS,?_⟩;exact nG hB x0 hg (sl:=[aT 0 0,aT 1 3,bI 6 5 0 31 1]) rfl rfl (by decide) (by decide) (λ_ hx=>hS.ext hx) (λ_ _ hx hc=>(hS.ext hx).chg hc hG) hk
 have hf:cZ op=lY op:=by unfold cZ;simp only [n1,n2,e1,e2,e3,e4,e5,e6,e7,e30,e29,e32,e31,e34,e33,if_false]
 rw [hf] at hk;refine aPf λv w' hv hx=>?_;have hB:=hB.ext hx;cases hl:lY op with
 | none=>
  rw [hl] at hv hk;have hv:v=_:=hv;subst hv;refine gS.2 (gR.2 ?_);refine zS nJ hB (l:=[i64 0,u16 0,aZ]) rfl rfl rfl rfl λw4 hB2 hc=>?_;exact ⟨_,pZ underlying157 rfl nJ hB2 rfl,⟨_,rfl⟩,hk _ w4 rfl (hc.ext _ (x0.trans hx) hg)⟩
 | some r=>
  rw [hl] at hv hk;obtain ⟨sv,rfl,hsv⟩:=hv;refine gS.2 (gR.2 ?_);refine zS nJ hB (l:=[i64 op,u16 r.1,sv]) rfl rfl rfl (aFh (nX hsv)) λw4 hB2 hc=>?_;exact ⟨_,pZ underlying157 rfl nJ hB2 rfl,⟨_,rfl⟩,hk _ w4 ⟨sv,rfl,aX (hc.ownRow hsv (by have:g < w16.heap.size:=hgl;exact this)) (by omega)⟩ (hc.ext _ (x0.trans hx) hg)⟩
end Go.Proofs.YtjcmcfidblhnnaaGreatDoor
namespace Go.Vc
section
variable {P:Program} {w:World} {K:Value->World->Prop} {S:World->Prop} {L:Value->Prop}
theorem vC {d:Nat} {xs:Array Value}:∀ fs:List Field,(∀ f∈fs,∃ v,(part f.type xs f.offset).run P w=.ok v w/\(Op.equalIn d f.type v v).run P w=.ok true w)->(Op.eqFields d xs xs fs).run P w=.ok true w
 | [],_=>by simp [Op.eqFields]
 | f::fs,h=>by
  obtain ⟨v,h1,h2⟩:=h f (List.mem_cons_self ..);have ih:=vC fs λg hg=>h g (List.mem_cons_of_mem _ hg);unfold Op.eqFields;split
  ·simp only [Sem.run_bind,h1,Result.andThen_ok,h2,Bool.not_true,Bool.false_eq_true,if_false];exact ih
  ·exact ih
theorem CQ {t:TypeId} {k:IntKind} {xs:Array Value} {o:Nat} {v:Value} (ht:P.underlying t=some (.int k)) (hv:xs[o]?=some v):(part t xs o).run P w=.ok v w:=by
 simp [part,isAgg,run_underlying ht,hv]
structure QT (P:Program) (t:TypeId) (fs:List (TypeId × Nat)):Prop where
 ht:P.underlying t=some (.struct (P.fieldsOf t))
 hp:P.stoodInHeld t=false
 hm:P.eqGuardType P.depth t=false
 hf:(P.fieldsOf t).toList.map (λf=>(f.type,f.offset))=fs
theorem QT.refl {t:TypeId} {fs:List (TypeId × Nat)} (h:QT P t fs) {d:Nat} {xs:Array Value} (hx:∀ f∈fs,∃ v,(part f.1 xs f.2).run P w=.ok v w/\(Op.equalIn d f.1 v v).run P w=.ok true w):(Op.equalIn (d+1) t (.agg xs) (.agg xs)).run P w=.ok true w:=by
 rw [run_equalIn_struct w d t xs xs h.ht h.hp];refine vC _ λf hf=>hx (f.type,f.offset) ?_;rw [<- h.hf];exact List.mem_map.2 ⟨f,hf,rfl⟩
theorem eqA {t:TypeId} {fs:List (TypeId × Nat)} (h:QT P t fs) {xs ys:Array Value} (he:xs=ys) {x y:Operand} (hx:∀ f∈fs,∃ v,(part f.1 xs f.2).run P w=.ok v w/\(Op.equalIn 9999 f.1 v v).run P w=.ok true w) (hk:K (.bool true) w) :
  V P (do eqGuard .eql t x y (.agg xs) (.agg ys);binOp .eql t (.agg xs) (.agg ys)) w K:=by
 subst he;refine V.ok ?_ hk;simp only [Sem.run_bind,run_eqGuard_agg w .eql t x y xs xs h.hm,Result.andThen_ok,run_eql_struct,h.refl hx]
end
end Go.Vc
namespace Go.Proofs.YtjcmcfidblhnnaaGreatDoor
open Tryz
open Go.Vc
variable {w:World} {K:Value->World->Prop}
def bBj:List (TypeId × Nat):=[(3,0),(3,1),(3,2),(3,3),(3,4),(3,5)]
theorem aYl:QT prog 83 bBj:=⟨by kernel_rfl,by kernel_rfl,by kernel_rfl,by kernel_rfl⟩
def gZ.cells (i:gZ):List Value:=[i64 i.op,i64 i.d,i64 i.n,i64 i.m,i64 i.imm,i64 i.cond]
theorem LL (i:gZ) (d:Nat):∀ f∈bBj,∃ v,(part f.1 i.cells.toArray f.2).run prog w=.ok v w/\(Op.equalIn (d+1) f.1 v v).run prog w=.ok true w:=by
 intro f hf
 have key:∀ (o:Nat) (n:Int),i.cells.toArray[o]?=some (i64 n)->∃ v,(part 3 i.cells.toArray o).run prog w=.ok v w/\(Op.equalIn (d+1) 3 v v).run prog w=.ok true w:=λo n h=>
  ⟨_,CQ underlying3 h,by rw [run_equalIn_int w d 3 _ _ _ _ underlying3];simp⟩
 simp only [bBj,List.mem_cons,List.not_mem_nil,or_false] at hf;rcases hf with rfl|rfl|rfl|rfl|rfl|rfl<;>exact key _ _ rfl
theorem aYx {i j:gZ} (he:i=j) {x y:Operand} (hk:K (.bool true) w):V prog (do eqGuard .eql 83 x y (.agg i.cells.toArray) (.agg j.cells.toArray);binOp .eql 83 (.agg i.cells.toArray) (.agg j.cells.toArray)) w K:=
 eqA aYl (by rw [he]) (LL i 9998) hk
def VG (k:Int):Nat:=if k=0 then 1 else if k=1 then 2 else if k=2 then 3 else if k=3 then 4 else 5
theorem VF (i:gZ) (k:Int):i.cells[VG k]?=some (i64 (i.part k)):=by
 unfold VG gZ.part;by_cases h0:k=0
 ·simp [h0,gZ.cells]
 by_cases h1:k=1
 ·simp [h1,gZ.cells]
 by_cases h2:k=2
 ·simp [h2,gZ.cells]
 by_cases h3:k=3
 ·simp [h3,gZ.cells]
 simp [h0,h1,h2,h3,gZ.cells]
theorem aFe {b:Nat} {k:Int} (hk:K (.pointer (some ⟨b,VG k,none⟩)) w):aB prog 104 #[.pointer (some ⟨b,0,none⟩),i64 k] w K:=by
 apply aXt;unfold RA;unfold VG at hk;refine aK.2 (aD (λe=>?_) λe=>?_)
 ·rw [if_pos e] at hk;exact ⟨.inl ⟨_,rfl⟩,DT lN hk⟩
 rw [if_neg e] at hk;refine aK.2 (aD (λe=>?_) λe=>?_)
 ·rw [if_pos e] at hk;exact ⟨.inl ⟨_,rfl⟩,DT qI hk⟩
 rw [if_neg e] at hk;refine aK.2 (aD (λe=>?_) λe=>?_)
 ·rw [if_pos e] at hk;exact ⟨.inl ⟨_,rfl⟩,DT mU hk⟩
 rw [if_neg e] at hk;refine aK.2 (aD (λe=>?_) λe=>?_)
 ·rw [if_pos e] at hk;exact ⟨.inl ⟨_,rfl⟩,DT lZ hk⟩
 rw [if_neg e] at hk;exact ⟨.inl ⟨_,rfl⟩,DT qH hk⟩
theorem aDv {sl:List jL} {j:Nat} {s:jL} (h:sl[j]?=some s):((slC sl).drop (((j:Int)).toNat*6)).take 6=s.cells:=by
 induction sl generalizing j with
 | nil=>simp at h
 | cons x l ih=>
  cases j with
  | zero=>simp at h;subst h;simp [slC,jL.cells]
  | succ j=>
   have:=ih (j:=j) (by simpa using h);simp only [Int.toNat_natCast] at this ⊢;rw [<- this];have e:slC (x::l)=x.cells++slC l:=rfl;rw [e,show (j+1)*6=x.cells.length+j*6 from by simp [jL.cells];omega,List.drop_append,List.drop_eq_nil_of_le (by omega),List.nil_append,Nat.add_sub_cancel_left]
theorem aCa {sl:List jL} {k:Int} {j:Nat} {s:jL} (h:∀ q,q < j->∀ s,sl[q]?=some s->s.part≠k) (hs:sl[j]?=some s) (he:s.part=k):sl.find? (λs=>decide (s.part=k))=some s:=by
 induction sl generalizing j with
 | nil=>simp at hs
 | cons x l ih=>
  cases j with
  | zero=>simp at hs;subst hs;simp [he]
  | succ j=>
   have hx:x.part≠k:=h 0 (by omega) x rfl;rw [List.find?_cons,decide_eq_false hx];exact ih (j:=j) (λq hq s hs=>h (q+1) (by omega) s (by simpa using hs)) (by simpa using hs)
theorem KH {sl:List jL} {i:gZ} {k op base:Int} {sv:Value} {B:Nat} (hs:w.ownsRow B 210 6 sv sl.length (slC sl)) (hl:sl.length<=100) (hst:∀ s∈sl,0 < s.step) (hk:∀ w',aF w w'->K (.bool (jK sl i k)) w') :
  aB prog 98 #[.agg #[i64 op,u16 base,sv],.agg i.cells.toArray,i64 k] w K:=by
 apply bDm;unfold XQ;refine bx λb3 w1 h3 x1=>?_;have h3:bG w1 b3 [i64 op,u16 base,sv]:=h3;refine bx λb4 w2 h4 x2=>?_;have h4:bG w2 b4 i.cells:=h4;refine aFe ⟨.inl ⟨_,rfl⟩,?_⟩;have x02:=x1.trans x2;have hp:=h4 _ _ (VF i k);rw [Nat.zero_add] at hp;obtain ⟨d,hd,ha⟩:=aH.ex;refine V.ok (iZ hd ha hp) ?_;refine bF (h3.ext x2) eA hY rfl (gD HI (aA.of_own (x02.own hs)) ?_);refine ⟨λv w'=>∃ j:Nat,v=i64 j/\j<=sl.length/\aF w w'/\∀ q,q < j->∀ s,sl[q]?=some s->s.part≠k,λv _=>sl.length - (RowKit.intOf v).toNat,⟨0,rfl,Nat.zero_le _,x02,λq hq=>by omega⟩,?_⟩;rintro _ w3 ⟨j,rfl,hj,x3,hno⟩ _;refine aY.2 (aD (λhlt=>?_) λhge=>?_)
 ·obtain ⟨s,hsj⟩:=bC (l:=sl) (j:=j) (by omega);refine uU HI fA (aA.of_own (x3.own hs)) (by omega) (by omega) (aDv hsj) rfl ?_;refine sI HV rfl rfl λw4 h9 x4=>?_;have h9:bG w4 w3.heap.size s.cells:=bO.boxed h9;have x04:=x3.trans x4;refine bF h9 gX aH rfl (aK.2 (aD (λhe=>?_) λhne=>?_))
  ·have hf:=aCa hno hsj he;have hpo:jK sl i k=(decide (s.least<=i.part k)&&decide (i.part k<=s.most)&&decide ((i.part k).tmod s.step=0)):=by unfold jK;rw [hf]
   rw [hpo] at hk;have hs0:=hst s (List.mem_of_getElem? hsj);refine bF h9 iJ aH rfl (kN.2 ?_);by_cases c1:s.least<=i.part k
   ·simp only [show (i.part k>=s.least)=True from by simp [c1],decide_true,lU];refine bF h9 iI aH rfl (tK.2 ?_);by_cases c2:i.part k<=s.most
    ·simp only [c2,decide_true,aW,reduceIte,lU];refine bF h9 gW aH rfl (rm hs0 λc hc _ _=>aK.2 ?_)
     try simp only [aW,reduceIte]
     subst hc;have:=hk w4 x04;simpa only [c1,c2,decide_true,Bool.true_and] using this
    ·simp only [c2,decide_false,aW,Bool.false_eq_true,reduceIte,lI];have:=hk w4 x04;simpa only [c1,c2,decide_true,decide_false,Bool.true_and,Bool.false_and] using this
   ·simp only [show (i.part k>=s.least)=False from by simp;omega,decide_false,lI,aW,Bool.false_eq_true,reduceIte];have:=hk w4 x04;simpa only [c1,decide_false,Bool.false_and] using this
  ·refine aU.2 ?_;rw [aC (by omega) (by omega),aR];refine ⟨⟨j+1,rfl,by omega,x04,λq hq t ht=>?_⟩,by simp only [aL];omega⟩;by_cases hqj:q=j
   ·subst hqj;rw [hsj] at ht;cases ht;exact hne
   ·exact hno q (by omega) t ht
 ·have hpo:jK sl i k=decide (i.part k=0):=by
   unfold jK;rw [List.find?_eq_none.2 λs hs=>?_];obtain ⟨q,hq⟩:=List.getElem?_of_mem hs;have:=(List.getElem?_eq_some_iff.1 hq).1;simpa using hno q (by omega) s hq
  rw [hpo] at hk;exact aK.2 (hk w3 x3)
end Go.Proofs.YtjcmcfidblhnnaaGreatDoor
namespace Go.Vc
section
variable {P:Program} {w:World} {K:Value->World->Prop}
theorem wG {s f o ft bk:Nat} {cs:List Value} {u:Value} {b c:Bool} {cmp:Value->Sem Value} {R:Value->World->Prop} (hb:bG w bk cs) (hf:FA P s f o) (hl:L1 P ft) (hc:cs[o]?=some u) (hcmp:(cmp u).run P w=.ok (.bool c) w) (hk:R (.bool (b&&c)) w) :
  gd (.bool b) true (λK=>V P (Instr.fieldAt s (.pointer (some ⟨bk,0,none⟩)) f) w K) w λt1 w1=>gd (.bool b) true (λK=>V P (Instr.loadAt ft t1) w1 K) w1 λt2 w2=>gd (.bool b) true (λK=>V P (cmp t2) w2 K) w2 λt3 w3=>aG (.bool b) t3 (.bool false) λt4=>R t4 w3:=by
 cases b with
 | true=>
  rw [lU];obtain ⟨d,hd,ha⟩:=hl;refine V.ok (hf.ex w bk 0) ?_;rw [lU];refine V.ok (iZ hd ha (hb _ _ hc)) ?_;rw [lU];refine V.ok hcmp (jW ?_);rw [if_pos rfl];exact hk
 | false=>
  rw [lI,lI,lI];exact jW (by rw [if_neg (by decide)];exact hk)
theorem bIp {s f o ft bk:Nat} {cs:List Value} {u m:Value} {b c:Bool} {cmp cmp2:Value->Sem Value} {R:Value->World->Prop} (hb:bG w bk cs) (hf:FA P s f o) (hl:L1 P ft) (hc:cs[o]?=some u) (hcmp:(cmp u).run P w=.ok m w) (hcmp2:(cmp2 m).run P w=.ok (.bool c) w) (hk:R (.bool (b&&c)) w) :
  gd (.bool b) true (λK=>V P (Instr.fieldAt s (.pointer (some ⟨bk,0,none⟩)) f) w K) w λt1 w1=>gd (.bool b) true (λK=>V P (Instr.loadAt ft t1) w1 K) w1 λt2 w2=>gd (.bool b) true (λK=>V P (cmp t2) w2 K) w2 λt3 w3=>gd (.bool b) true (λK=>V P (cmp2 t3) w3 K) w3 λt3 w3=>aG (.bool b) t3 (.bool false) λt4=>R t4 w3:=by
 cases b with
 | true=>
  rw [lU];obtain ⟨d,hd,ha⟩:=hl;refine V.ok (hf.ex w bk 0) ?_;rw [lU];refine V.ok (iZ hd ha (hb _ _ hc)) ?_;rw [lU];refine V.ok hcmp ?_;rw [lU];refine V.ok hcmp2 (jW ?_);rw [if_pos rfl];exact hk
 | false=>
  rw [lI,lI,lI,lI];exact jW (by rw [if_neg (by decide)];exact hk)
end
end Go.Vc
namespace Go.Proofs.YtjcmcfidblhnnaaGreatDoor
open Tryz
open Go.Vc
variable {w:World} {K:Value->World->Prop}
theorem MC {op b:Int} {sl:List jL} (h:cZ op=some (b,sl)):sl.length<=3/\∀ s∈sl,0 < s.step/\0<=s.part/\s.part<=4:=by
 unfold cZ at h;by_cases c:12<=op/\op<=27
 ·rw [if_pos c] at h;cases h;exact ⟨by decide,by simp [aT]⟩
 rw [if_neg c] at h;clear c;by_cases c:8<=op/\op<=11
 ·rw [if_pos c] at h;cases h;exact ⟨by decide,by simp [aT,bI]⟩
 rw [if_neg c] at h;clear c;by_cases c:op=1
 ·rw [if_pos c] at h;cases h;exact ⟨by decide,by simp [aT,bI]⟩
 rw [if_neg c] at h;clear c;by_cases c:op=2
 ·rw [if_pos c] at h;cases h;exact ⟨by decide,by simp [aT,bI]⟩
 rw [if_neg c] at h;clear c;by_cases c:op=3
 ·rw [if_pos c] at h;cases h;exact ⟨by decide,by simp [aT,bI]⟩
 rw [if_neg c] at h;clear c;by_cases c:op=4
 ·rw [if_pos c] at h;cases h;exact ⟨by decide,by simp [aT]⟩
 rw [if_neg c] at h;clear c;by_cases c:op=5
 ·rw [if_pos c] at h;cases h;exact ⟨by decide,by simp [aT]⟩
 rw [if_neg c] at h;clear c;by_cases c:op=6
 ·rw [if_pos c] at h;cases h;exact ⟨by decide,by simp [aT,bI]⟩
 rw [if_neg c] at h;clear c;by_cases c:op=7
 ·rw [if_pos c] at h;cases h;exact ⟨by decide,by simp [aT,bI]⟩
 rw [if_neg c] at h;clear c;by_cases c:op=30
 ·rw [if_pos c] at h;cases h;exact ⟨by decide,by simp [aT]⟩
 rw [if_neg c] at h;clear c;by_cases c:op=29
 ·rw [if_pos c] at h;cases h;exact ⟨by decide,by simp [aT]⟩
 rw [if_neg c] at h;clear c;by_cases c:op=32
 ·rw [if_pos c] at h;cases h;exact ⟨by decide,by simp [aT,bI]⟩
 rw [if_neg c] at h;clear c;by_cases c:op=31
 ·rw [if_pos c] at h;cases h;exact ⟨by decide,by simp [aT,bI]⟩
 rw [if_neg c] at h;clear c;by_cases c:op=34
 ·rw [if_pos c] at h;cases h;exact ⟨by decide,by simp [aT,bI]⟩
 rw [if_neg c] at h;clear c;by_cases c:op=33
 ·rw [if_pos c] at h;cases h;exact ⟨by decide,by simp [aT,bI]⟩
 rw [if_neg c] at h;clear c;unfold lY at h;by_cases c:op=36
 ·rw [if_pos c] at h;cases h;exact ⟨by decide,by simp [aT,bI]⟩
 rw [if_neg c] at h;clear c;by_cases c:op=35
 ·rw [if_pos c] at h;cases h;exact ⟨by decide,by simp [aT,bI]⟩
 rw [if_neg c] at h;clear c;by_cases c:op=37
 ·rw [if_pos c] at h;cases h;exact ⟨by decide,by simp [bI]⟩
 rw [if_neg c] at h;clear c;by_cases c:op=38
 ·rw [if_pos c] at h;cases h;exact ⟨by decide,by simp [bI]⟩
 rw [if_neg c] at h;clear c;by_cases c:op=39
 ·rw [if_pos c] at h;cases h;exact ⟨by decide,by simp [bI]⟩
 rw [if_neg c] at h;clear c;by_cases c:op=40
 ·rw [if_pos c] at h;cases h;exact ⟨by decide,by simp [bI]⟩
 rw [if_neg c] at h;clear c;by_cases c:op=41
 ·rw [if_pos c] at h;cases h;exact ⟨by decide,by simp [bI]⟩
 rw [if_neg c] at h;clear c;by_cases c:op=42
 ·rw [if_pos c] at h;cases h;exact ⟨by decide,by simp [bI]⟩
 rw [if_neg c] at h;clear c;by_cases c:op=44
 ·rw [if_pos c] at h;cases h;exact ⟨by decide,by simp [bI]⟩
 rw [if_neg c] at h;clear c;by_cases c:op=45
 ·rw [if_pos c] at h;cases h;exact ⟨by decide,by simp []⟩
 rw [if_neg c] at h;clear c;cases h
def qG (r:Option (Int × List jL)) (i:gZ) (j:Nat):Bool:=match r with
 | some r=>(List.range j).all λk=>jK r.2 i (k:Int)
 | none=>false
theorem wZ {r:Int × List jL} {i:gZ} {j:Nat}:qG (some r) i (j+1)=(qG (some r) i j&&jK r.2 i (j:Int)):=by
 simp [qG,List.range_succ]
theorem CH {i:gZ} (h28:i.op=28->i.n=0/\i.imm=0/\i.cond=0) (h43:i.op=43->i.d=0/\i.n=0/\i.m=0/\i.cond=0) (hk:∀ w',aF w w'->K (.bool (cN i)) w'):aB prog 47 #[.agg i.cells.toArray] w K:=by
 apply bFf;unfold ZF;refine bx λb w1 hb x1=>?_;have hb:bG w1 b i.cells:=hb;have fi:∀ {R:Value->World->Prop} {f:Nat} {v:Value},FA prog 83 f f->i.cells[f]?=some v->R v w1->V prog (Instr.fieldAt 83 (.pointer (some ⟨b,0,none⟩)) f) w1 λq w2=>V prog (Instr.loadAt 3 q) w2 R:=λhf hv hr=>bF hb hf aH hv hr;refine fi mA rfl (aK.2 (aD (λe=>?_) λe28=>?_))
 ·obtain ⟨z1,z2,z3⟩:=h28 e;refine iO hb qB rfl ?_;refine fi lN rfl (fi mU rfl ?_);refine pP pQ [(0,i64 28),(1,i64 i.d),(3,i64 i.m)] rfl rfl ?_;refine aYx (i:=i) (j:=⟨28,i.d,0,i.m,0,0⟩) ?_ ?_
  ·cases i;simp only at e z1 z2 z3;subst e z1 z2 z3;rfl
  refine wG hb lN aH rfl wX ?_;refine wG hb lN aH rfl zU ?_;refine wG hb lN aH rfl rM ?_;refine wG hb mU aH rfl wX ?_;refine wG hb mU aH rfl zU ?_;have:=hk w1 x1;unfold cN at this;rw [if_pos e,decide_eq_true ⟨z1,z2,z3⟩] at this;exact this
 refine aK.2 (aD (λe=>?_) λe43=>?_)
 ·obtain ⟨z1,z2,z3,z4⟩:=h43 e;refine iO hb qB rfl ?_;refine fi lZ rfl ?_;refine pP pQ [(0,i64 43),(4,i64 i.imm)] rfl rfl ?_;refine aYx (i:=i) (j:=⟨43,0,0,0,i.imm,0⟩) ?_ ?_
  ·cases i;simp only at e z1 z2 z3 z4;subst e z1 z2 z3 z4;rfl
  refine wG hb lZ aH rfl wX ?_;refine wG hb lZ aH rfl KK ?_;refine bIp hb lZ aH rfl (aEq (by decide)) CM ?_;have:=hk w1 x1;unfold cN at this;rw [if_neg e28,if_pos e,decide_eq_true ⟨z1,z2,z3,z4⟩] at this;exact this
 refine fi mA rfl (aHg λv w2 hv x2=>?_)
 have hrp:cN i=qG (cZ i.op) i 5:=by
  unfold cN qG;rw [if_neg e28,if_neg e43];cases cZ i.op with
  | none=>rfl
  | some r=>simp [List.range_succ,Bool.and_assoc]
 rw [hrp] at hk
 obtain ⟨op,base,sv,sl,rfl,hsv,hsl,hst,hfs⟩:∃ (op base:Int) (sv:Value) (sl:List jL),v=.tuple #[.agg #[i64 op,u16 base,sv],.bool (cZ i.op).isSome]/\w2.ownsRow w1.heap.size 210 6 sv sl.length (slC sl)/\sl.length<=100/\(∀ s∈sl,0 < s.step)/\∀ r,cZ i.op=some r->r.2=sl:=by
  cases hf:cZ i.op with
  | none=>
   rw [hf] at hv;have hv:v=_:=hv;exact ⟨0,0,aZ,[],hv,World.ownsRow_nil _ _ _ _,by decide,λs hs=>(by cases hs),λr h=>(by cases h)⟩
  | some r=>
   rw [hf] at hv;obtain ⟨sv,h1,h2⟩:=hv;obtain ⟨b,sl⟩:=r;obtain ⟨f1,f2⟩:=MC hf;exact ⟨i.op,b,sv,sl,h1,h2,by omega,λs hs=>(f2 s hs).1,λr h=>by cases h;rfl⟩
 refine gS.2 (gR.2 ?_);refine sI aDz rfl (aFh (nX hsv)) λw3 h3 x3=>?_;have h3:bO w3 w2.heap.size [i64 op,u16 base,sv] 157:=h3;have x13:=x2.trans x3;refine ⟨λok v w'=>∃ j:Nat,v=i64 j/\j<=5/\ok=.bool (qG (cZ i.op) i j)/\aF w3 w',λ_ v _=>5 - (RowKit.intOf v).toNat,⟨0,rfl,by decide,?_,aF.refl _⟩,?_⟩
 ·cases cZ i.op<;>rfl
 rintro _ _ w4 ⟨j,rfl,hj,rfl,x4⟩ _;refine aY.2 (aD (λhlt=>?_) λhge=>?_)
 ·have nx:∀ {c:Bool} {w'},qG (cZ i.op) i (j+1)=c->aF w3 w'->V prog (binOp .add 3 (i64 j) (i64 1)) w' λt81 w65=>(∃ j:Nat,t81=i64 j/\j<=5/\Value.bool c=.bool (qG (cZ i.op) i j)/\aF w3 w65)/\5 - (RowKit.intOf t81).toNat < 5 - (RowKit.intOf (i64 (j:Int))).toNat:=λhc hx=>by
   refine aU.2 ?_;rw [aC (by omega) (by omega),aR];exact ⟨⟨j+1,rfl,by omega,by rw [hc],hx⟩,by simp only [aL];omega⟩
  cases hp:qG (cZ i.op) i j with
  | false=>
   simp only [lI,aW,Bool.false_eq_true,reduceIte];refine nx ?_ x4;cases hf:cZ i.op with
   | none=>rfl
   | some r=>rw [hf] at hp;rw [wZ,hp];rfl
  | true=>
   simp only [lU];refine iO (h3.ext x4).boxed bBa rfl (iO ((hb.ext x13).ext x4) qB rfl ?_);refine KH ((x3.trans x4).own hsv) hsl hst λw5 x5=>?_;simp only [aW,reduceIte];refine nx ?_ (x4.trans x5);cases hf:cZ i.op with
   | none=>rw [hf] at hp;cases hp
   | some r=>
    rw [hf] at hp;rw [wZ,hp,hfs r hf];rfl
 ·obtain rfl:j=5:=by omega
  exact hk w4 ((x1.trans x13).trans x4)
end Go.Proofs.YtjcmcfidblhnnaaGreatDoor
namespace Go.Vc
theorem xQ {α:Type} {f:α->List Value} {sz:Nat} (hf:∀ x,(f x).length=sz):∀ {l:List α} {j:Nat} {x:α},l[j]?=some x->((l.flatMap f).drop (j*sz)).take sz=f x
 | [],_,_,h=>by simp at h
 | y::l,0,x,h=>by
  simp at h;subst h;rw [Nat.zero_mul,List.drop_zero,List.flatMap_cons,List.take_append_of_le_length (by rw [hf];exact Nat.le_refl _),List.take_of_length_le (by rw [hf];exact Nat.le_refl _)]
 | y::l,j+1,x,h=>by
  rw [<- xQ hf (l:=l) (j:=j) (by simpa using h),List.flatMap_cons,show (j+1)*sz=(f y).length+j*sz from by rw [hf,Nat.add_mul];omega,List.drop_append,List.drop_eq_nil_of_le (by omega),List.nil_append,Nat.add_sub_cancel_left]
end Go.Vc
namespace Go.Proofs.YtjcmcfidblhnnaaGreatDoor
open Tryz
open Go.Vc
variable {w:World} {K:Value->World->Prop}
theorem aOl {i:gZ} (h:i.op≠41/\i.op≠42/\i.op≠43/\i.op≠40) (hk:∀ w',aF w w'->K (.bool true) w'):aB prog 212 #[.agg i.cells.toArray] w K:=by
 apply aTl;unfold ND;obtain ⟨h1,h2,h3,h4⟩:=h;refine bx λb w1 hb x1=>?_;have hb:bG w1 b i.cells:=hb;refine bF hb mA aH rfl ?_;refine ⟨λv w'=>v=.bool false/\w'=w1,?_,?_⟩
 ·refine aK.2 (aD (λe=>absurd e h1) λ_=>aK.2 (aD (λe=>absurd e h2) λ_=>aK.2 ⟨?_,rfl⟩));rw [decide_eq_false h3]
 ·rintro _ w2 ⟨rfl,rfl⟩ _;exact aP.2 (aK.2 (aD (λe=>absurd e h4) λ_=>hk _ x1))
def bBi:List (TypeId × Nat):=[(3,0),(83,1),(3,7),(3,8),(3,9),(21,10)]
theorem bHo:QT prog 180 bBi:=⟨by kernel_rfl,by kernel_rfl,by kernel_rfl,by kernel_rfl⟩
theorem aFd {P:Program} {t n b:Nat} {z:Value} {d:TypeDesc} {xs:Array Value} {o:Nat} (ht:P.underlying t=some d) (hd:lQ d=true) (hi:dA P t z n b):(part t xs o).run P w=.ok (.agg (xs.extract o (o+n))) w:=by
 simp [part,uK ht,hd,gG hi]
def cF.ins:cF->gZ
 | .one i=>i
 | _=>⟨0,0,0,0,0,0⟩
theorem aGn (x:cF):∀ f∈bBi,∃ v,(part f.1 x.cells.toArray f.2).run prog w=.ok v w/\(Op.equalIn 9999 f.1 v v).run prog w=.ok true w:=by
 intro f hf
 have key:∀ (o:Nat) (n:Int),x.cells.toArray[o]?=some (i64 n)->∃ v,(part 3 x.cells.toArray o).run prog w=.ok v w/\(Op.equalIn 9999 3 v v).run prog w=.ok true w:=λo n h=>
  ⟨_,CQ underlying3 h,by rw [run_equalIn_int w 9998 3 _ _ _ _ underlying3];simp⟩
 have key2:∀ (o:Nat) (n:Int),x.cells.toArray[o]?=some (i32 n)->∃ v,(part 21 x.cells.toArray o).run prog w=.ok v w/\(Op.equalIn 9999 21 v v).run prog w=.ok true w:=λo n h=>
  ⟨_,CQ underlying21 h,by rw [run_equalIn_int w 9998 21 _ _ _ _ underlying21];simp⟩
 simp only [bBi,List.mem_cons,List.not_mem_nil,or_false] at hf;rcases hf with rfl|rfl|rfl|rfl|rfl|rfl
 ·cases x<;>exact key _ _ rfl
 ·refine ⟨_,aFd underlying83 rfl AD,?_⟩;have e:x.cells.toArray.extract 1 (1+6)=x.ins.cells.toArray:=by cases x<;>rfl
  rw [e];exact aYl.refl (LL x.ins 9997)
 iterate 3
  ·cases x<;>exact key _ _ rfl
 ·cases x<;>exact key2 _ _ rfl
theorem WJ {x:cF} {cs ds:Array Value} (hc:cs=x.cells.toArray) (hd:ds=x.cells.toArray) {a b:Operand} (hk:K (.bool true) w):V prog (do eqGuard .eql 180 a b (.agg cs) (.agg ds);binOp .eql 180 (.agg cs) (.agg ds)) w K:=by
 subst hc hd;exact eqA bHo rfl (aGn x) hk
theorem aFj {i:gZ} (h:i.okT):(i.op=28->i.n=0/\i.imm=0/\i.cond=0)/\(i.op=43->i.d=0/\i.n=0/\i.m=0/\i.cond=0)/\i.op≠41/\i.op≠42/\i.op≠43/\i.op≠40:=by
 rcases h with ⟨h1,_,_,h7,h8,h9⟩|⟨h1,_⟩|⟨h1,_⟩|⟨h1,_⟩|⟨h1,_⟩|⟨h1,_⟩|⟨h1,_⟩
 ·exact ⟨λ_=>⟨h7,h8,h9⟩,λe=>by omega,by omega,by omega,by omega,by omega⟩
 all_goals exact ⟨λe=>by omega,λe=>by omega,by omega,by omega,by omega,by omega⟩
theorem aOd {x:cF} (h:x.okI) (hk:∀ w',aF w w'->K (.bool true) w'):aB prog 177 #[.agg x.cells.toArray] w K:=by
 apply aUv;unfold OL;refine bx λb w1 hb x1=>?_;have hb:bG w1 b x.cells:=hb;have no:∀ {a b:Int} {P Q:Prop},a≠b->Q->aI (.bool (decide (a=b))) P Q:=λh hq=>aD (λe=>absurd e h) λ_=>hq;have yes:∀ {a:Int} {P Q:Prop},P->aI (.bool (decide (a=a))) P Q:=λhp=>aD (λ_=>hp) λh=>absurd rfl h;cases x with
 | one i=>
  have hb:bG w1 b [i64 1,i64 i.op,i64 i.d,i64 i.n,i64 i.m,i64 i.imm,i64 i.cond,i64 0,i64 0,i64 0,i32 0]:=hb;have hi:i.okT:=h;obtain ⟨r1,r2,r3⟩:=aFj hi;refine bF hb bA aH rfl (aK.2 (yes ?_));refine iO hb rP rfl ?_;refine DT eJ (aGe hb qB rfl (l:=i.cells) rfl ?_);refine JE AG (WG i) ?_;refine WJ (x:=.one i) rfl rfl ?_;refine lU.2 ?_;refine DT eJ ?_;refine lU.2 ?_;refine aGe hb qB rfl (l:=i.cells) rfl ?_;refine lU.2 ?_;refine CH r1 r2 λw2 x2=>jW ?_;rw [zA hi,if_pos rfl];refine lU.2 ?_;refine DT eJ ?_;refine lU.2 ?_;refine aGe (hb.ext x2) qB rfl (l:=i.cells) rfl ?_;refine lU.2 ?_;refine aOl r3 λw3 x3=>jW ?_;rw [if_pos rfl];exact hk w3 ((x1.trans x2).trans x3)
 | place l=>
  have hb:bG w1 b [i64 2,i64 0,i64 0,i64 0,i64 0,i64 0,i64 0,i64 l,i64 0,i64 0,i32 0]:=hb;have hl:0<=l/\l<=2000:=h;refine bF hb bA aH rfl (aK.2 (no (by decide) (aK.2 (yes ?_))));refine iO hb rP rfl (bF hb bZ aH rfl ?_);refine JE AG rfl (WJ (x:=.place l) rfl rfl ?_);refine wG hb bZ aH rfl wX (wG hb bZ aH rfl KK ?_);rw [decide_eq_true hl.1,decide_eq_true hl.2];exact hk w1 x1
 | jump c l=>
  have hb:bG w1 b [i64 3,i64 0,i64 0,i64 0,i64 0,i64 0,i64 0,i64 l,i64 c,i64 0,i32 0]:=hb;obtain ⟨hl,hc⟩:(0<=l/\l<=2000)/\(0<=c/\c<=14):=h;refine bF hb bA aH rfl (aK.2 (no (by decide) (aK.2 (no (by decide) (aK.2 (yes ?_))))));refine iO hb rP rfl (bF hb bZ aH rfl (bF hb dZ aH rfl ?_));refine JE AG rfl (WJ (x:=.jump c l) rfl rfl ?_);refine wG hb bZ aH rfl wX (wG hb bZ aH rfl KK ?_);refine wG hb dZ aH rfl wX (wG hb dZ aH rfl KK ?_);rw [decide_eq_true hl.1,decide_eq_true hl.2,decide_eq_true hc.1,decide_eq_true hc.2];exact hk w1 x1
 | load r n=>
  have hb:bG w1 b [i64 4,i64 0,i64 0,i64 0,i64 0,i64 0,i64 0,i64 0,i64 0,i64 r,i32 n]:=hb;obtain ⟨hr0,hr1⟩:0<=r/\r<=7:=h;refine bF hb bA aH rfl (aK.2 (no (by decide) (aK.2 (no (by decide) (aK.2 (no (by decide) (aK.2 (yes ?_))))))));refine iO hb rP rfl (bF hb eI aH rfl (bF hb fI kI rfl ?_));refine JE AG rfl (WJ (x:=.load r n) rfl rfl ?_);refine wG hb eI aH rfl wX (wG hb eI aH rfl zU ?_);rw [show decide (r>=0)=true from decide_eq_true hr0,show decide (r < 8)=true from decide_eq_true (by omega)];exact hk w1 x1
theorem aOe {x:cF} (h:x.okI) (hk:∀ w',aF w w'->K (.bool false) w'):aB prog 176 #[.agg x.cells.toArray] w K:=by
 apply aUw;unfold OM;refine bx λb w1 hb x1=>?_;have hb:bG w1 b x.cells:=hb;refine iO hb rP x.len ?_;exact aOd h λw2 x2=>dK.2 (hk w2 (x1.trans x2))
def tE (w:World) (v:Value) (l:List cF):Prop:=aA w v 11 l.length (itC l)
theorem tE.ext {w':World} {v:Value} {l:List cF} (h:tE w v l) (hx:aF w w'):tE w' v l:=aA.ext h hx
theorem IM {l:List cF} {j:Nat} {x:cF} (h:l[j]?=some x):((itC l).drop (((j:Int)).toNat*11)).take 11=x.cells:=by
 rw [Int.toNat_natCast];exact xQ cF.len h
theorem aPn {v:Value} {l:List cF} (hv:tE w v l) (hl:l.length<=1000000) (h:∀ x∈l,x.okI) (hk:∀ w',aF w w'->K (i64 (-1)) w'):aB prog 211 #[v,.func (.func 176) #[] #[]] w K:=by
 apply aTm;unfold NE;refine gD wK hv ?_;refine ⟨λv w'=>∃ j:Nat,v=i64 j/\j<=l.length/\aF w w',λv _=>l.length - (RowKit.intOf v).toNat,⟨0,rfl,Nat.zero_le _,aF.refl _⟩,?_⟩;rintro _ w1 ⟨j,rfl,hj,x1⟩ _;refine aY.2 (aD (λhlt=>?_) λhge=>hk w1 x1);obtain ⟨x,hx⟩:=bC (l:=l) (j:=j) (by omega);refine uU wK rP (hv.ext x1) (by omega) (by omega) (IM hx) x.len ?_;refine ⟨_,#[],rfl,aOe (h x (List.mem_of_getElem? hx)) λw2 x2=>aP.2 (aU.2 ?_)⟩;rw [aC (by omega) (by omega),aR];exact ⟨⟨j+1,rfl,by omega,x1.trans x2⟩,by simp only [aL];omega⟩
theorem TH {v:Value} {l:List cF} (hv:tE w v l) (hl:l.length<=1000000) (h:∀ x∈l,x.okI) (hk:∀ w',aF w w'->K (.bool false) w'):aB prog 175 #[v,.func (.func 176) #[] #[]] w K:=by
 apply aUx;unfold ON;exact aPn hv hl h λw1 x1=>kN.2 (hk w1 x1)
def xW (l:List cF):List Value:=(List.range 2001).map λ(q:Nat)=>i64 ((((jU l).count (q:Int)):Nat):Int)
theorem xU (l:List cF):(xW l).length=2001:=by simp [xW]
theorem xV {l:List cF} {q:Nat} (h:q < 2001):(xW l)[q]?=some (i64 ((((jU l).count (q:Int)):Nat):Int)):=by
 simp only [xW,List.getElem?_map,List.getElem?_range h];rfl
theorem aHu:xW []=List.replicate 2001 (i64 0):=by
 apply List.ext_getElem?;intro q;by_cases h:q < 2001
 ·rw [xV h,List.getElem?_replicate_of_lt h];rfl
 ·rw [List.getElem?_eq_none (by rw [xU];omega),List.getElem?_eq_none (by rw [List.length_replicate];omega)]
theorem TJ {l:List cF} {q:Nat} (h:q < 2001):(xW l).set q (i64 ((((jU l).count (q:Int)+1):Nat):Int))=xW (l++[.place q]):=by
 apply List.ext_getElem?;intro k;by_cases hk:k < 2001
 ·rw [List.getElem?_set,xV hk,xV hk,qS,List.count_append,show jU [cF.place (q:Int)]=[(q:Int)] from rfl];by_cases hq:q=k
  ·subst hq;rw [if_pos rfl,if_pos (by rw [xU];exact h),List.count_singleton_self]
  ·rw [if_neg hq,List.count_singleton,if_neg (by simp;omega)];rfl
 ·rw [List.getElem?_eq_none (by rw [List.length_set,xU];omega),List.getElem?_eq_none (by rw [xU];omega)]
theorem vY {l:List cF} {x:cF} (h:x.pl=[]):xW (l++[x])=xW l:=by
 unfold xW;rw [qS,show jU [x]=[] from by simp [jU,h],List.append_nil]
theorem uL {l:List cF} {j:Nat} {x:cF} (h:l[j]?=some x):l.take (j+1)=l.take j++[x]:=by
 rw [List.take_add_one,h];rfl
theorem aCj {l:List cF} (h:tL l) {q:Nat} (hq:(q:Int)∈jU l):(jU l).count (q:Int)=1:=h.nd.count.trans (if_pos hq)
theorem aZy {v:Value} {l:List cF} (hv:tE w v l) (h:tL l) (hk:∀ w',aF w w'->K (.bool true) w'):aB prog 120 #[v] w K:=by
 apply aXb;unfold QO;have hl:=h.len;refine gD wK hv (iR.2 ?_);rw [decide_eq_false (by omega)];refine oV.2 (oV.2 ?_);refine TH hv (by omega) h.ok λw1 x1=>jW ?_;rw [if_neg (by decide)];refine aP.2 ?_;refine AP bBm λw2 hB x2=>?_
 have hB:bO w2 w1.heap.size (xW []) 263:=by
  rw [aHu];exact hB
 have x02:=x1.trans x2;have s2:=x1.size;generalize hg:w1.heap.size=g at hB s2;refine gD wK (hv.ext x02) ?_;refine ⟨λv w'=>∃ j:Nat,v=i64 j/\j<=l.length/\aF w w'/\bO w' g (xW (l.take j)) 263,λv _=>l.length - (RowKit.intOf v).toNat,⟨0,rfl,Nat.zero_le _,x02,by simpa using hB⟩,?_⟩;rintro _ w3 ⟨j,rfl,hj,x3,hB3⟩ _;refine aY.2 (aD (λhlt=>?_) λhge=>?_)
 ·obtain ⟨x,hx⟩:=bC (l:=l) (j:=j) (by omega);have hox:=h.ok x (List.mem_of_getElem? hx);refine uU wK rP (hv.ext x3) (by omega) (by omega) (IM hx) x.len ?_;refine sI RK (by simpa [Value.cells] using x.len) (by simpa [Value.cells] using sU x) λw4 h5 x4=>?_;have h5:bO w4 w3.heap.size x.cells 180:=h5;have x04:=x3.trans x4;have hB4:=hB3.ext x4
  have nx:∀ {w'},aF w w'->bO w' g (xW (l.take (j+1))) 263->V prog (binOp .add 3 (i64 j) (i64 1)) w' λt w5=>(∃ j:Nat,t=i64 j/\j<=l.length/\aF w w5/\bO w5 g (xW (l.take j)) 263)/\l.length - (RowKit.intOf t).toNat < l.length - (RowKit.intOf (i64 (j:Int))).toNat:=λhx hb=>by
   refine aU.2 ?_;rw [aC (by omega) (by omega),aR];exact ⟨⟨j+1,rfl,by omega,hx,hb⟩,by simp only [aL];omega⟩
  cases x with
  | place q=>
   have h5:bO w4 w3.heap.size [i64 2,i64 0,i64 0,i64 0,i64 0,i64 0,i64 0,i64 q,i64 0,i64 0,i32 0] 180:=h5;obtain ⟨q,rfl⟩:∃ n:Nat,q=n:=⟨q.toNat,by have:0<=q/\q<=2000:=hox;omega⟩;have hq:q < 2001:=by have:0<=(q:Int)/\(q:Int)<=2000:=hox;omega
   refine bF h5.boxed bA aH rfl (aK.2 (aD (λ_=>?_) λe=>absurd rfl e));refine bF h5.boxed bZ aH rfl ?_;refine V.ok (VB underlying263 bY (by omega) (by omega)) ?_;obtain ⟨d,hd,ha⟩:=aH.ex;have hc:=hB4.cell q;rw [xV hq] at hc
   have hcnt:(jU (l.take j)).count (q:Int)<=6000:=by
    have h1:=(List.Sublist.count_le (q:Int) (l₁:=jU (l.take j)) (l₂:=jU l) (by
     conv=>rhs;rw [<- List.take_append_drop j l,qS]
     exact List.sublist_append_left _ _))
    have h2:=(List.nodup_iff_count.1 h.nd) (q:Int);omega
   refine V.ok (iZ hd ha (v:=i64 ((((jU (l.take j)).count (q:Int)):Nat):Int)) (by simpa using hc)) (aU.2 ?_);rw [aC (by omega) (by omega)];refine V.ok (VB underlying263 bY (by omega) (by omega)) ?_;refine U.ok (mO bY rfl (by simpa using hc) (by simpa using hB4.frozen q)) ?_;have hs:=hB4.set q (i64 ((((jU (l.take j)).count (q:Int)+1):Nat):Int));rw [TJ hq,<- uL hx] at hs;have e1:((0+((q:Int)).toNat:Nat))=q:=by simp
   rw [e1];exact nx (x04.setCell (by omega) _) (by push_cast at hs ⊢;exact hs)
  | one i=>
   refine bF h5.boxed bA aH rfl (aK.2 (aD (λe=>absurd e (by decide)) λ_=>?_));exact nx x04 (by rw [uL hx,vY rfl];exact hB4)
  | jump c q=>
   refine bF h5.boxed bA aH rfl (aK.2 (aD (λe=>absurd e (by decide)) λ_=>?_));exact nx x04 (by rw [uL hx,vY rfl];exact hB4)
  | load r n=>
   refine bF h5.boxed bA aH rfl (aK.2 (aD (λe=>absurd e (by decide)) λ_=>?_));exact nx x04 (by rw [uL hx,vY rfl];exact hB4)
 ·have e:l.take j=l:=List.take_of_length_le (by omega);rw [e] at hB3;refine gD wK (hv.ext x3) ?_;refine ⟨λv w'=>∃ j:Nat,v=i64 j/\j<=l.length/\aF w3 w',λv _=>l.length - (RowKit.intOf v).toNat,⟨0,rfl,Nat.zero_le _,aF.refl _⟩,?_⟩;rintro _ w4 ⟨k,rfl,hkl,x4⟩ _;have x04:=x3.trans x4;refine aY.2 (aD (λhlt=>?_) λhge=>hk w4 x04);obtain ⟨x,hx⟩:=bC (l:=l) (j:=k) (by omega);have hxm:=List.mem_of_getElem? hx;have hox:=h.ok x hxm;refine uU wK rP (hv.ext x04) (by omega) (by omega) (IM hx) x.len ?_;refine sI RK (by simpa [Value.cells] using x.len) (by simpa [Value.cells] using sU x) λw5 h7 x5=>?_;have h7:bO w5 w4.heap.size x.cells 180:=h7;have hB5:=(hB3.ext x4).ext x5
  have nx:V prog (binOp .add 3 (i64 k) (i64 1)) w5 λt w6=>(∃ j:Nat,t=i64 j/\j<=l.length/\aF w3 w6)/\l.length - (RowKit.intOf t).toNat < l.length - (RowKit.intOf (i64 (k:Int))).toNat:=by
   refine aU.2 ?_;rw [aC (by omega) (by omega),aR];exact ⟨⟨k+1,rfl,by omega,x4.trans x5⟩,by simp only [aL];omega⟩
  have lbl:∀ {q:Int} {R:Value->World->Prop},x.cells[7]?=some (i64 q)->q∈jU l->0<=q/\q<=2000->R (.bool false) w5 ->
    gd (.bool true) true (λK=>V prog (Instr.fieldAt 180 (.pointer (some ⟨w4.heap.size,0,none⟩)) 2) w5 K) w5 λt46 w40=>gd (.bool true) true (λK=>V prog (Instr.loadAt 3 t46) w40 K) w40 λt47 w41=>gd (.bool true) true (λK=>V prog (Instr.indexAt 263 (.pointer (some ⟨g,0,none⟩)) t47) w41 K) w41 λt48 w42=>gd (.bool true) true (λK=>V prog (Instr.loadAt 3 t48) w42 K) w42 λt49 w43=>gd (.bool true) true (λK=>V prog (do eqGuard .neq 3 (.tmp 49) (.const (i64 1)) t49 (i64 1);binOp .neq 3 t49 (i64 1)) w43 K) w43 λt50 w44=>aG (.bool true) t50 (.bool false) λt51=>R t51 w44:=by
   intro q R hc hq hr hR;obtain ⟨q,rfl⟩:∃ n:Nat,q=n:=⟨q.toNat,by omega⟩;obtain ⟨d,hd,ha⟩:=aH.ex;refine lU.2 ?_;refine V.ok (bZ.ex w5 _ 0) ?_;refine lU.2 ?_;refine V.ok (iZ hd ha (h7.boxed _ _ hc)) ?_;refine lU.2 ?_;refine V.ok (VB underlying263 bY (by omega) (by omega)) ?_;refine lU.2 ?_;have hcc:=hB5.cell q;rw [xV (by omega),aCj h hq] at hcc;refine V.ok (iZ hd ha (v:=i64 1) (by simpa using hcc)) ?_;refine lU.2 ?_;refine dB.2 (jW ?_);rw [if_pos rfl];exact hR
  cases x with
  | one i=>
   refine bF h7.boxed bA aH rfl (aK.2 ?_);simp only [show decide ((1:Int)=2)=false from rfl,oV];refine bF h7.boxed bA aH rfl (aK.2 ?_);simp only [show decide ((1:Int)=3)=false from rfl,aW,Bool.false_eq_true,reduceIte,lI,aP];exact nx
  | load r n=>
   refine bF h7.boxed bA aH rfl (aK.2 ?_);simp only [show decide ((4:Int)=2)=false from rfl,oV];refine bF h7.boxed bA aH rfl (aK.2 ?_);simp only [show decide ((4:Int)=3)=false from rfl,aW,Bool.false_eq_true,reduceIte,lI,aP];exact nx
  | place q=>
   have hq:q∈jU l:=List.mem_flatMap.2 ⟨_,hxm,List.mem_singleton.2 rfl⟩;refine bF h7.boxed bA aH rfl (aK.2 ?_);rw [show decide ((2:Int)=2)=true from rfl];refine tI.2 (tI.2 (tI.2 ?_));refine jW ?_;rw [if_pos rfl];exact lbl rfl hq hox (aP.2 nx)
  | jump c q=>
   have hq:q∈jU l:=h.jl q (List.mem_flatMap.2 ⟨_,hxm,List.mem_singleton.2 rfl⟩);refine bF h7.boxed bA aH rfl (aK.2 ?_);simp only [show decide ((3:Int)=2)=false from rfl,oV];refine bF h7.boxed bA aH rfl (aK.2 ?_);rw [show decide ((3:Int)=3)=true from rfl];refine jW ?_;rw [if_neg (by decide)];exact lbl rfl hq hox.1 (aP.2 nx)
end Go.Proofs.YtjcmcfidblhnnaaGreatDoor
namespace Go.Proofs.YtjcmcfidblhnnaaGreatDoor
open Tryz
open Go.Vc
variable {f:List Nat} {applet d:Int} {R k:Nat}
def gZ.size (i:gZ):Nat:=if i.op=43 then 4 else 2
def jN (l:List gZ):Nat:=(l.map gZ.size).sum
def qA (reg u:Int):Nat->List gZ
 | 0=>[]
 | k+1=>⟨1,reg,0,reg,8,0⟩::(if u / 256 ^ k % 256 > 0 then [⟨10,reg,0,0,u / 256 ^ k % 256,0⟩] else [])++qA reg u k
def sC (u:Int):Nat:=if u / 16777216≠0 then 3 else if u / 65536≠0 then 2 else if u / 256≠0 then 1 else 0
def rX (reg n:Int):List gZ:=let u:=n % 4294967296;⟨8,reg,0,0,u / 256 ^ sC u,0⟩::qA reg u (sC u)
def oJ (f:Nat) (a b:Int):List gZ:=[⟨if f > 0 then 43 else 42,0,0,0,b - a - 4,0⟩]
def GS (c:Int):Int:=if c % 2=0 then c+1 else c - 1
def mH (c:Int) (f:Nat) (a b:Int):List gZ:=
 if c=14 then oJ f a b else match f with
  | 0=>[⟨41,0,0,0,b - a - 4,c⟩]
  | g+1=>⟨41,0,0,0,(if g > 0 then 4 else 2) - 2,GS c⟩::oJ g (a+2) b
def tH (c:Int):Nat:=if c=14 then 1 else 2
def cF.size (x:cF) (f:Nat):Nat:=
 match x with
 | .one i=>i.size
 | .place _=>0
 | .jump _ _=>2+2*f
 | .load r n=>jN (rX r n)
def sH (l:List cF) (f:List Nat) (k:Nat):Nat:=((List.zipWith cF.size l f).take k).sum
def xJ (l:List cF) (f:List Nat) (q:Int):Nat->Int
 | 0=>-1
 | k+1=>match l[k]? with
  | some (.place q')=>if q'=q then (sH l f k:Int) else xJ l f q k
  | _=>xJ l f q k
def CY (l:List cF) (f:List Nat) (q:Int):Int:=xJ l f q l.length
def iT (l:List cF) (f:List Nat) (k:Nat):Bool:=
 match l[k]? with
 | some (.jump c q)=>(mH c (f.getD k 0) (sH l f k) (CY l f q)).all cN
 | _=>true
def rF (l:List cF) (f:List Nat):List Nat:=(List.range f.length).map λk=>if iT l f k then f.getD k 0 else f.getD k 0+1
structure zO (l:List cF) (f:List Nat):Prop where
 len:f.length=l.length
 jump:∀ k c q,l[k]?=some (.jump c q)->f.getD k 0<=tH c
 other:∀ k,(∀ c q,l[k]?≠some (.jump c q))->f.getD k 0=0
theorem RI (l:List gZ):jN l % 2=0:=by
 induction l with
 | nil=>rfl
 | cons x l ih=>
  have h:x.size % 2=0:=by unfold gZ.size;split<;>rfl
  unfold jN at *;rw [List.map_cons,List.sum_cons];omega
theorem aAp (x:cF) (f:Nat):x.size f % 2=0:=by
 cases x with
 | one i=>show i.size % 2=0;unfold gZ.size;split<;>rfl
 | place l=>rfl
 | jump c l=>show (2+2*f) % 2=0;omega
 | load r n=>exact RI _
theorem JW:∀ l:List Nat,(∀ x∈l,x % 2=0)->l.sum % 2=0
 | [],_=>rfl
 | x::l,h=>by
  have:=JW l λy hy=>h y (List.mem_cons_of_mem _ hy);have:=h x List.mem_cons_self;rw [List.sum_cons];omega
theorem IF:∀ {l:List cF} {f:List Nat} {y:Nat},y∈List.zipWith cF.size l f->∃ x∈l,∃ g∈f,y=cF.size x g
 | [],_,_,h=>by simp at h
 | _::_,[],_,h=>by simp at h
 | x::l,g::f,y,h=>by
  rw [List.zipWith_cons_cons] at h;rcases List.mem_cons.1 h with h|h
  ·exact ⟨x,List.mem_cons_self,g,List.mem_cons_self,h⟩
  ·obtain ⟨x',h1,g',h2,h3⟩:=IF h;exact ⟨x',List.mem_cons_of_mem _ h1,g',List.mem_cons_of_mem _ h2,h3⟩
theorem ML (l:List cF) (f:List Nat) (k:Nat):sH l f k % 2=0:=JW _ λy hy=>by
 obtain ⟨x,_,g,_,rfl⟩:=IF (List.mem_of_mem_take hy);exact aAp x g
theorem CX (r u:Int):∀ k,jN (qA r u k)<=4*k
 | 0=>Nat.le_refl _
 | k+1=>by
  have ih:=CX r u k;unfold qA;split<;>simp [jN,gZ.size] at*<;> omega
theorem LV (u:Int):sC u<=3:=by unfold sC;split;omega;split;omega;split<;>omega
theorem GC (r n:Int):jN (rX r n)<=14:=by
 have h1:=CX r (n % 4294967296) (sC (n % 4294967296));have h2:=LV (n % 4294967296);simp [rX,jN,gZ.size] at *;omega
theorem aFr (c:Int):tH c<=2:=by unfold tH;split<;>omega
theorem zO.le2 {l:List cF} (h:zO l f) (k:Nat):f.getD k 0<=2:=by
 cases hk:l[k]? with
 | none=>rw [h.other k λc q=>(by rw [hk];exact nofun)];omega
 | some x=>
  by_cases hx:∃ c q,x=.jump c q
  ·obtain ⟨c,q,rfl⟩:=hx;exact Nat.le_trans (h.jump k c q hk) (aFr c)
  ·rw [h.other k λc q=>(by rw [hk];intro he;injection he with he;exact hx ⟨c,q,he⟩)];omega
theorem aNz (x:cF) {f:Nat} (h:f<=2):x.size f<=14:=by
 cases x with
 | one i=>show i.size<=14;unfold gZ.size;split<;>omega
 | place l=>exact Nat.zero_le _
 | jump c l=>show 2+2*f<=14;omega
 | load r n=>exact GC r n
theorem zO.mem2 {l:List cF} (h:zO l f):∀ g∈f,g<=2:=λg hg=>by
 obtain ⟨k,hk,rfl⟩:=List.getElem_of_mem hg;have:=h.le2 k
 rwa [List.getD_eq_getElem?_getD,List.getElem?_eq_getElem hk] at this
theorem JV:∀ l:List Nat,(∀ x∈l,x<=14)->l.sum<=14*l.length
 | [],_=>Nat.le_refl _
 | x::l,h=>by
  have:=JV l λy hy=>h y (List.mem_cons_of_mem _ hy);have:=h x List.mem_cons_self;rw [List.sum_cons,List.length_cons];omega
theorem zO.at_le {l:List cF} (h:zO l f) (k:Nat):sH l f k<=14*l.length:=by
 refine Nat.le_trans (JV _ λy hy=>?_) ?_
 ·obtain ⟨x,_,g,hg,rfl⟩:=IF (List.mem_of_mem_take hy);exact aNz x (h.mem2 g hg)
 ·rw [List.length_take,List.length_zipWith];omega
theorem aGf {l:List cF} (h:zO l f) {q:Int} (hq:q∈jU l):0<=CY l f q/\CY l f q<=14*l.length/\CY l f q % 2=0:=by
 obtain ⟨x,hx,hq⟩:=List.mem_flatMap.1 hq;obtain ⟨k,hk,rfl⟩:=List.getElem_of_mem hx
 have hx:l[k]?=some (.place q):=by
  rw [List.getElem?_eq_getElem hk];cases hc:l[k] with
  | place p=>rw [hc] at hq;simp only [cF.pl,List.mem_singleton] at hq;rw [hq]
  | _=>rw [hc] at hq;cases hq
 have key:∀ j,k < j->0<=xJ l f q j/\xJ l f q j<=14*l.length/\xJ l f q j % 2=0:=λj=>by
  induction j with
  | zero=>omega
  | succ j ih=>
   intro hj;have ha:=h.at_le j;have hb:=ML l f j;unfold xJ;by_cases hjk:k=j
   ·subst hjk;rw [hx];simp only [if_true];omega
   ·have ih:=ih (by omega);split
    ·split
     ·omega
     ·exact ih
    ·exact ih
 exact key _ hk
theorem KG (h0:-16777216<=d) (h1:d<=16777214) (h2:d % 2=0):cN ⟨43,0,0,0,d,0⟩=true:=by
 have:d.tmod 2=0:=Int.tmod_eq_zero_of_dvd (Int.dvd_of_emod_eq_zero h2);simp [cN,h0,h1,this]
theorem aEh {c:Int} (h0:-256<=d) (h1:d<=254) (h2:d % 2=0) (h3:0<=c/\c<=13):cN ⟨41,0,0,0,d,c⟩=true:=by
 have e:d.tmod 2=0:=Int.tmod_eq_zero_of_dvd (Int.dvd_of_emod_eq_zero h2);have hf:cZ 41=some (0xd000,[bI 0 8 (-256) 254 2,⟨4,8,4,0,13,1⟩]):=rfl;unfold cN;rw [if_neg (by dsimp only;decide),if_neg (by dsimp only;decide)];dsimp only;rw [hf];have a0:=bX (sl:=[bI 0 8 (-256) 254 2,⟨4,8,4,0,13,1⟩]) (i:=⟨41,0,0,0,d,c⟩) (k:=0) rfl rfl;have a1:=bX (sl:=[bI 0 8 (-256) 254 2,⟨4,8,4,0,13,1⟩]) (i:=⟨41,0,0,0,d,c⟩) (k:=1) rfl rfl;have a2:=bX (sl:=[bI 0 8 (-256) 254 2,⟨4,8,4,0,13,1⟩]) (i:=⟨41,0,0,0,d,c⟩) (k:=2) rfl rfl;have a3:=dV (sl:=[bI 0 8 (-256) 254 2,⟨4,8,4,0,13,1⟩]) (i:=⟨41,0,0,0,d,c⟩) (k:=3) (s:=bI 0 8 (-256) 254 2) rfl h0 h1 e;have a4:=dV (sl:=[bI 0 8 (-256) 254 2,⟨4,8,4,0,13,1⟩]) (i:=⟨41,0,0,0,d,c⟩) (k:=4) (s:=⟨4,8,4,0,13,1⟩) rfl h3.1 h3.2 (Int.tmod_one _);dsimp only;rw [a0,a1,a2,a3,a4];rfl
theorem RN {l:List cF} (hl:tL l) (h:zO l f) {c q:Int} (hk:l[k]?=some (.jump c q)) (hf:f.getD k 0=tH c):iT l f k=true:=by
 have h1:=h.at_le k;have h2:=ML l f k;have hm:cF.jump c q∈l:=List.mem_of_getElem? hk;have hq:q∈sT l:=List.mem_flatMap.2 ⟨_,hm,List.mem_singleton.2 rfl⟩;obtain ⟨h3,h4,h5⟩:=aGf h (hl.jl q hq);have h6:=hl.len;obtain ⟨-,hc0,hc1⟩:cF.okI (.jump c q):=hl.ok _ hm;unfold iT;rw [hk];dsimp only;rw [hf];unfold mH tH;by_cases hc:c=14
 ·simp only [hc,if_true];simp only [oJ,List.all_cons,List.all_nil,Bool.and_true];exact KG (by omega) (by omega) (by omega)
 ·simp only [hc,if_false,oJ,List.all_cons,List.all_nil,Bool.and_true,Bool.and_eq_true];refine ⟨aEh (by simp) (by simp) (by simp) ?_,KG (by omega) (by omega) (by omega)⟩;unfold GS;split<;>omega
theorem mT (l:List cF) (f:List Nat):(rF l f).length=f.length:=by simp [rF]
theorem oT (l:List cF) (f:List Nat) (hk:k < f.length):(rF l f).getD k 0=if iT l f k then f.getD k 0 else f.getD k 0+1:=by
 rw [List.getD_eq_getElem?_getD,rF,List.getElem?_map,List.getElem?_range hk];rfl
theorem zO.grow {l:List cF} (hl:tL l) (h:zO l f):zO l (rF l f):=by
 refine ⟨by rw [mT,h.len],λk c q hk=>?_,λk hk=>?_⟩
 ·have hlt:k < f.length:=by rw [h.len];exact (List.getElem?_eq_some_iff.1 hk).1
  rw [oT l f hlt];have h1:=h.jump k c q hk;split
  ·exact h1
  ·rename_i hr
   by_cases he:f.getD k 0=tH c
   ·exact absurd (RN hl h hk he) hr
   ·omega
 ·by_cases hlt:k < f.length
  ·rw [oT l f hlt]
   have h1:iT l f k=true:=by
    unfold iT;split
    ·rename_i c q he;exact absurd he (hk c q)
    ·rfl
   rw [h1,if_pos rfl];exact h.other k hk
  ·rw [List.getD_eq_getElem?_getD,List.getElem?_eq_none (by rw [mT];omega)];rfl
def LD (f:List Nat):Nat:=(f.map λg=>3 - g).sum
theorem HQ:∀ (a b:List Nat),a.length=b.length->(∀ k,a.getD k 0<=b.getD k 0)->(∃ k,k < a.length/\a.getD k 0 < b.getD k 0)->a.sum < b.sum
 | [],[],_,_,h=>by obtain ⟨k,h,_⟩:=h;cases h
 | [],_::_,h,_,_=>by cases h
 | _::_,[],h,_,_=>by cases h
 | x::a,y::b,hl,hle,⟨k,hk,hlt⟩=>by
  have h0:x<=y:=hle 0;rw [List.sum_cons,List.sum_cons];have hl':a.length=b.length:=by simpa using hl
  have hle':∀ k,a.getD k 0<=b.getD k 0:=λk=>hle (k+1)
  have sle:∀ (a b:List Nat),a.length=b.length->(∀ k,a.getD k 0<=b.getD k 0)->a.sum<=b.sum:=λa=>by
   induction a with
   | nil=>intro b _ _;exact Nat.zero_le _
   | cons x a ih=>
    intro b hb hh;cases b with
    | nil=>cases hb
    | cons y b=>
     have:=ih b (by simpa using hb) λk=>hh (k+1);have:x<=y:=hh 0;rw [List.sum_cons,List.sum_cons];omega
  cases k with
  | zero=>
   have h1:x < y:=hlt;have:=sle a b hl' hle';omega
  | succ k=>
   have:=HQ a b hl' hle' ⟨k,by simpa using hk,hlt⟩;omega
theorem aGb {l:List cF} (hl:tL l) (h:zO l f) (hg:∃ k,k < l.length/\iT l f k=false):LD (rF l f) < LD f:=by
 have get:∀ (f:List Nat) k,k < f.length->(f.map λg=>3 - g).getD k 0=3 - f.getD k 0:=λf k hk=>by
  rw [List.getD_eq_getElem?_getD,List.getElem?_map,List.getD_eq_getElem?_getD,List.getElem?_eq_getElem hk];rfl
 refine HQ _ _ (by simp [mT]) (λk=>?_) ?_
 ·by_cases hk:k < f.length
  ·rw [get _ k (by rw [mT];exact hk),get f k hk,oT l f hk];split<;>omega
  ·rw [List.getD_eq_getElem?_getD,List.getElem?_eq_none (by simp [mT];omega)];exact Nat.zero_le _
 ·obtain ⟨k,hk,hr⟩:=hg;rw [<- h.len] at hk;refine ⟨k,by simpa [mT] using hk,?_⟩;rw [get _ k (by rw [mT];exact hk),get f k hk,oT l f hk,hr];have:=(h.grow hl).le2 k;rw [oT l f hk,hr] at this;simp only [Bool.false_eq_true,if_false] at *;omega
def cF.top:cF->Nat
 | .one _=>2
 | .place _=>0
 | .jump _ _=>6
 | .load _ _=>14
def nS (l:List cF):Nat:=(l.map cF.top).sum
theorem pK (a b:List cF):nS (a++b)=nS a+nS b:=by unfold nS;rw [List.map_append,List.sum_append]
theorem yR (x:cF) (l:List cF):nS (x::l)=x.top+nS l:=by unfold nS;rw [List.map_cons,List.sum_cons]
theorem aFi {i:gZ} (h:i.okT):i.size=2:=by
 unfold gZ.size;rw [if_neg];rcases h with h|h|h|h|h|h|h<;>omega
theorem aOs {x:cF} {f:Nat} (h:x.okI) (hf:f<=2):x.size f<=x.top:=by
 cases x with
 | one i=>exact Nat.le_of_eq (aFi h)
 | place l=>exact Nat.le_refl _
 | jump c l=>show 2+2*f<=6;omega
 | load r n=>exact GC r n
theorem UC:∀ (l:List cF) (f:List Nat),(∀ x∈l,x.okI)->(∀ g∈f,g<=2)->∀ k,((List.zipWith cF.size l f).take k).sum<=nS l
 | _,_,_,_,0=>by rw [List.take_zero];exact Nat.zero_le _
 | [],_,_,_,k+1=>by simp
 | _::_,[],_,_,k+1=>by simp
 | x::l,g::f,h,hf,k+1=>by
  have ih:=UC l f (λy hy=>h y (List.mem_cons_of_mem _ hy)) (λy hy=>hf y (List.mem_cons_of_mem _ hy)) k;have:=aOs (h x List.mem_cons_self) (hf g List.mem_cons_self);rw [List.zipWith_cons_cons,List.take_succ_cons,List.sum_cons,yR];omega
theorem zO.at_top {l:List cF} (hl:tL l) (h:zO l f) (k:Nat):sH l f k<=nS l:=UC l f hl.ok h.mem2 k
theorem BU:∀ l:List cF,(∀ x∈l,∃ i,x=.one i)->nS l=2*l.length
 | [],_=>rfl
 | x::l,h=>by
  have ih:=BU l λy hy=>h y (List.mem_cons_of_mem _ hy);obtain ⟨i,rfl⟩:=h x List.mem_cons_self;rw [yR,ih,List.length_cons];show 2+_=_;omega
theorem aPx (of:List Int) (reg r:Int):∃ i,eLd of reg r=.one i:=by unfold eLd;by_cases h:of.getD r.toNat 0 < 16<;>simp only [h,if_true,if_false]<;>exact ⟨_,rfl⟩
theorem WL (of:List Int) (r reg:Int):∃ i,eSt of r reg=.one i:=by unfold eSt;by_cases h:of.getD r.toNat 0 < 16<;>simp only [h,if_true,if_false]<;>exact ⟨_,rfl⟩
theorem aHo (of:List Int) (l:List Int):nS (jG of l)=2*l.length:=by
 rw [BU]
 ·simp [jG]
 ·intro x hx;simp only [jG,List.mem_map] at hx;obtain ⟨k,-,rfl⟩:=hx;exact aPx _ _ _
theorem aHq (of:List Int) (n:aJ):nS (uV of n)<=2:=by
 unfold uV;split
 ·obtain ⟨i,h⟩:=WL of n.df 0;rw [h];exact Nat.le_refl _
 ·exact Nat.zero_le _
theorem aHs (op:Int):nS (oI op)<=24:=by
 unfold oI
 repeat' split
 all_goals simp [nS,cF.top,iB,oW,iW,qW,qX,lB]
theorem aPw (op:Int):nS (eUn op)<=6:=by
 unfold eUn
 repeat' split
 all_goals simp [nS,cF.top,iB,iW,qW,qX]
theorem aCf {of:List Int} {N tl:Nat} {n:aJ} (hn:pC n k R N):nS (oM of N applet tl n k)<=36:=by
 have h5:=hn.us5;have hl:=aHo of n.us;have hd:=aHq of n;unfold oM;rw [pK];have hc:nS kL=10:=rfl;have ht:∀ l,nS (mL l)=12:=λ_=>rfl;cases n with
 | bin op d a b=>
  have hb:=aHs op;have hu:(aJ.bin op d a b).us.length=2:=rfl;dsimp only;rw [pK];omega
 | un op d a=>have hb:=aPw op;dsimp only;rw [pK];omega
 | choose d c a b=>dsimp only;rw [pK,hc];omega
 | tick=>dsimp only;rw [ht];omega
 | const d v=>have e:nS [cF.load 0 v]=14:=rfl;dsimp only;rw [e];omega
 | goto t=>have e:nS [cF.jump 14 t]=6:=rfl;dsimp only;rw [e];omega
 | branch c t=>have e:nS [iW 9 0 0,.jump 1 t]=8:=rfl;dsimp only;rw [pK,e];omega
 | getField d f=>have e:nS [tA applet,.one ⟨31,0,1,0,4*f,0⟩]=16:=rfl;dsimp only;rw [e];omega
 | putField f s=>have e:nS [tA applet,.one ⟨32,0,1,0,4*f,0⟩]=16:=rfl;dsimp only;rw [pK,e];omega
 | _=>first
  | (dsimp only;omega)
  | (have e:nS [cF.one ⟨44,0,0,0,(tl:Int)+1,0⟩]=2:=rfl;dsimp only;rw [pK,e];omega)
theorem zG {p:eY} {of:List Int} {R N:Nat} {applet:Int} (hv:kJ p) (hR:p.regs=R) (hN:p.nodes.length=N):∀ k,k<=N->nS (fW p of applet k).1<=8+36*k
 | 0,_=>by
  have hp1:=hv.p1;have hp2:=hv.p2;have hp3:=hv.p3;rw [BU]
  ·simp [fW];omega
  ·intro x hx;simp only [fW,List.mem_map] at hx;obtain ⟨k,-,rfl⟩:=hx;exact WL _ _ _
 | k+1,hk=>by
  have ih:=zG (of:=of) (applet:=applet) hv hR hN k (by omega);obtain ⟨hpk,hrk⟩:=hv.at (k:=k) (by omega);rw [hR,hN] at hrk;have hn:=aCf (of:=of) (applet:=applet) (tl:=(fW p of applet k).2.length) hrk;have e1:(fW p of applet (k+1)).1=(fW p of applet k).1++.place k::oM of N applet (fW p of applet k).2.length (p.at' k) k:=by rw [<- hN];rfl
  rw [e1,pK,yR];show _+(0+_)<=_;omega
theorem aCd {p:eY} {of:List Int} (hv:kJ p) (hR:p.regs=R):nS (mK p of applet)<=16384:=by
 have:=zG (of:=of) (applet:=applet) hv hR rfl p.nodes.length (Nat.le_refl _);have:=hv.l2;unfold mK;omega
end Go.Proofs.YtjcmcfidblhnnaaGreatDoor
namespace Go.Proofs.YtjcmcfidblhnnaaGreatDoor
open Tryz
open Go.Vc Go.Tc
theorem GE (i:gN) (m:jH) (st:Go.Tc.St) (r:List Bool):∀ k,(bH i m st r k).1.length<=m.locals.length+2*k
 | 0=>by simp [bH]
 | k+1=>by
  have ih:=GE i m st r k;unfold bH;dsimp only;split
  ·have:(jD i m (m.ins k) (st.s k).length).toList.length<=1:=by cases jD i m (m.ins k) (st.s k).length<;>simp
   rw [List.length_append,List.length_cons];omega
  ·exact Nat.le_trans ih (by omega)
theorem aBp (i:gN) (m:jH) (st:Go.Tc.St) (r:List Bool):(nE i m st r).length<=m.locals.length+2*m.code.length:=by
 have:=GE i m st r m.code.length;unfold nE;dsimp only;rw [List.length_map];exact this
theorem aBo {p:eY} {of:List Int} {R L C:Nat} {applet:Int} (hv:kJ p) (hR:p.regs=R) (hl:p.nodes.length<=L+2*C) (hL:L<=10):nS (mK p of applet)+4<=512+96*C:=by
 have:=zG (of:=of) (applet:=applet) hv hR rfl p.nodes.length (Nat.le_refl _);unfold mK;omega
end Go.Proofs.YtjcmcfidblhnnaaGreatDoor
namespace Go.Proofs.YtjcmcfidblhnnaaGreatDoor
open Tryz
open Go.Vc
variable {r:Int × List jL} {d n:Int} {a f k:Nat}
def gZ.set (i:gZ) (k v:Int):gZ:=if k=0 then { i with d:=v } else if k=1 then { i with n:=v } else if k=2 then { i with m:=v } else if k=3 then { i with imm:=v } else { i with cond:=v }
def RS (h:Nat) (s:jL) (n:Int):Nat:=h ||| (((n.tdiv s.step) % ((2 ^ s.bits.toNat:Nat):Int)).toNat <<< s.shift.toNat)
def AO (r:Int × List jL) (i:gZ):Nat:=r.2.foldl (λh s=>RS h s (i.part s.part)) r.1.toNat
def aYp (s:jL):Nat:=(2 ^ s.bits.toNat - 1) <<< s.shift.toNat
def aEm (h:Nat) (x:gZ × Nat) (s:jL):gZ × Nat:=
 let n:Int:=(((h &&& aYp s) >>> s.shift.toNat:Nat):Int)*s.step
 let g:Int:=s.step*((2 ^ s.bits.toNat:Nat):Int)
 (x.1.set s.part (if n > s.most then n - g else if n < s.least then n+g else n),x.2 &&& (65535 - aYp s))
def bJq (h:Nat):Int:=if h >>> 7=0xb000 >>> 7 then 37 else if h >>> 7=0xb080 >>> 7 then 38 else if h >>> 9=0xb400 >>> 9 then 39 else if h >>> 9=0xbc00 >>> 9 then 40 else 45
def opN (h:Nat):Int:=
 let f:=h >>> 11
 if f<=2 then 1+f else if f=3 then 4+((h >>> 9 &&& 3:Nat):Int) else if f<=7 then 8+((f:Int) - 4) else if f=8 then 12+((h >>> 6 &&& 15:Nat):Int)
 else if f=10 then 30 else if f=11 then 29 else if f=12 then 32 else if f=13 then 31 else if f=14 then 34 else if f=15 then 33 else if f=18 then 36 else if f=19 then 35
 else if f=22\/f=23 then bJq h else if f=26\/f=27 then (if h >>> 8=0xdf then 44 else 41) else if f=28 then 42 else 0
def gZ.eqB (a b:gZ):Bool:=decide (a.op=b.op)&&decide (a.d=b.d)&&decide (a.n=b.n)&&decide (a.m=b.m)&&decide (a.imm=b.imm)&&decide (a.cond=b.cond)
theorem gZ.of_eqB {a b:gZ} (h:a.eqB b=true):a=b:=by
 obtain ⟨a1,a2,a3,a4,a5,a6⟩:=a;obtain ⟨b1,b2,b3,b4,b5,b6⟩:=b;simp only [gZ.eqB,Bool.and_eq_true,decide_eq_true_eq] at h;obtain ⟨⟨⟨⟨⟨h1,h2⟩,h3⟩,h4⟩,h5⟩,h6⟩:=h;rw [h1,h2,h3,h4,h5,h6]
def uD (r:Int × List jL) (i:gZ):Bool:=
 let h:=AO r i
 let x:=r.2.foldl (aEm h) (⟨i.op,0,0,0,0,0⟩,h)
 decide (h < 65536)&&decide (h >>> 11≠30)&&decide (h >>> 8≠70)&&decide (opN h=i.op)&&decide (x.2=r.1.toNat)&&x.1.eqB i
structure bGi (r:Int × List jL) (i:gZ):Prop where
 lt:AO r i < 65536
 bl:AO r i >>> 11≠30
 mov:AO r i >>> 8≠70
 op:opN (AO r i)=i.op
 read:r.2.foldl (aEm (AO r i)) (⟨i.op,0,0,0,0,0⟩,AO r i)=(i,r.1.toNat)
theorem bGi.of {i:gZ} (h:uD r i=true):bGi r i:=by
 simp only [uD,Bool.and_eq_true,decide_eq_true_eq] at h;obtain ⟨⟨⟨⟨⟨h1,h2⟩,h3⟩,h4⟩,h5⟩,h6⟩:=h;exact ⟨h1,h2,h3,h4,Prod.ext (gZ.of_eqB h6) h5⟩
def FC (n:Nat) (f:Nat->Bool):Bool:=(List.range n).all f
def zL (n m:Nat) (f:Nat->Nat->Bool):Bool:=FC n λa=>FC m (f a)
theorem nY {n:Nat} {f:Nat->Bool} (h:FC n f=true) (hk:k < n):f k=true:=List.all_eq_true.1 h k (List.mem_range.2 hk)
theorem jQ {n m:Nat} {f:Nat->Nat->Bool} (h:zL n m f=true) {b:Nat} (ha:a < n) (hb:b < m):f a b=true:=nY (nY h ha) hb
theorem c4:(zL 8 8 λa b=>zL 2 8 λo c=>uD (0x1800+512*(o:Int),[aT 0 0,aT 1 3,aT 2 6]) ⟨4+o,a,b,c,0,0⟩)=true:=by kernel_rfl
theorem c8:(zL 4 8 λo a=>FC 256 λb=>uD (0x2000+o*2048,[aT 0 8,bI 0 8 0 255 1]) ⟨8+o,a,0,0,b,0⟩)=true:=by kernel_rfl
theorem c12:(zL 8 8 λa b=>FC 16 λo=>uD (0x4000+o*64,[aT 0 0,aT 2 3]) ⟨12+o,a,0,b,0,0⟩)=true:=by kernel_rfl
theorem c31:(zL 8 8 λa b=>zL 2 32 λo c=>uD (0x6800 - 0x800*(o:Int),[aT 0 0,aT 1 3,bI 6 5 0 124 4]) ⟨31+o,a,b,0,4*c,0⟩)=true:=by kernel_rfl
theorem c35:(zL 8 256 λa c=>FC 2 λo=>uD (0x9800 - 0x800*(o:Int),[aT 0 8,bI 0 8 0 1020 4]) ⟨35+o,a,0,0,4*c,0⟩)=true:=by kernel_rfl
theorem c44:(FC 256 λc=>uD (0xdf00,[bI 0 8 0 255 1]) ⟨44,0,0,0,c,0⟩)=true:=by kernel_rfl
theorem c1:(zL 8 8 λa b=>FC 32 λc=>uD (0,[aT 0 0,aT 2 3,bI 6 5 0 31 1]) ⟨1,a,0,b,c,0⟩)=true:=by kernel_rfl
theorem c41:(zL 256 14 λa c=>uD (0xd000,[bI 0 8 (-256) 254 2,⟨4,8,4,0,13,1⟩]) ⟨41,0,0,0,2*(a:Int) - 256,c⟩)=true:=by kernel_rfl
theorem c42:(FC 2048 λa=>uD (0xe000,[bI 0 11 (-2048) 2046 2]) ⟨42,0,0,0,2*(a:Int) - 2048,0⟩)=true:=by kernel_rfl
theorem jP {sl:List jL} {i:gZ} {k:Int} {s:jL} (h:jK sl i k=true) (hf:sl.find? (λs=>decide (s.part=k))=some s):s.least<=i.part k/\i.part k<=s.most/\(i.part k).tmod s.step=0:=by
 unfold jK at h;rw [hf] at h;simpa [and_assoc] using h
theorem fR {sl:List jL} {i:gZ} {k:Int} (h:jK sl i k=true) (hf:sl.find? (λs=>decide (s.part=k))=none):i.part k=0:=by
 unfold jK at h;rw [hf] at h;simpa using h
theorem kC {i:gZ} (h:cN i=true) (hf:cZ i.op=some r) (h1:i.op≠28) (h2:i.op≠43):jK r.2 i 0=true/\jK r.2 i 1=true/\jK r.2 i 2=true/\jK r.2 i 3=true/\jK r.2 i 4=true:=by
 unfold cN at h;rw [if_neg h1,if_neg h2,hf] at h;simpa [and_assoc] using h
theorem kG {a:Int} (h:0<=a):∃ k:Nat,a=k:=⟨a.toNat,by omega⟩
def uI (op:Int):Prop:=op=1\/op=4\/op=5\/(8<=op/\op<=27)\/op=31\/op=32\/op=35\/op=36\/op=41\/op=42\/op=44
theorem WZ {i:gZ} (h:cN i=true) (ho:uI i.op):∃ r,cZ i.op=some r/\bGi r i:=by
 obtain ⟨op,d,n,m,imm,cond⟩:=i;dsimp only at ho ⊢
 have three:∀ b sl,cZ op=some (b,sl)->sl=[aT 0 0,aT 1 3,aT 2 6]->op≠28->op≠43->∃ a1 a2 a3:Nat,(a1 < 8/\a2 < 8/\a3 < 8)/\d=a1/\n=a2/\m=a3/\imm=0/\cond=0:=λb sl hf hs e1 e2=>by
  subst hs;obtain ⟨p0,p1,p2,p3,p4⟩:=kC h hf e1 e2;have q0:0<=d/\d<=7/\d.tmod 1=0:=jP p0 (s:=aT 0 0) rfl;have q1:0<=n/\n<=7/\n.tmod 1=0:=jP p1 (s:=aT 1 3) rfl;have q2:0<=m/\m<=7/\m.tmod 1=0:=jP p2 (s:=aT 2 6) rfl;have q3:imm=0:=fR p3 rfl;have q4:cond=0:=fR p4 rfl;obtain ⟨a1,rfl⟩:=kG q0.1;obtain ⟨a2,rfl⟩:=kG q1.1;obtain ⟨a3,rfl⟩:=kG q2.1;exact ⟨a1,a2,a3,⟨by omega,by omega,by omega⟩,rfl,rfl,rfl,q3,q4⟩
 have mem:∀ b sl,cZ op=some (b,sl)->sl=[aT 0 0,aT 1 3,bI 6 5 0 124 4]->op≠28->op≠43->∃ a1 a2 a3:Nat,(a1 < 8/\a2 < 8/\a3 < 32)/\d=a1/\n=a2/\m=0/\imm=4*(a3:Int)/\cond=0:=λb sl hf hs e1 e2=>by
  subst hs;obtain ⟨p0,p1,p2,p3,p4⟩:=kC h hf e1 e2;have q0:0<=d/\d<=7/\d.tmod 1=0:=jP p0 (s:=aT 0 0) rfl;have q1:0<=n/\n<=7/\n.tmod 1=0:=jP p1 (s:=aT 1 3) rfl;have q3:0<=imm/\imm<=124/\imm.tmod 4=0:=jP p3 (s:=bI 6 5 0 124 4) rfl;have q2:m=0:=fR p2 rfl;have q4:cond=0:=fR p4 rfl;obtain ⟨a1,rfl⟩:=kG q0.1;obtain ⟨a2,rfl⟩:=kG q1.1;have hm:=Int.dvd_of_tmod_eq_zero q3.2.2;exact ⟨a1,a2,(imm / 4).toNat,⟨by omega,by omega,by omega⟩,rfl,rfl,q2,by omega,q4⟩
 have stk:∀ b sl,cZ op=some (b,sl)->sl=[aT 0 8,bI 0 8 0 1020 4]->op≠28->op≠43->∃ a1 a3:Nat,(a1 < 8/\a3 < 256)/\d=a1/\n=0/\m=0/\imm=4*(a3:Int)/\cond=0:=λb sl hf hs e1 e2=>by
  subst hs;obtain ⟨p0,p1,p2,p3,p4⟩:=kC h hf e1 e2;have q0:0<=d/\d<=7/\d.tmod 1=0:=jP p0 (s:=aT 0 8) rfl;have q3:0<=imm/\imm<=1020/\imm.tmod 4=0:=jP p3 (s:=bI 0 8 0 1020 4) rfl;have q1:n=0:=fR p1 rfl;have q2:m=0:=fR p2 rfl;have q4:cond=0:=fR p4 rfl;obtain ⟨a1,rfl⟩:=kG q0.1;have hm:=Int.dvd_of_tmod_eq_zero q3.2.2;exact ⟨a1,(imm / 4).toNat,⟨by omega,by omega⟩,rfl,q1,q2,by omega,q4⟩
 rcases ho with rfl|rfl|rfl|⟨g1,g2⟩|rfl|rfl|rfl|rfl|rfl|rfl|rfl
 ·have hf:cZ 1=some (0,[aT 0 0,aT 2 3,bI 6 5 0 31 1]):=rfl;refine ⟨_,hf,?_⟩;obtain ⟨p0,p1,p2,p3,p4⟩:=kC h hf (by dsimp only;decide) (by dsimp only;decide);have q0:0<=d/\d<=7/\d.tmod 1=0:=jP p0 (s:=aT 0 0) rfl;have q2:0<=m/\m<=7/\m.tmod 1=0:=jP p2 (s:=aT 2 3) rfl;have q3:0<=imm/\imm<=31/\imm.tmod 1=0:=jP p3 (s:=bI 6 5 0 31 1) rfl;have q1:n=0:=fR p1 rfl;have q4:cond=0:=fR p4 rfl;obtain ⟨a1,rfl⟩:=kG q0.1;obtain ⟨a2,rfl⟩:=kG q2.1;obtain ⟨a3,rfl⟩:=kG q3.1;subst q1 q4;exact .of (nY (jQ c1 (a:=a1) (b:=a2) (by omega) (by omega)) (k:=a3) (by omega))
 ·obtain ⟨a1,a2,a3,⟨k1,k2,k3⟩,rfl,rfl,rfl,rfl,rfl⟩:=three _ _ rfl rfl (by decide) (by decide);exact ⟨_,rfl,.of (jQ (jQ c4 k1 k2) (a:=0) (b:=a3) (by decide) k3)⟩
 ·obtain ⟨a1,a2,a3,⟨k1,k2,k3⟩,rfl,rfl,rfl,rfl,rfl⟩:=three _ _ rfl rfl (by decide) (by decide);exact ⟨_,rfl,.of (jQ (jQ c4 k1 k2) (a:=1) (b:=a3) (by decide) k3)⟩
 ·by_cases g3:op<=11
  ·have hf:cZ op=some (0x2000+(op - 8)*2048,[aT 0 8,bI 0 8 0 255 1]):=by unfold cZ;rw [if_neg (by omega),if_pos ⟨g1,g3⟩]
   refine ⟨_,hf,?_⟩;obtain ⟨p0,p1,p2,p3,p4⟩:=kC h hf (by dsimp only;omega) (by dsimp only;omega);have q0:0<=d/\d<=7/\d.tmod 1=0:=jP p0 (s:=aT 0 8) rfl;have q3:0<=imm/\imm<=255/\imm.tmod 1=0:=jP p3 (s:=bI 0 8 0 255 1) rfl;have q1:n=0:=fR p1 rfl;have q2:m=0:=fR p2 rfl;have q4:cond=0:=fR p4 rfl;obtain ⟨a1,rfl⟩:=kG q0.1;obtain ⟨a3,rfl⟩:=kG q3.1;subst q1 q2 q4;obtain ⟨o,rfl⟩:∃ o:Nat,op=8+o:=⟨(op - 8).toNat,by omega⟩;have:=nY (jQ c8 (a:=o) (b:=a1) (by omega) (by omega)) (k:=a3) (by omega);rw [show (8+(o:Int) - 8)=o from by omega];exact .of this
  ·have hf:cZ op=some (0x4000+(op - 12)*64,[aT 0 0,aT 2 3]):=by unfold cZ;rw [if_pos ⟨by omega,g2⟩]
   refine ⟨_,hf,?_⟩;by_cases g4:op=28
   ·omega
   obtain ⟨p0,p1,p2,p3,p4⟩:=kC h hf g4 (by dsimp only;omega);have q0:0<=d/\d<=7/\d.tmod 1=0:=jP p0 (s:=aT 0 0) rfl;have q2:0<=m/\m<=7/\m.tmod 1=0:=jP p2 (s:=aT 2 3) rfl;have q1:n=0:=fR p1 rfl;have q3:imm=0:=fR p3 rfl;have q4:cond=0:=fR p4 rfl;obtain ⟨a1,rfl⟩:=kG q0.1;obtain ⟨a2,rfl⟩:=kG q2.1;subst q1 q3 q4;obtain ⟨o,rfl⟩:∃ o:Nat,op=12+o:=⟨(op - 12).toNat,by omega⟩;have:=nY (jQ c12 (a:=a1) (b:=a2) (by omega) (by omega)) (k:=o) (by omega);rw [show (12+(o:Int) - 12)=o from by omega];exact .of this
 ·obtain ⟨a1,a2,a3,⟨k1,k2,k3⟩,rfl,rfl,rfl,rfl,rfl⟩:=mem _ _ rfl rfl (by decide) (by decide);exact ⟨_,rfl,.of (jQ (jQ c31 k1 k2) (a:=0) (b:=a3) (by decide) k3)⟩
 ·obtain ⟨a1,a2,a3,⟨k1,k2,k3⟩,rfl,rfl,rfl,rfl,rfl⟩:=mem _ _ rfl rfl (by decide) (by decide);exact ⟨_,rfl,.of (jQ (jQ c31 k1 k2) (a:=1) (b:=a3) (by decide) k3)⟩
 ·obtain ⟨a1,a3,⟨k1,k3⟩,rfl,rfl,rfl,rfl,rfl⟩:=stk _ _ rfl rfl (by decide) (by decide);exact ⟨_,rfl,.of (nY (jQ c35 k1 k3) (k:=0) (by decide))⟩
 ·obtain ⟨a1,a3,⟨k1,k3⟩,rfl,rfl,rfl,rfl,rfl⟩:=stk _ _ rfl rfl (by decide) (by decide);exact ⟨_,rfl,.of (nY (jQ c35 k1 k3) (k:=1) (by decide))⟩
 ·have hf:cZ 41=some (0xd000,[bI 0 8 (-256) 254 2,⟨4,8,4,0,13,1⟩]):=rfl;refine ⟨_,hf,?_⟩;obtain ⟨p0,p1,p2,p3,p4⟩:=kC h hf (by dsimp only;decide) (by dsimp only;decide);have q3:(-256)<=imm/\imm<=254/\imm.tmod 2=0:=jP p3 (s:=bI 0 8 (-256) 254 2) rfl;have q4:0<=cond/\cond<=13/\cond.tmod 1=0:=jP p4 (s:=⟨4,8,4,0,13,1⟩) rfl;have q0:d=0:=fR p0 rfl;have q1:n=0:=fR p1 rfl;have q2:m=0:=fR p2 rfl;subst q0 q1 q2;obtain ⟨a4,rfl⟩:=kG q4.1;have hm:=Int.dvd_of_tmod_eq_zero q3.2.2;obtain ⟨a3,rfl⟩:∃ a:Nat,imm=2*(a:Int) - 256:=⟨((imm+256) / 2).toNat,by omega⟩;exact .of (jQ c41 (a:=a3) (b:=a4) (by omega) (by omega))
 ·have hf:cZ 42=some (0xe000,[bI 0 11 (-2048) 2046 2]):=rfl;refine ⟨_,hf,?_⟩;obtain ⟨p0,p1,p2,p3,p4⟩:=kC h hf (by dsimp only;decide) (by dsimp only;decide);have q3:(-2048)<=imm/\imm<=2046/\imm.tmod 2=0:=jP p3 (s:=bI 0 11 (-2048) 2046 2) rfl;have q0:d=0:=fR p0 rfl;have q1:n=0:=fR p1 rfl;have q2:m=0:=fR p2 rfl;have q4:cond=0:=fR p4 rfl;subst q0 q1 q2 q4;have hm:=Int.dvd_of_tmod_eq_zero q3.2.2;obtain ⟨a3,rfl⟩:∃ a:Nat,imm=2*(a:Int) - 2048:=⟨((imm+2048) / 2).toNat,by omega⟩;exact .of (nY c42 (k:=a3) (by omega))
 ·have hf:cZ 44=some (0xdf00,[bI 0 8 0 255 1]):=rfl;refine ⟨_,hf,?_⟩;obtain ⟨p0,p1,p2,p3,p4⟩:=kC h hf (by dsimp only;decide) (by dsimp only;decide);have q3:0<=imm/\imm<=255/\imm.tmod 1=0:=jP p3 (s:=bI 0 8 0 255 1) rfl;have q0:d=0:=fR p0 rfl;have q1:n=0:=fR p1 rfl;have q2:m=0:=fR p2 rfl;have q4:cond=0:=fR p4 rfl;subst q0 q1 q2 q4;obtain ⟨a3,rfl⟩:=kG q3.1;exact .of (nY c44 (k:=a3) (by omega))
def RY (d m:Int):Nat:=0x4600 ||| (d.toNat >>> 3 <<< 7) ||| (m.toNat <<< 3) ||| (d.toNat &&& 7)
def bAp (d m:Nat):Bool:=
 let h:=RY d m
 decide (h < 65536)&&decide (h >>> 11≠30)&&decide (h >>> 8=70)&&decide (((h >>> 7 &&& 1) <<< 3 ||| (h &&& 7))=d)&&decide ((h >>> 3 &&& 15)=m)
theorem c28:zL 15 15 bAp=true:=by kernel_rfl
def cF.codeK (x:cF) (f:Nat) (a:Int) (b:Int->Int):List gZ:=
 match x with
 | .one i=>[i]
 | .place _=>[]
 | .jump c q=>mH c f a (b q)
 | .load r n=>rX r n
def oK (l:List cF) (f:List Nat):Nat->List gZ
 | 0=>[]
 | k+1=>oK l f k++match l[k]? with
  | some x=>x.codeK (f.getD k 0) (sH l f k) (CY l f)
  | none=>[]
theorem FL (a b:List gZ):jN (a++b)=jN a+jN b:=by unfold jN;rw [List.map_append,List.sum_append]
theorem ED (f:Nat) (a b:Int):jN (oJ f a b)=if f > 0 then 4 else 2:=by
 unfold oJ jN gZ.size;by_cases h:f > 0<;>simp [h]
theorem SI {c:Int} (h:f<=tH c) (a b:Int):jN (mH c f a b)=2+2*f:=by
 unfold tH at h;unfold mH;by_cases hc:c=14
 ·rw [if_pos hc] at h;rw [if_pos hc,ED];split<;>omega
 ·rw [if_neg hc] at h;rw [if_neg hc];cases f with
  | zero=>rfl
  | succ g=>
   dsimp only;rw [show ∀ x:gZ,x::oJ g (a+2) b=[x]++oJ g (a+2) b from λ_=>rfl,FL,ED];simp only [jN,List.map_cons,List.map_nil,List.sum_cons,List.sum_nil,gZ.size];by_cases hg:g > 0
   ·have:g=1:=by omega
    subst this;rfl
   ·have:g=0:=by omega
    subst this;rfl
theorem TI {x:cF} (h:∀ c q,x=.jump c q->f<=tH c) (a:Int) (b:Int->Int):jN (x.codeK f a b)=x.size f:=by
 cases x with
 | one i=>show jN [i]=i.size;simp [jN]
 | place l=>rfl
 | jump c q=>exact SI (h c q rfl) _ _
 | load r n=>rfl
theorem yB {l:List cF} {f:List Nat} (hf:f.length=l.length) {x:cF} (hx:l[k]?=some x):sH l f (k+1)=sH l f k+x.size (f.getD k 0):=by
 have hk:k < l.length:=(List.getElem?_eq_some_iff.1 hx).1;unfold sH;rw [List.take_add_one,List.sum_append]
 congr 1
 rw [List.getElem?_zipWith,hx,List.getD_eq_getElem?_getD,List.getElem?_eq_getElem (by omega:k < f.length)];simp
theorem GX {l:List cF} {f:List Nat} (h:zO l f):∀ k,k<=l.length->jN (oK l f k)=sH l f k
 | 0,_=>by simp [oK,sH,jN]
 | k+1,hk=>by
  have ih:=GX h k (by omega);have hx:l[k]?=some l[k]:=List.getElem?_eq_getElem (by omega);unfold oK;rw [FL,ih,hx,yB h.len hx];dsimp only;rw [TI];intro c q he;exact h.jump k c q (by rw [hx,he])
theorem CG {op:Int} (ho:8<=op/\op<=11) (hd:yY d) (hn:0<=n/\n<=255):cN ⟨op,d,0,0,n,0⟩=true:=zA (.inr (.inr (.inl ⟨ho,hd,rfl,rfl,hn,rfl⟩)))
theorem aAw {m:Int} (hd:yY d) (hm:yY m):cN ⟨1,d,0,m,8,0⟩=true:=by
 have hf:cZ 1=some (0,[aT 0 0,aT 2 3,bI 6 5 0 31 1]):=rfl;unfold cN;rw [if_neg (by dsimp only;decide),if_neg (by dsimp only;decide)];dsimp only;rw [hf];have a0:=dV (sl:=[aT 0 0,aT 2 3,bI 6 5 0 31 1]) (i:=⟨1,d,0,m,8,0⟩) (k:=0) (s:=aT 0 0) rfl hd.1 hd.2 (Int.tmod_one _);have a1:=bX (sl:=[aT 0 0,aT 2 3,bI 6 5 0 31 1]) (i:=⟨1,d,0,m,8,0⟩) (k:=1) rfl rfl;have a2:=dV (sl:=[aT 0 0,aT 2 3,bI 6 5 0 31 1]) (i:=⟨1,d,0,m,8,0⟩) (k:=2) (s:=aT 2 3) rfl hm.1 hm.2 (Int.tmod_one _);have a3:=dV (sl:=[aT 0 0,aT 2 3,bI 6 5 0 31 1]) (i:=⟨1,d,0,m,8,0⟩) (k:=3) (s:=bI 6 5 0 31 1) rfl (show (0:Int)<=8 by decide) (show (8:Int)<=31 by decide) (Int.tmod_one _);have a4:=bX (sl:=[aT 0 0,aT 2 3,bI 6 5 0 31 1]) (i:=⟨1,d,0,m,8,0⟩) (k:=4) rfl rfl;dsimp only;rw [a0,a1,a2,a3,a4];rfl
theorem zX {r u:Int} (hr:yY r):∀ k,∀ i∈qA r u k,cN i=true
 | 0,i,h=>by cases h
 | k+1,i,h=>by
  unfold qA at h;rw [List.mem_append] at h;rcases h with h|h
  ·rcases List.mem_cons.1 h with rfl|h
   ·exact aAw hr hr
   ·split at h
    ·rw [List.mem_singleton] at h;subst h;exact CG (by decide) hr ⟨by omega,by omega⟩
    ·cases h
  ·exact zX hr k i h
theorem aBx {u:Int} (h0:0<=u) (h1:u < 4294967296):0<=u / 256 ^ sC u/\u / 256 ^ sC u<=255:=by
 unfold sC;split
 ·simp only [show (256:Int) ^ 3=16777216 from rfl];omega
 ·split
  ·simp only [show (256:Int) ^ 2=65536 from rfl];omega
  ·split
   ·simp only [show (256:Int) ^ 1=256 from rfl];omega
   ·simp only [show (256:Int) ^ 0=1 from rfl];omega
theorem LA {r:Int} (hr:yY r):∀ i∈rX r n,cN i=true:=λi h=>by
 unfold rX at h;rcases List.mem_cons.1 h with rfl|h
 ·exact CG (by decide) hr (aBx (by omega) (by omega))
 ·exact zX hr _ i h
theorem EE {l:List cF} {f:List Nat} (hl:tL l) (hr:∀ k,k < l.length->iT l f k=true):∀ k,k<=l.length->∀ i∈oK l f k,cN i=true
 | 0,_,i,h=>by cases h
 | k+1,hk,i,h=>by
  have hx:l[k]?=some l[k]:=List.getElem?_eq_getElem (by omega);unfold oK at h;rw [hx,List.mem_append] at h;rcases h with h|h
  ·exact EE hl hr k (by omega) i h
  ·have ho:l[k].okI:=hl.ok _ (List.getElem_mem (by omega));have hk':=hr k (by omega);unfold iT at hk';rw [hx] at hk';dsimp only at h;generalize l[k]=x at *;cases x with
   | one j=>
    rw [List.mem_singleton.1 h];exact zA ho
   | place q=>cases h
   | jump c q=>exact List.all_eq_true.1 hk' i h
   | load r n=>exact LA ho i h
def aCq (s x:Nat):Nat:=0xf000 ||| (s <<< 10) ||| x
def aCp (j k y:Nat):Nat:=0xd000 ||| (j <<< 13) ||| (k <<< 11) ||| y
def JF (imm:Int) (b:Nat):Nat:=((imm / ((2 ^ b:Nat):Int)) % 2).toNat
def blN (imm:Int):List Nat:=
 let s:=if imm < 0 then 1 else 0
 [aCq s ((imm / 4096) % 1024).toNat,aCp (1 - (JF imm 23 ^^^ s)) (1 - (JF imm 22 ^^^ s)) ((imm / 2) % 2048).toNat]
def EX (i:gZ):List Nat:=
 if i.op=28 then [RY i.d i.m] else if i.op=43 then blN i.imm else match cZ i.op with
  | some r=>[AO r i]
  | none=>[]
def bAo (h:Nat):gZ:=⟨28,(((h >>> 7 &&& 1) <<< 3 ||| (h &&& 7):Nat):Int),0,((h >>> 3 &&& 15:Nat):Int),0,0⟩
def aCi:List Nat->Option Nat
 | []=>none
 | h::l=>
  if h >>> 11=30 then match l with
   | []=>none
   | b::_=>if b &&& 0xd000=0xd000 then some 2 else none
  else if h >>> 8=70 then if cN (bAo h) then some 1 else none
  else match cZ (opN h) with
   | some r=>let x:=r.2.foldl (aEm h) (⟨opN h,0,0,0,0,0⟩,h);if x.2=r.1.toNat/\cN x.1=true then some 1 else none
   | none=>none
theorem cHi:(zL 2 1024 λs x=>decide (aCq s x >>> 11=30)&&decide (aCq s x < 65536))=true:=by kernel_rfl
theorem cLo:(zL 2 2 λj k=>FC 2048 λy=>decide (aCp j k y &&& 0xd000=0xd000)&&decide (aCp j k y < 65536))=true:=by kernel_rfl
theorem yV {i:gZ} (h:cN i=true) (ho:i.op=28):∃ a b:Nat,a < 15/\b < 15/\i=⟨28,a,0,b,0,0⟩:=by
 obtain ⟨op,d,n,m,imm,cond⟩:=i;dsimp only at ho;subst ho;simp only [cN,if_true,Bool.and_eq_true,decide_eq_true_eq] at h;obtain ⟨⟨⟨⟨⟨⟨rfl,rfl,rfl⟩,h2⟩,h3⟩,h4⟩,h5⟩,h6⟩:=h;obtain ⟨a,rfl⟩:=kG h2;obtain ⟨b,rfl⟩:=kG h5;exact ⟨a,b,by omega,by omega,rfl⟩
theorem UD {b:Nat} (ha:a < 2) (hb:b < 2):1 - (a ^^^ b) < 2:=by omega
theorem TG {i:gZ} (h:cN i=true) (ho:uI i.op\/i.op=28\/i.op=43) (l:List Nat):aCi (EX i++l)=some (EX i).length/\(∀ x∈EX i,x < 65536)/\(EX i).length*2=(if i.op=43 then 4 else 2):=by
 rcases ho with ho|ho|ho
 ·have e1:i.op≠28:=by unfold uI at ho;intro he;rw [he] at ho;omega
  have e2:i.op≠43:=by unfold uI at ho;intro he;rw [he] at ho;omega
  obtain ⟨r,hf,hb⟩:=WZ h ho;have e:EX i=[AO r i]:=by unfold EX;rw [if_neg e1,if_neg e2,hf]
  rw [e,if_neg e2];refine ⟨?_,λx hx=>(by rw [List.mem_singleton.1 hx];exact hb.lt),rfl⟩;rw [List.singleton_append];unfold aCi;dsimp only;rw [if_neg hb.bl,if_neg hb.mov,hb.op,hf];dsimp only;rw [hb.read];exact if_pos ⟨rfl,h⟩
 ·obtain ⟨a,b,ha,hb,rfl⟩:=yV h ho;have e:EX ⟨28,a,0,b,0,0⟩=[RY a b]:=rfl;have hc:=jQ c28 ha hb;simp only [bAp,Bool.and_eq_true,decide_eq_true_eq] at hc;obtain ⟨⟨⟨⟨h1,h2⟩,h3⟩,h4⟩,h5⟩:=hc;rw [e];refine ⟨?_,λx hx=>(by rw [List.mem_singleton.1 hx];exact h1),rfl⟩;rw [List.singleton_append];unfold aCi;dsimp only;have em:bAo (RY a b)=⟨28,a,0,b,0,0⟩:=by unfold bAo;rw [h4,h5]
  rw [if_neg h2,if_pos h3,em,if_pos h];rfl
 ·have e:EX i=blN i.imm:=by unfold EX;rw [if_neg (by omega),if_pos ho]
  have hs:(if i.imm < 0 then 1 else 0:Nat) < 2:=by split<;>omega
  have b1:JF i.imm 23 < 2:=by unfold JF;omega
  have b2:JF i.imm 22 < 2:=by unfold JF;omega
  have g1:=jQ cHi hs (b:=((i.imm / 4096) % 1024).toNat) (by omega);have g2:=nY (jQ cLo (UD b1 hs) (UD b2 hs)) (k:=((i.imm / 2) % 2048).toNat) (by omega);simp only [Bool.and_eq_true,decide_eq_true_eq] at g1 g2;rw [e,if_pos ho];refine ⟨?_,λx hx=>?_,rfl⟩
  ·show aCi (_::_::l)=some 2;unfold aCi;dsimp only;rw [if_pos g1.1];rw [if_pos g2.1]
  ·unfold blN at hx;rcases List.mem_cons.1 hx with rfl|hx
   ·exact g1.2
   ·rw [List.mem_singleton.1 hx];exact g2.2
def yP (l:List gZ):List Nat:=l.flatMap EX
def yN (op:Int):Prop:=uI op\/op=28\/op=43
theorem bAf {i:gZ} (h:i.okT):yN i.op:=by
 unfold yN uI;rcases h with ⟨h,_⟩|⟨h,_⟩|⟨h,_⟩|⟨h,_⟩|⟨h,_⟩|⟨h,_⟩|⟨h,_⟩<;>omega
theorem LB {r u:Int}:∀ k,∀ i∈qA r u k,yN i.op
 | 0,i,h=>by cases h
 | k+1,i,h=>by
  unfold qA at h;rw [List.mem_append] at h;rcases h with h|h
  ·rcases List.mem_cons.1 h with rfl|h
   ·exact .inl (.inl rfl)
   ·split at h
    ·rw [List.mem_singleton] at h;subst h;exact .inl (by unfold uI;dsimp only;omega)
    ·cases h
  ·exact LB k i h
theorem MJ {a b:Int}:∀ i∈oJ f a b,yN i.op:=λi h=>by
 unfold oJ at h;rw [List.mem_singleton] at h;subst h;dsimp only;split
 ·exact .inr (.inr rfl)
 ·exact .inl (by unfold uI;omega)
theorem aGl {c:Int} {a b:Int}:∀ i∈mH c f a b,yN i.op:=λi h=>by
 unfold mH at h;have h41:yN 41:=.inl (by unfold uI;omega);split at h
 ·exact MJ i h
 ·split at h
  ·rw [List.mem_singleton] at h;subst h;exact h41
  ·rcases List.mem_cons.1 h with rfl|h
   ·exact h41
   ·exact MJ i h
theorem XC {l:List cF} {f:List Nat} (hl:∀ x∈l,x.okI):∀ k,k<=l.length->∀ i∈oK l f k,yN i.op
 | 0,_,i,h=>by cases h
 | k+1,hk,i,h=>by
  have hx:l[k]?=some l[k]:=List.getElem?_eq_getElem (by omega);unfold oK at h;rw [hx,List.mem_append] at h;rcases h with h|h
  ·exact XC hl k (by omega) i h
  ·have ho:l[k].okI:=hl _ (List.getElem_mem (by omega));dsimp only at h;generalize l[k]=x at *;cases x with
   | one j=>rw [List.mem_singleton.1 h];exact bAf ho
   | place q=>cases h
   | jump c q=>exact aGl i h
   | load r n=>
    have h:i∈rX r n:=h;unfold rX at h;rcases List.mem_cons.1 h with rfl|h
    ·exact .inl (by unfold uI;dsimp only;omega)
    ·exact LB _ i h
def XO (l:List gZ):Prop:=∀ i∈l,cN i=true/\yN i.op
theorem VY:∀ {l:List gZ},XO l->(yP l).length*2=jN l
 | [],_=>rfl
 | i::l,h=>by
  have ih:=VY (l:=l) λj hj=>h j (List.mem_cons_of_mem _ hj);obtain ⟨h1,h2⟩:=h i List.mem_cons_self;have:=(TG h1 h2 []).2.2;unfold yP at *;rw [List.flatMap_cons,List.length_append];show _=jN (i::l);unfold jN gZ.size at *;rw [List.map_cons,List.sum_cons];split at this<;>split<;>omega
theorem bBt {l:List gZ} (h:XO l):∀ x∈yP l,x < 65536:=λx hx=>by
 obtain ⟨i,hi,hx⟩:=List.mem_flatMap.1 hx;obtain ⟨h1,h2⟩:=h i hi;exact (TG h1 h2 []).2.1 x hx
inductive HG:List Nat->Prop where
 | nil:HG []
 | cons {l:List Nat} {n:Nat} (h:aCi l=some n) (h1:1<=n) (h2:n<=l.length) (t:HG (l.drop n)):HG l
theorem GO:∀ {l:List gZ},XO l->HG (yP l)
 | [],_=>.nil
 | i::l,h=>by
  have ih:=GO (l:=l) λj hj=>h j (List.mem_cons_of_mem _ hj);obtain ⟨h1,h2⟩:=h i List.mem_cons_self;obtain ⟨g1,-,g3⟩:=TG h1 h2 (yP l);have e:yP (i::l)=EX i++yP l:=by unfold yP;rw [List.flatMap_cons]
  rw [e];refine .cons g1 (by split at g3<;>omega) (by rw [List.length_append];omega) ?_;rw [List.drop_left];exact ih
theorem GY {l:List cF} {f:List Nat} (hl:tL l) (hr:∀ k,k < l.length->iT l f k=true):XO (oK l f l.length):=λi hi=>⟨EE hl hr _ (Nat.le_refl _) i hi,XC hl.ok _ (Nat.le_refl _) i hi⟩
theorem MM {l:List cF} {f:List Nat} (hl:tL l) (h:zO l f) (hr:∀ k,k < l.length->iT l f k=true):HG (yP (oK l f l.length))/\(∀ x∈yP (oK l f l.length),x < 65536)/\(yP (oK l f l.length)).length*2=sH l f l.length/\(yP (oK l f l.length)).length*2<=nS l:=by
 have hg:=GY hl hr;have h1:=VY hg;have h2:=GX h l.length (Nat.le_refl _);have h3:=h.at_top hl l.length;exact ⟨GO hg,bBt hg,by omega,by omega⟩
theorem UK (h:a < 65536):(BitVec.ofInt 16 (a:Int)).toNat=a:=by rw [BitVec.toNat_ofInt];omega
theorem aDi (h:a < 65536):IntKind.u16.wrap (a:Int)=a:=by
 have e:((a:Int) % (2 ^ 16:Int))=a:=by omega
 unfold IntKind.wrap;simp only [show IntKind.u16.bits=16 from rfl,show IntKind.u16.signed=false from rfl,e,Bool.false_and,Bool.false_eq_true,if_false]
theorem bJp {b:Nat} (ha:a < 65536) (hb:b < 65536):IntKind.u16.wrap (((BitVec.ofInt 16 (a:Int) ||| BitVec.ofInt 16 (b:Int)).toNat:Nat):Int)=((a ||| b:Nat):Int):=by
 rw [BitVec.toNat_or,UK ha,UK hb];exact aDi (Nat.or_lt_two_pow (n:=16) ha hb)
theorem bHd {s:Nat} (h:a*2 ^ s < 65536) (hs:s<=16):IntKind.u16.wrap ((a:Int)*2 ^ (min s 16))=((a <<< s:Nat):Int):=by
 rw [Nat.min_eq_left hs,Nat.shiftLeft_eq];have:=aDi h
 push_cast at this
 push_cast
 exact this
theorem aFy {b:Nat} (hb:b<=32):IntKind.i64.wrap (((BitVec.ofInt 64 n &&& BitVec.ofInt 64 ((2 ^ b - 1:Nat):Int)).toNat:Nat):Int)=n % ((2 ^ b:Nat):Int):=by
 have hp:(2:Nat) ^ b<=4294967296:=Nat.pow_le_pow_right (n:=2) (by decide) hb;have h0:0 < (2:Nat) ^ b:=Nat.pow_pos (by decide);have e1:(BitVec.ofInt 64 ((2 ^ b - 1:Nat):Int)).toNat=2 ^ b - 1:=by rw [BitVec.toNat_ofInt];omega
 rw [BitVec.toNat_and,e1,Nat.and_two_pow_sub_one_eq_mod,BitVec.toNat_ofInt]
 have e2:(((n % ((2 ^ 64:Nat):Int)).toNat % 2 ^ b:Nat):Int)=n % ((2 ^ b:Nat):Int):=by
  have h1:0<=n % ((2 ^ 64:Nat):Int):=Int.emod_nonneg _ (by decide);rw [Int.natCast_emod,Int.toNat_of_nonneg h1];refine Int.emod_emod_of_dvd _ ?_;exact Int.natCast_dvd_natCast.2 (Nat.pow_dvd_pow 2 (by omega))
 rw [e2];have h2:0<=n % ((2 ^ b:Nat):Int):=Int.emod_nonneg _ (by omega);have h3:n % ((2 ^ b:Nat):Int) < ((2 ^ b:Nat):Int):=Int.emod_lt_of_pos _ (by omega);exact aC (by omega) (by omega)
end Go.Proofs.YtjcmcfidblhnnaaGreatDoor
namespace Go.Proofs.YtjcmcfidblhnnaaGreatDoor
open Tryz
open Go.Vc
variable {w:World} {K:Value->World->Prop}
variable {B f k:Nat} {a:Int}
def HO (l:List gZ):List Value:=l.flatMap gZ.cells
theorem gZ.len (i:gZ):i.cells.length=6:=rfl
theorem aNw (i:gZ):i.cells.all cO=true:=rfl
def gC (w:World) (B:Nat) (v:Value) (l:List gZ):Prop:=w.ownsRow B 83 6 v l.length (HO l)
theorem AU {l:List gZ} {j:Nat} {x:gZ} (h:l[j]?=some x):((HO l).drop (((j:Int)).toNat*6)).take 6=x.cells:=by
 rw [Int.toNat_natCast];exact xQ gZ.len h
theorem aDp (l:List gZ):(HO l).all cO=true:=by
 induction l with
 | nil=>rfl
 | cons x l ih=>
  have e:HO (x::l)=x.cells++HO l:=rfl;rw [e,List.all_append,ih,aNw];rfl
theorem SC {i:gZ} {v:Value} (hv:v=.agg i.cells.toArray) (hk:∀ u w1,gC w1 w.heap.size u [i]->aF w w1->K u w1):V prog (Instr.buildSlice 230 1 #[(0,v)]) w K:=by
 subst hv;refine zI underlying230 AD rfl (by decide) [.agg i.cells.toArray] rfl rfl (by intro v hv;rw [List.mem_singleton] at hv;subst hv;rfl) (by decide) (by decide) λuv w1 ho1 x1=>?_;exact hk uv w1 ho1 x1
theorem bCy {l m:List gZ} {v u:Value} {B':Nat} (h:gC w B v l) (hu:gC w B' u m) (hl:l.length+m.length<=1000) (hB:B<=w.heap.size) (hk:∀ v' w',gC w' B v' (l++m)->(∀ w0,aF w0 w->w0.heap.size<=B->aF w0 w')->K v' w'):V prog (Builtin.append_ #[230,230] 230 #[v,u]) w K:=by
 refine apG underlying230 AD rfl (by decide) h (aA.of_own hu) (aDp m) (by omega) (by unfold maxLen;omega) hB λv' w' ho hg _=>hk v' w' ?_ λw0 hx h0=>hx.grown hg λk hk=>by have:=(h.lt k hk).1;omega
 have e:HO l++HO m=HO (l++m):=by simp [HO]
 rw [e] at ho;unfold gC;rw [List.length_append];exact ho
theorem gC.ext {w':World} {v:Value} {l:List gZ} (h:gC w B v l) (hx:aF w w'):gC w' B v l:=hx.own h
theorem UQ {i:gZ} (hk:∀ w',aF w w'->K (i64 ((i.size:Nat):Int)) w'):aB prog 213 #[.agg i.cells.toArray] w K:=by
 apply aTk;unfold NC;refine bx λb w1 hb x1=>?_;have hb:bG w1 b i.cells:=hb;have:=hk w1 x1;unfold gZ.size at this;refine bF hb mA aH rfl (aK.2 (aD (λe=>?_) λe=>?_))
 ·rw [if_pos e] at this;exact this
 ·rw [if_neg e] at this;exact this
def IY (c:Int):List Int:=if c=14 then [2,4] else [2,4,6]
theorem aHb {c:Int} (hk:∀ v w',aN w' v (IY c)->aF w w'->K v w'):aB prog 216 #[i64 c] w K:=by
 apply aTh;unfold MZ;unfold IY at hk;refine aK.2 (aD (λe=>?_) λe=>?_)
 ·rw [if_pos e] at hk;exact jS bB [i64 2,i64 4] rfl rfl (by simp) rfl λv w1 ho x1=>hk v w1 (aA.of_own ho) x1
 ·rw [if_neg e] at hk;exact jS bB [i64 2,i64 4,i64 6] rfl rfl (by simp) rfl λv w1 ho x1=>hk v w1 (aA.of_own ho) x1
theorem JT (n:Int):IntKind.u32.wrap n=n % 4294967296:=by
 unfold IntKind.wrap;simp only [show IntKind.u32.bits=32 from rfl,show IntKind.u32.signed=false from rfl,Bool.false_and,Bool.false_eq_true,if_false];rfl
theorem aZv {u:Int} (k:Nat) (hk:k<=3):u.fdiv (2 ^ (min (((8*k:Nat):Int)).toNat IntKind.u32.bits))=u / 256 ^ k:=by
 have:k=0\/k=1\/k=2\/k=3:=by omega
 rcases this with rfl|rfl|rfl|rfl<;>exact Int.fdiv_eq_ediv_of_nonneg _ (by decide)
theorem bDb (h0:0<=a) (h1:a < 4294967296):IntKind.u32.wrap (((BitVec.ofInt IntKind.u32.bits a &&& BitVec.ofInt IntKind.u32.bits 255).toNat:Nat):Int)=a % 256:=by
 obtain ⟨n,rfl⟩:=kG h0;have e1:(BitVec.ofInt 32 (n:Int)).toNat=n:=by rw [BitVec.toNat_ofInt];omega
 have e2:(BitVec.ofInt 32 255).toNat=2 ^ 8 - 1:=by decide
 rw [show IntKind.u32.bits=32 from rfl,BitVec.toNat_and,e1,e2,Nat.and_two_pow_sub_one_eq_mod,JT];omega
theorem aGv {u:Int} (hk:k<=3) (hz:∀ j,k < j->j<=3->u / 256 ^ j=0) (hn:k=0\/u / 256 ^ k≠0):sC u=k:=by
 unfold sC;have z3:=hz 3;have z2:=hz 2;have z1:=hz 1;have:k=0\/k=1\/k=2\/k=3:=by omega
 rcases this with rfl|rfl|rfl|rfl
 ·rw [if_neg (by have:=z3 (by decide) (by decide);simpa using this),if_neg (by have:=z2 (by decide) (by decide);simpa using this),if_neg (by have:=z1 (by decide) (by decide);simpa using this)]
 ·rw [if_neg (by have:=z3 (by decide) (by decide);simpa using this),if_neg (by have:=z2 (by decide) (by decide);simpa using this),if_pos (by simpa using hn)]
 ·rw [if_neg (by have:=z3 (by decide) (by decide);simpa using this),if_pos (by simpa using hn)]
 ·rw [if_pos (by simpa using hn)]
theorem aQa {u:Int} (h0:0<=u) (h1:u < 4294967296) (k:Nat):0<=u / 256 ^ k/\u / 256 ^ k < 4294967296:=by
 have hp:(0:Int) < 256 ^ k:=Int.pow_pos (by decide);exact ⟨Int.ediv_nonneg h0 (Int.le_of_lt hp),Int.lt_of_le_of_lt (Int.ediv_le_self _ h0) h1⟩
theorem aZw {u:Int} {A B:World->Prop} (hk:k<=3) (h1:k≠0/\u / 256 ^ k=0->A w) (h2:k=0\/u / 256 ^ k≠0->B w) {x y:Operand} :
  V prog (binOp .gtr 3 (i64 ((8*k:Nat):Int)) (i64 0)) w λt12 w3=>gd t12 true (λK=>K (.int .u32 u) w3) w3 λt14 w4=>gd t12 true (λK=>K (i64 ((8*k:Nat):Int)) w4) w4 λt15 w5=>gd t12 true (λK=>V prog (binOp .shr 264 t14 t15) w5 K) w5 λt16 w6=>
   gd t12 true (λK=>V prog (do eqGuard .eql 264 x y t16 (.int .u32 0);binOp .eql 264 t16 (.int .u32 0)) w6 K) w6 λt17 w7=>aG t12 t17 (.bool false) λt18=>aI t18 (A w7) (B w7):=by
 refine iR.2 ?_;by_cases h0:k=0
 ·rw [decide_eq_false (by omega)];simp only [lI,aW,Bool.false_eq_true,reduceIte,aP];exact h2 (.inl h0)
 ·rw [decide_eq_true (by omega)];refine lU.2 (lU.2 (lU.2 (V.ok (uX (by omega)) (lU.2 (aK.2 (jW ?_))))));rw [if_pos rfl,aZv k hk];exact aD (λh=>h1 ⟨h0,h⟩) λh=>h2 (.inr h)
theorem aPc {reg n:Int} (hk:∀ v w',gC w' w.heap.size v (rX reg n)->aF w w'->K v w'):aB prog 121 #[i64 reg,i32 n] w K:=by
 apply aXa;unfold QN;refine V.ok (lL underlying21 underlying264) ?_;rw [JT];have hu0:0<=n % 4294967296:=Int.emod_nonneg _ (by decide);have hu1:n % 4294967296 < 4294967296:=Int.emod_lt_of_pos _ (by decide);have hK:rX reg n=⟨8,reg,0,0,n % 4294967296 / 256 ^ sC (n % 4294967296),0⟩::qA reg (n % 4294967296) (sC (n % 4294967296)):=rfl;rw [hK] at hk;generalize n % 4294967296=u at *;refine ⟨λv w'=>∃ k:Nat,v=i64 ((8*k:Nat):Int)/\k<=3/\w'=w/\∀ j,k < j->j<=3->u / 256 ^ j=0,λv _=>(RowKit.intOf v).toNat,⟨3,rfl,by decide,rfl,λj h1 h2=>by omega⟩,?_⟩;rintro _ w1 ⟨k,rfl,hk3,rfl,hz⟩ _;refine aZw hk3 (λh=>?_) λh=>?_
 ·obtain ⟨k,rfl⟩:∃ j,k=j+1:=⟨k - 1,by omega⟩;refine fQ.2 ?_;rw [aC (by omega) (by omega),show ((8*(k+1):Nat):Int) - 8=((8*k:Nat):Int) from by omega];refine ⟨⟨k,rfl,by omega,rfl,λj h1 h2=>?_⟩,by simp only [aL];omega⟩;by_cases hj:j=k+1
  ·subst hj;exact h.2
  ·exact hz j (by omega) h2
 have hh:=aGv hk3 hz h;rw [hh] at hk;clear hh h hz hK;have hr:=aQa hu0 hu1;refine V.ok (uX (by omega)) ?_;rw [aZv k hk3];refine V.ok (lL underlying264 underlying3) ?_;have hrk:=hr k;rw [aC (by omega) (by omega)];refine pP pQ [(0,i64 8),(1,i64 reg),(4,i64 (u / 256 ^ k))] rfl rfl ?_;refine SC (i:=⟨8,reg,0,0,u / 256 ^ k,0⟩) rfl λv1 w2 ho x1=>?_;refine ⟨λs v w'=>∃ (j:Nat) (acc:List gZ),s=i64 ((8*j:Nat):Int)/\j<=3/\gC w' w1.heap.size v acc/\acc++qA reg u j=⟨8,reg,0,0,u / 256 ^ k,0⟩::qA reg u k/\acc.length+2*j<=7/\aF w1 w',λs _ _=>(RowKit.intOf s).toNat,⟨k,_,rfl,hk3,ho,rfl,by simp;omega,x1⟩,?_⟩;rintro _ v w3 ⟨j,acc,rfl,hj3,hv,hacc,hal,x3⟩ _;refine iR.2 (aD (λhpos=>?_) λhz=>?_)
 ·obtain ⟨j,rfl⟩:∃ q,j=q+1:=⟨j - 1,by omega⟩;have hrj:=hr j;refine fQ.2 ?_;rw [aC (by omega) (by omega),show ((8*(j+1):Nat):Int) - 8=((8*j:Nat):Int) from by omega];refine pP pQ [(0,i64 1),(1,i64 reg),(3,i64 reg),(4,i64 8)] rfl rfl ?_;refine SC (i:=⟨1,reg,0,reg,8,0⟩) rfl λv4 w4 ho4 x4=>?_;have s3:=x3.size;have s4:=x4.size;refine bCy (hv.ext x4) ho4 (by simp;omega) (by omega) λv5 w5 ho5 e5=>?_;have x5:aF w1 w5:=e5 w1 (x3.trans x4) (Nat.le_refl _);refine V.ok (uX (by omega)) ?_;rw [aZv j (by omega)];refine V.ok CN ?_;rw [bDb hrj.1 hrj.2];refine V.ok (lL underlying264 underlying3) ?_;have hm0:0<=u / 256 ^ j % 256:=Int.emod_nonneg _ (by decide);have hm1:u / 256 ^ j % 256 < 256:=Int.emod_lt_of_pos _ (by decide);rw [aC (by omega) (by omega)];have s5:=x5.size;refine iR.2 (aD (λhb=>?_) λhb=>?_)
  ·refine pP pQ [(0,i64 10),(1,i64 reg),(4,i64 (u / 256 ^ j % 256))] rfl rfl ?_;refine SC (i:=⟨10,reg,0,0,u / 256 ^ j % 256,0⟩) rfl λv6 w6 ho6 x6=>?_;have s6:=x6.size;refine bCy (ho5.ext x6) ho6 (by simp;omega) (by omega) λv7 w7 ho7 e7=>?_;refine ⟨⟨j,_,rfl,by omega,ho7,?_,by simp;omega,e7 w1 (x5.trans x6) (Nat.le_refl _)⟩,by simp only [aL];omega⟩;rw [<- hacc];simp [qA,hb]
  ·refine ⟨⟨j,_,rfl,by omega,ho5,?_,by simp;omega,x5⟩,by simp only [aL];omega⟩;rw [<- hacc];simp [qA,hb]
 ·obtain rfl:j=0:=by omega
  rw [show qA reg u 0=[] from rfl,List.append_nil] at hacc;rw [hacc] at hv;exact hk v w3 hv x3
theorem bIj {c:Int} (h0:0<=c) (h1:c < 14):IntKind.i64.wrap (((BitVec.ofInt IntKind.i64.bits c ^^^ BitVec.ofInt IntKind.i64.bits 1).toNat:Nat):Int)=GS c:=by
 have:c=0\/c=1\/c=2\/c=3\/c=4\/c=5\/c=6\/c=7\/c=8\/c=9\/c=10\/c=11\/c=12\/c=13:=by omega
 rcases this with rfl|rfl|rfl|rfl|rfl|rfl|rfl|rfl|rfl|rfl|rfl|rfl|rfl|rfl<;>decide
def Adr (a:Int):Prop:=-1000000<=a/\a<=1000000
theorem XB {b:Int} (ha:-1000010<=a/\a<=1000010) (hb:Adr b) (hk:∀ v w',gC w' w.heap.size v (oJ f a b)->aF w w'->K v w'):aB prog 178 #[i64 14,i64 (f:Int),i64 a,i64 b] w K:=by
 apply aAb;unfold EI;obtain ⟨a1,a2⟩:=ha;obtain ⟨b1,b2⟩:=hb;refine aK.2 (aD (λ_=>?_) λe=>absurd rfl e);refine ⟨λv w'=>v=i64 (if f > 0 then 43 else 42)/\w'=w,?_,?_⟩
 ·refine iR.2 (aD (λh=>⟨?_,rfl⟩) λh=>⟨?_,rfl⟩)
  ·rw [if_pos (by omega)]
  ·rw [if_neg (by omega)]
 ·rintro _ w1 ⟨rfl,rfl⟩ _;refine fQ.2 ?_;rw [aC (by omega) (by omega)];refine fQ.2 ?_;rw [aC (by omega) (by omega)];refine pP pQ [(0,i64 (if f > 0 then 43 else 42)),(4,i64 (b - a - 4))] rfl rfl ?_;exact SC (i:=⟨if f > 0 then 43 else 42,0,0,0,b - a - 4,0⟩) rfl hk
theorem aPi {c b:Int} (hc:0<=c/\c<=14) (hf:f<=2) (ha:Adr a) (hb:Adr b) (hk:∀ v w',gC w' w.heap.size v (mH c f a b)->aF w w'->K v w'):aB prog 178 #[i64 c,i64 (f:Int),i64 a,i64 b] w K:=by
 by_cases h14:c=14
 ·subst h14;have e:mH 14 f a b=oJ f a b:=if_pos rfl;rw [e] at hk;exact XB (by unfold Adr at ha;omega) hb hk
 apply aAb;unfold EI;have hb0:=hb;obtain ⟨a1,a2⟩:=ha;obtain ⟨b1,b2⟩:=hb;refine aK.2 (aD (λe=>absurd e h14) λ_=>?_);refine aK.2 (aD (λe=>?_) λe=>?_)
 ·obtain rfl:f=0:=by omega
  have e:mH c 0 a b=[⟨41,0,0,0,b - a - 4,c⟩]:=if_neg h14;rw [e] at hk;refine fQ.2 ?_;rw [aC (by omega) (by omega)];refine fQ.2 ?_;rw [aC (by omega) (by omega)];refine pP pQ [(0,i64 41),(5,i64 c),(4,i64 (b - a - 4))] rfl rfl ?_;exact SC (i:=⟨41,0,0,0,b - a - 4,c⟩) rfl hk
 ·obtain ⟨g,rfl⟩:∃ g,f=g+1:=⟨f - 1,by omega⟩;have e:mH c (g+1) a b=⟨41,0,0,0,(if g > 0 then 4 else 2) - 2,GS c⟩::oJ g (a+2) b:=if_neg h14;rw [e] at hk;refine fQ.2 ?_;rw [aC (by omega) (by omega),show ((g+1:Nat):Int) - 1=(g:Int) from by omega];refine aU.2 ?_;rw [aC (by omega) (by omega)];refine XB (a:=a+2) (by omega) hb0 λv1 w1 ho1 x1=>?_;refine V.ok aYi ?_;rw [bIj hc.1 (by omega)];have hl:(oJ g (a+2) b)[0]?=some ⟨if g > 0 then 43 else 42,0,0,0,b - (a+2) - 4,0⟩:=rfl;refine uU vH qB (aA.of_own ho1) (by decide) (show (0:Int) < ((1:Nat):Int) from by decide) (AU (j:=0) hl) rfl ?_;refine UQ λw2 x2=>fQ.2 ?_
  have hs:(((gZ.size ⟨if g > 0 then 43 else 42,0,0,0,b - (a+2) - 4,0⟩:Nat):Int))=if g > 0 then 4 else 2:=by
   unfold gZ.size;dsimp only;by_cases hg:g > 0
   ·rw [if_pos hg,if_pos hg,if_pos rfl];rfl
   ·rw [if_neg hg,if_neg hg,if_neg (by decide)];rfl
  rw [hs,aC (by split<;>omega) (by split<;>omega)];refine pP pQ [(0,i64 41),(5,i64 (GS c)),(4,i64 ((if g > 0 then 4 else 2) - 2))] rfl rfl ?_;refine SC (i:=⟨41,0,0,0,(if g > 0 then 4 else 2) - 2,GS c⟩) rfl λv3 w3 ho3 x3=>?_;have s1:=x1.size;have s2:=x2.size;have s3:=x3.size;refine bCy (aX ho3 (by omega)) (ho1.ext (x2.trans x3)) (by simp [oJ]) (by omega) λv4 w4 ho4 e4=>hk v4 w4 ho4 (e4 w ((x1.trans x2).trans x3) (Nat.le_refl _))
def ET (i:gZ):Prop:=(i.op=28->i.n=0/\i.imm=0/\i.cond=0)/\(i.op=43->i.d=0/\i.n=0/\i.m=0/\i.cond=0)
theorem bDe {i:gZ} (h:ET i) (hk:∀ w',aF w w'->K (.bool (!cN i)) w'):aB prog 215 #[.agg i.cells.toArray] w K:=by
 apply aTi;unfold NA;refine bx λb w1 hb x1=>?_;have hb:bG w1 b i.cells:=hb;refine iO hb qB rfl ?_;exact CH h.1 h.2 λw2 x2=>dK.2 (hk w2 (x1.trans x2))
theorem aGt {v:Value} {l:List gZ} (hv:gC w B v l) (hl:l.length<=1000000) (h:∀ x∈l,ET x) (hk:∀ (r:Int) w',(l.all cN=true->r=-1)->(l.all cN=false->0<=r)->aF w w'->K (i64 r) w'):aB prog 220 #[v,.func (.func 215) #[] #[]] w K:=by
 apply aTc;unfold MV;refine gD vH (aA.of_own hv) ?_;refine ⟨λv w'=>∃ j:Nat,v=i64 j/\j<=l.length/\(l.take j).all cN=true/\aF w w',λv _=>l.length - (RowKit.intOf v).toNat,⟨0,rfl,Nat.zero_le _,rfl,aF.refl _⟩,?_⟩;rintro _ w1 ⟨j,rfl,hj,ha,x1⟩ _;refine aY.2 (aD (λhlt=>?_) λhge=>?_)
 ·obtain ⟨x,hx⟩:=bC (l:=l) (j:=j) (by omega);refine uU vH qB (aA.of_own (hv.ext x1)) (by omega) (by omega) (AU hx) rfl ?_;refine ⟨_,#[],rfl,bDe (h x (List.mem_of_getElem? hx)) λw2 x2=>?_⟩;cases hr:cN x with
  | false=>
   refine bK.2 (hk j w2 (λhall=>?_) (λ_=>by omega) (x1.trans x2));have:=List.all_eq_true.1 hall x (List.mem_of_getElem? hx);rw [hr] at this;cases this
  | true=>
   refine aP.2 (aU.2 ?_);rw [aC (by omega) (by omega),aR];refine ⟨⟨j+1,rfl,by omega,?_,x1.trans x2⟩,by simp only [aL];omega⟩;rw [List.take_add_one,hx,List.all_append,ha];simp [hr]
 ·have e:l.take j=l:=List.take_of_length_le (by omega);rw [e] at ha;exact hk (-1) w1 (λ_=>rfl) (λh=>by rw [ha] at h;cases h) x1
theorem bDf {v:Value} {l:List gZ} (hv:gC w B v l) (hl:l.length<=1000000) (h:∀ x∈l,ET x) (hk:∀ w',aF w w'->K (.bool (l.all cN)) w'):aB prog 179 #[v] w K:=by
 apply aUu;unfold OK
 have c:aB prog 214 #[v,.func (.func 215) #[] #[]] w λr w'=>r=.bool (!(l.all cN))/\aF w w':=by
  apply aTj;unfold NB;refine aGt hv hl h λr w1 h1 h2 x1=>kN.2 ⟨?_,x1⟩;cases hr:l.all cN with
  | true=>rw [h1 hr];rfl
  | false=>rw [decide_eq_true (by have:=h2 hr;omega)];rfl
 refine c.mono λr w1 ⟨hr,x1⟩=>?_;subst hr;refine dK.2 ?_;rw [Bool.not_not];exact hk w1 x1
end Go.Proofs.YtjcmcfidblhnnaaGreatDoor
