/- Package place: all of some registers meet one another. -/
import Derived.Test.YtjcmcfidblhnnaaGreatDoorTg
import Derived.Deep.AppendLies
import Derived.Great.FillDense
import Derived.Great.BuildSlice
import Derived.Laws.StructEq
set_option maxHeartbeats 4000000
namespace Go.Proofs.YtjcmcfidblhnnaaGreatDoor
open Tryz
open Go.Vc
variable {w w' w0:O} {B R g0 i r sg ub:Nat} {ov pv:Y} {m:Mx} {sb:List Bool} {p:fU} {o ord:List Int} {slots:Int}
theorem bGh {lv:Y} {gs:List Nat} {l:List Bool} (hR:R<=40) (hgl:gs.length=R) (hl:l.length=R) (hu:Ru w0 w ub g0 sg ov gs R m sb)
  (ha:w.ownsRow B 4 1 lv R (l.map Value.bool)) (hgB:∀ k,lv.ownBlock=some k->¬ k∈gs) :
  aB prog 83 #[.pointer (some ⟨ub,0,none⟩),lv] w λ_ w'=>(∃ m',Ru w0 w' ub g0 sg ov gs R m' sb/\∀ a b,a < R->b < R->(m' a b=true↔m a b=true\/(a≠b/\l[a]?=some true/\l[b]?=some true)))/\Fr (λi=>i∈gs) w w':=by
 apply bHf;unfold ZQ;refine gE hO (aA.of_own ha) ?_
 refine ⟨λv w'=>∃ (i:Nat) (m1:Mx),v=i64 i/\i<=R/\Ru w0 w' ub g0 sg ov gs R m1 sb/\Fr (λi=>i∈gs) w w'/\∀ a b,a < R->b < R->(m1 a b=true↔m a b=true\/(a < i/\a≠b/\l[a]?=some true/\l[b]?=some true)),λv _=>R - (RowKit.intOf v).toNat,
  ⟨0,m,rfl,Nat.zero_le _,hu,Fr.refl _ _,λa b _ _=>by simp⟩,?_⟩
 rintro _ w1 ⟨i,m1,rfl,hi,hu1,hk1,hm1⟩ _;refine aZ.2 (aC (λhlt=>?_) λhge=>?_)
 ·have hi':i < R:=by omega
  have ha1:=hk1.own ha hgB;obtain ⟨p,hp⟩:=bI (l:=l) (j:=i) (by omega);obtain ⟨g,hg⟩:=bI (l:=gs) (j:=i) (by omega);refine JT hO oM ha1 (by omega) (by omega) (NQ hp) ?_;refine gE hO (aA.of_own ha1) ?_
  refine ⟨λv w'=>∃ (j:Nat) (m2:Mx),v=i64 j/\j<=R/\Ru w0 w' ub g0 sg ov gs R m2 sb/\Fr (λi=>i∈gs) w w'/\∀ a b,a < R->b < R->(m2 a b=true↔m1 a b=true\/(a=i/\b < j/\a≠b/\l[a]?=some true/\l[b]?=some true)),λv _=>R - (RowKit.intOf v).toNat,
   ⟨0,m1,rfl,Nat.zero_le _,hu1,hk1,λa b _ _=>by simp⟩,?_⟩
  rintro _ w2 ⟨j,m2,rfl,hj,hu2,hk2,hm2⟩ _;refine aZ.2 (aC (λhjl=>?_) λhjg=>?_)
  ·have hj':j < R:=by omega
   have ha2:=hk2.own ha hgB;obtain ⟨q,hq⟩:=bI (l:=l) (j:=j) (by omega);refine JT hO oM ha2 (by omega) (by omega) (NQ hq) ?_
   have stay:¬ (i≠j/\l[i]?=some true/\l[j]?=some true)->V prog (binOp .add 3 (i64 j) (Value.int IntKind.i64 1)) w2 λt40 w24=>(∃ (j:Nat) (m2:Mx),t40=i64 j/\j<=R/\Ru w0 w24 ub g0 sg ov gs R m2 sb/\Fr (λi=>i∈gs) w w24/\∀ a b,a < R->b < R->(m2 a b=true↔m1 a b=true\/(a=i/\b < j/\a≠b/\l[a]?=some true/\l[b]?=some true)))/\R - (RowKit.intOf t40).toNat < R - (RowKit.intOf (i64 (j:Int))).toNat:=by
    intro hn;refine jS (by omega) ?_;refine ⟨⟨j+1,m2,rfl,by omega,hu2,hk2,λa b h1 h2=>?_⟩,by simp only [aK];omega⟩;rw [hm2 a b h1 h2];constructor
    ·rintro (h|⟨h3,h4,h5⟩)
     ·exact .inl h
     ·exact .inr ⟨h3,by omega,h5⟩
    ·rintro (h|⟨h3,h4,h5⟩)
     ·exact .inl h
     ·by_cases hbj:b=j
      ·subst h3 hbj;exact absurd h5 hn
      ·exact .inr ⟨h3,by omega,h5⟩
   cases p with
   | false=>
    simp only [lY,bA,Bool.false_eq_true,reduceIte,aM];exact stay λh=>by rw [hp] at h;cases h.2.1
   | true=>
    simp only [mD,bA,reduceIte];cases q with
    | false=>
     simp only [lY,Bool.false_eq_true,reduceIte,aM];exact stay λh=>by rw [hq] at h;cases h.2.2
    | true=>
     simp only [mD,reduceIte];refine cL.2 ?_
     try simp only [bA,reduceIte]
     refine aC (λhne=>?_) λheq=>?_
     ·refine ⟨.inl ⟨_,rfl⟩,?_⟩;refine aV hu2.u.boxed eA iD rfl ?_;refine mH sR oU (hu2.out.slice (n:=R) (by simpa using hgl) (by unfold maxLen;omega)) (by omega) (by omega) (by simp [hg]:(gs.map (sl R))[((i:Nat):Int).toNat]?=some (sl R g)) ?_;refine WH hO lE (hu2.rows i g hg) (by simp [gX]) (by omega) (by omega) rfl ?_;refine jS (by omega) ?_;have hij:i≠j:=λh=>hne (by rw [h]);refine ⟨⟨j+1,tL m2 i j true,rfl,by omega,hu2.setRow hg j true,hk2.set (List.mem_of_getElem? hg),λa b h1 h2=>?_⟩,by simp only [aK];omega⟩;have hm:=hm2 a b h1 h2;by_cases hab:a=i/\b=j
      ·obtain ⟨rfl,rfl⟩:=hab;simp [tL,hp,hq,hij]
      ·have:tL m2 i j true a b=m2 a b:=by unfold tL;rw [if_neg hab]
       rw [this,hm];constructor
       ·rintro (h|⟨h3,h4,h5⟩)
        ·exact .inl h
        ·exact .inr ⟨h3,by omega,h5⟩
       ·rintro (h|⟨h3,h4,h5⟩)
        ·exact .inl h
        ·exact .inr ⟨h3,by have:b≠j:=λh=>hab ⟨h3,h⟩;omega,h5⟩
     ·exact stay fun h => h.1 (by have : (i : Int) = j := by simpa using heq
                                  omega)
  ·have hjR:j=R:=by omega
   subst hjR;refine jS (by omega) ?_;refine ⟨⟨i+1,m2,rfl,by omega,hu2,hk2,λa b h1 h2=>?_⟩,by simp only [aK];omega⟩;rw [hm2 a b h1 h2,hm1 a b h1 h2];constructor
   ·rintro ((h|⟨h3,h4⟩)|⟨h3,_,h5⟩)
    ·exact .inl h
    ·exact .inr ⟨by omega,h4⟩
    ·exact .inr ⟨by omega,h5⟩
   ·rintro (h|⟨h3,h4⟩)
    ·exact .inl (.inl h)
    ·by_cases hai:a=i
     ·exact .inr ⟨hai,h2,h4⟩
     ·exact .inl (.inr ⟨by omega,h4⟩)
 ·have hiR:i=R:=by omega
  subst hiR;refine ⟨⟨m1,hu1,λa b h1 h2=>?_⟩,hk1⟩;rw [hm1 a b h1 h2];simp [h1]
def qZ (x slots:Int):Prop:=x=5\/x=6\/(16<=x/\x < 16+slots)
def KU (p:fU) (k r:Nat):Prop:=oK p k r\/(r:Int)=(p.at' k).df
def KT (p:fU) (r:Nat):Prop:=vI p (oK p) 0 r\/(r:Int) < p.params
def FW (S:Nat->Prop) (R:Nat) (of:List Int):Prop:=∀ (r s:Nat),s < r->r < R->S r->S s->of[r]?≠of[s]?
structure pJ (p:fU) (R:Nat) (of:List Int) (slots:Int):Prop where
 len:of.length=R
 s0:0<=slots
 s1:slots<=40
 val:∀ (r:Nat) (x:Int),of[r]?=some x->qZ x slots
 sets:∀ k,k < p.nodes.length->FW (KU p k) R of
 slot:∀ k,k < p.nodes.length->(p.at' k).leavesB=false->∀ (r:Nat) (x:Int),oK p k r->(r:Int)≠(p.at' k).df->of[r]?=some x->16<=x
 start:FW (KT p) R of
theorem aCl {k:Nat} (hm:∀ r,r < R->(m k r=true↔oK p k r)) (_:(p.at' k).df < R):∀ r,r < R->((xX (nE m k R) (p.at' k).df)[r]?=some true↔KU p k r):=by
 intro r hr;unfold xX KU;split
 ·rename_i h0
  by_cases he:(p.at' k).df.toNat=r
  ·rw [he,List.getElem?_set_self (by rw [gX];exact hr)];simp;right;omega
  ·rw [List.getElem?_set_ne he,mN hr];simp only [Option.some.injEq];rw [hm r hr];constructor
   ·exact .inl
   ·rintro (h|h)
    ·exact h
    ·omega
 ·rename_i h0
  rw [mN hr];simp only [Option.some.injEq];rw [hm r hr];constructor
  ·exact .inl
  ·rintro (h|h)
   ·exact h
   ·omega
def sH (o:List Int) (r:Int):List Int:=if 0<=r/\r ∉ o then o++[r] else o
def fJ (o l:List Int):List Int:=l.foldl sH o
theorem vE (o l:List Int) (r:Int):fJ o (l++[r])=sH (fJ o l) r:=by simp [fJ]
theorem aKj (o:List Int) (r:Int):(sH o r).length<=o.length+1:=by unfold sH;split<;>simp
theorem uC (o l:List Int):(fJ o l).length<=o.length+l.length:=by
 induction l generalizing o with
 | nil=>simp [fJ]
 | cons a l ih=>
  have:=ih (sH o a);have h1:=aKj o a;simp only [fJ,List.foldl_cons,List.length_cons] at this ⊢;omega
def yD (R:Nat) (o:List Int):List Bool:=(List.range R).map λr=>decide (((r:Nat):Int)∈o)
theorem rI (R:Nat) (o:List Int):(yD R o).length=R:=by simp [yD]
theorem zX (h:r < R):(yD R o)[r]?=some (decide ((r:Int)∈o)):=by simp [yD,h]
theorem aCv (h:r < R) (hn:(r:Int) ∉ o):(yD R o).set r true=yD R (sH o r):=by
 apply List.ext_getElem?;intro j;by_cases hj:j < R
 ·rw [zX hj];by_cases hr:r=j
  ·subst hr;rw [List.getElem?_set_self (by rw [rI];exact h)];simp [sH,hn]
  ·rw [List.getElem?_set_ne hr,zX hj]
   have:((j:Int)∈sH o r)↔(j:Int)∈o:=by
    unfold sH;rw [if_pos ⟨by omega,hn⟩];simp;omega
   simp only [this]
 ·rw [List.getElem?_eq_none (by simp [rI];omega),List.getElem?_eq_none (by rw [rI];omega)]
theorem aCu (R:Nat):(yD R []).map Value.bool=List.replicate R (.bool false):=by
 apply List.ext_getElem?;intro j;by_cases hj:j < R
 ·simp [yD,hj]
 ·rw [List.getElem?_eq_none (by simp [rI];omega),List.getElem?_eq_none (by simp;omega)]
structure RC where
 ub:Nat
 g0:Nat
 sg:Nat
 sx:Nat
 sn:Nat
 R:Nat
 L:Nat
 B:Nat
 gs:List Nat
def Mu (c:RC) (ov:Y) (i:Nat):Prop:=i=c.ub\/i=c.g0\/i=c.sg\/i=c.sx\/i=c.sn\/i∈c.gs\/ov.ownBlock=some i
structure Rx (w0 w:O) (c:RC) (ov:Y) (m:Mx) (sb:List Bool) (ord:List Int):Prop where
 ru:Ru w0 w c.ub c.g0 c.sg ov c.gs c.R m sb
 box:bO w c.sx [sl c.R c.sn] 95
 seen:bO w c.sn ((yD c.R ord).map Value.bool) 4
 ov:w.ownsRow c.B 3 1 ov ord.length (ord.map i64)
 lim:c.ub < c.L/\c.g0 < c.L/\c.sg < c.L/\∀ g∈c.gs,g < c.L
 ord':w0.heap.size<=c.L/\c.L<=c.sn/\c.sn < c.sx/\c.sx < c.B/\c.B<=w.heap.size
structure Mv (c:RC) (ov:Y) (w:O) (ov':Y) (w':O):Prop where
 fr:Fr (Mu c ov) w w'
 own:∀ k,ov'.ownBlock=some k->ov.ownBlock=some k\/w.heap.size<=k
theorem Mv.refl (c:RC) (ov:Y) (w:O):Mv c ov w ov w:=⟨Fr.refl _ _,λ_ h=>.inl h⟩
theorem Mv.trans {c:RC} {a b d:Y} {w1 w2 w3:O} (h:Mv c a w1 b w2) (k:Mv c b w2 d w3):Mv c a w1 d w3:=by
 refine ⟨h.fr.trans k.fr λi hi hm=>?_,λi hi=>?_⟩
 ·unfold Mu at hm ⊢;rcases hm with h1|h1|h1|h1|h1|h1|h1
  all_goals try (simp only [h1,true_or,or_true];done)
  rcases h.own i h1 with h2|h2
  ·simp only [h2,or_true]
  ·omega
 ·rcases k.own i hi with h1|h1
  ·exact h.own i h1
  ·exact .inr (Nat.le_trans h.fr.size h1)
theorem Mv.of_ext {c:RC} {ov:Y} {w w':O} (h:aG w w'):Mv c ov w ov w':=⟨Fr.of_ext h,λ_ h=>.inl h⟩
theorem Mv.far {c:RC} {a b:Y} (h:Mv c a w b w') (hi:i < w.heap.size) (hn:¬ Mu c a i):¬ Mu c b i:=by
 intro hm;refine hn ?_;unfold Mu at hm ⊢;rcases hm with h1|h1|h1|h1|h1|h1|h1
 all_goals try (simp only [h1,true_or,or_true];done)
 rcases h.own i h1 with h2|h2
 ·simp only [h2,or_true]
 ·omega
theorem Rx.lo {w0 w:O} {c:RC} {ov:Y} {m:Mx} {sb:List Bool} {ord:List Int} (h:Rx w0 w c ov m sb ord):∀ i,Mu c ov i->w0.heap.size<=i:=by
 have h1:=h.ord';have h2:=h.ru.lo;intro i hm;unfold Mu at hm;rcases hm with rfl|rfl|rfl|rfl|rfl|hm|hm
 ·exact h2.1
 ·exact h2.2.1
 ·exact h2.2.2.1
 iterate 2
  ·omega
 ·exact h2.2.2.2 i hm
 ·have:=(h.ov.lt i hm).1;omega
theorem Rx.hi {c:RC} (h:Rx w0 w c ov m sb ord):∀ i,Mu c ov i->i < w.heap.size:=by
 have h1:=h.ord';have h2:=h.lim;intro i hm;unfold Mu at hm;rcases hm with rfl|rfl|rfl|rfl|rfl|hm|hm
 iterate 5
  ·omega
 ·have:=h2.2.2.2 i hm;omega
 ·exact (h.ov.lt i hm).2
theorem Rx.fr {c:RC} (h:Rx w0 w c ov m sb ord) {S:Nat->Prop} (hf:Fr S w w') (hS:∀ i,Mu c ov i->¬ S i) (hx:aG w0 w'):Rx w0 w' c ov m sb ord:=by
 have m1:∀ {i},Mu c ov i->¬ S i:=λh=>hS _ h
 refine ⟨⟨hx,hf.blk h.ru.u (m1 (.inl rfl)),hf.blk h.ru.out (m1 (.inr (.inl rfl))),hf.blk h.ru.slot (m1 (.inr (.inr (.inl rfl)))),λk g hk=>hf.blk (h.ru.rows k g hk) (m1 (.inr (.inr (.inr (.inr (.inr (.inl (List.mem_of_getElem? hk)))))))),h.ru.lo,h.ru.ne,h.ru.nd⟩,
  hf.blk h.box (m1 (.inr (.inr (.inr (.inl rfl))))),hf.blk h.seen (m1 (.inr (.inr (.inr (.inr (.inl rfl)))))),hf.own h.ov λk hk=>m1 (.inr (.inr (.inr (.inr (.inr (.inr hk)))))),h.lim,?_⟩
 have:=h.ord';have:=hf.size;omega
theorem Rx.ext {c:RC} (h:Rx w0 w c ov m sb ord) (hx:aG w w'):Rx w0 w' c ov m sb ord:=
 h.fr (S:=λ_=>False) (Fr.of_ext hx) (λ_ _ h=>h) (h.ru.x.trans hx)
theorem VL {c:RC} {r:Int} (h:Rx w0 w c ov m sb ord) (hr:r < c.R) (hR:c.R<=40) (hl:ord.length<=1000) :
  rY prog (.func (.func 82) #[] #[.pointer (some ⟨c.sx,0,none⟩),.pointer (some ⟨c.ub,0,none⟩)]) #[i64 r] w λ_ w'=>∃ ov',Rx w0 w' c ov' m sb (sH ord r)/\Mv c ov w ov' w':=by
 refine ⟨_,_,rfl,?_⟩;refine bHg (t0:=i64 r) (t1:=.pointer (some ⟨c.sx,0,none⟩)) (t2:=.pointer (some ⟨c.ub,0,none⟩)) ?_;unfold ZR;have stay:sH ord r=ord->∃ ov',Rx w0 w c ov' m sb (sH ord r)/\Mv c ov w ov' w:=λhe=>⟨ov,by rw [he];exact h,Mv.refl _ _ _⟩;have hs0:=h.seen.slice (n:=c.R) (by simp [rI]) (by unfold maxLen;omega);refine fK.2 ?_;by_cases h0:r>=0
 ·simp only [h0,mD,bA,reduceIte,decide_true];obtain ⟨k,rfl⟩:∃ k:Nat,r=k:=⟨r.toNat,by omega⟩;have hk:k < c.R:=by omega
  refine ldV oU h.box ?_;refine mH hO oM hs0 (by omega) (by omega) (NQ (zX hk)) ?_;by_cases hin:(k:Int)∈ord
  ·simp only [hin,dO,aM,Bool.not_true,decide_true];exact stay (by simp [sH,hin])
  ·simp only [hin,dO,bH,Bool.not_false,decide_false];refine ldV oU h.box ?_;refine WH hO lE h.seen (by simp [rI]) (by omega) (by omega) rfl ?_;have hne:=h.ru.ne;have hlim:=h.lim;have hord:=h.ord';have hlo:=h.ru.lo;have hsn:c.sn < w.heap.size:=h.seen.lt;have f1:Fr (λi=>i=c.sn) w (w.setCell ⟨c.sn,(k:Int).toNat,none⟩ (.bool true)):=Fr.of_set rfl;have hov1:=f1.own h.ov λi hi=>by have:=(h.ov.lt i hi).1;omega
   refine aV (f1.blk h.ru.u (by omega)).boxed dY bE rfl ?_;refine jG bB [i64 (k:Int)] rfl rfl (by simp) rfl λv2 w2 ho2 x2=>?_;have hov2:=x2.own hov1;have hsz2:w.heap.size<=w2.heap.size:=by have:=x2.size;have:=f1.size;omega
   refine apL bB hov2 ho2 (by simp) (by simp [bX]) (by omega) (by unfold maxLen;omega) (by omega) λg cap w3 ho3 hg3 hlies=>?_;have f2:Fr (λi=>i=c.sn) w w2:=f1.trans (Fr.of_ext (S:=λi=>i=c.sn) x2) λ_ _ h=>h;have f3:Fr (λi=>i=c.sn\/ov.ownBlock=some i) w w3:=f2.or (Fr.of_grown (S:=λi=>ov.ownBlock=some i) hg3 λk hk=>hk);have far:∀ i,i < c.B->ov.ownBlock≠some i:=λi hi he=>by have:=(h.ov.lt i he).1;omega
   have hu3:=f3.blk h.ru.u (λh=>h.elim (by omega) (far c.ub (by omega)));refine FZ dY mR hu3 rfl (by simp) rfl ?_;have f4:Fr (λi=>(i=c.sn\/ov.ownBlock=some i)\/i=c.ub) w (w3.setCell ⟨c.ub,2,none⟩ (.slice (some ⟨g,0,none⟩) (ord.length+1) cap)):=f3.or (Fr.of_set rfl);have f34:Fr (λi=>i=c.ub) w3 (w3.setCell ⟨c.ub,2,none⟩ (.slice (some ⟨g,0,none⟩) (ord.length+1) cap)):=Fr.of_set rfl
   have f14:Fr (λi=>ov.ownBlock=some i\/i=c.ub) (w.setCell ⟨c.sn,(k:Int).toNat,none⟩ (.bool true)) (w3.setCell ⟨c.ub,2,none⟩ (.slice (some ⟨g,0,none⟩) (ord.length+1) cap)):=
    ((Fr.of_ext (S:=λ_=>False) x2).or (Fr.of_grown (S:=λi=>ov.ownBlock=some i) hg3 λk hk=>hk)).or f34 |>.mono λi hi=>by
     rcases hi with (hi|hi)|hi
     ·exact hi.elim
     ·exact .inl hi
     ·exact .inr hi
   have keep:∀ {i},i < c.B->i≠c.sn->i≠c.ub->¬ ((i=c.sn\/ov.ownBlock=some i)\/i=c.ub):=λ{i} h1 h2 h3 h4=>by
    rcases h4 with (h4|h4)|h4
    ·exact h2 h4
    ·exact far i h1 h4
    ·exact h3 h4
   have hord':sH ord (k:Int)=ord++[(k:Int)]:=by simp [sH,hin]
   have hMu:Fr (Mu c ov) w (w3.setCell ⟨c.ub,2,none⟩ (.slice (some ⟨g,0,none⟩) (ord.length+1) cap)):=f4.mono λi hi=>by
    unfold Mu;rcases hi with (hi|hi)|hi<;>simp only [hi,true_or,or_true]
   refine ⟨.slice (some ⟨g,0,none⟩) (ord.length+1) cap,⟨⟨hMu.ext h.ru.x h.lo,?_,f4.blk h.ru.out (keep (by omega) (by omega) (by omega)),f4.blk h.ru.slot (keep (by omega) (by omega) (by omega)),λq g' hq=>f4.blk (h.ru.rows q g' hq) (by have:=hlim.2.2.2 g' (List.mem_of_getElem? hq);have:=hne.2.2.2 g' (List.mem_of_getElem? hq);exact keep (by omega) (by omega) (by omega)),h.ru.lo,h.ru.ne,h.ru.nd⟩,
    f4.blk h.box (keep (by omega) (by omega) (by omega)),?_,?_,hlim,by have:=f4.size;omega⟩,hMu,λi hi=>?_⟩
   ·exact hu3.set 2 _
   ·rw [<- aCv hk hin,<- oH];have:=f14.blk (h.seen.set k (.bool true)) (λh=>h.elim (far c.sn (by omega)) (by omega));simpa using this
   ·rw [hord'];have:=f34.own ho3 λi hi hu=>by have:=(ho3.lt i hi).1;omega
    simpa using this
   ·have:g=i:=by simpa [Value.ownBlock] using hi
    subst this;rcases hlies with h1|h1
    ·exact .inl h1
    ·exact .inr (by omega)
 ·simp only [h0,lY,bA,aM,reduceIte,Bool.false_eq_true,decide_false];exact stay (by simp [sH];omega)
theorem Rx.setSlot {w0 w:O} {c:RC} {ov:Y} {m:Mx} {sb:List Bool} {ord:List Int} (h:Rx w0 w c ov m sb ord) (r:Nat) (v:Bool):Rx w0 (w.setCell ⟨c.sg,r,none⟩ (.bool v)) c ov m (sb.set r v) ord:=by
 have f:Fr (λi=>i=c.sg) w (w.setCell ⟨c.sg,r,none⟩ (.bool v)):=Fr.of_set rfl;have h1:=h.ord';have h2:=h.lim;refine ⟨h.ru.setSlot r v,f.blk h.box (by omega),f.blk h.seen (by omega),f.own h.ov λk hk he=>?_,h.lim,by have:=f.size;omega⟩;have:=(h.ov.lt k hk).1;omega
theorem Mv.set {c:RC} {ov ov':Y} {w w':O} (h:Mv c ov w ov' w') (r:Nat) (v:Y):Mv c ov w ov' (w'.setCell ⟨c.sg,r,none⟩ v):=⟨h.fr.set (.inr (.inr (.inl rfl))),h.own⟩
def rK (n:Nat):List Int:=(List.range n).map λr=>((r:Nat):Int)
theorem GJ (n:Nat):rK (n+1)=rK n++[((n:Nat):Int)]:=by simp [rK,List.range_succ]
theorem xZ (n:Nat):(rK n).length=n:=by simp [rK]
theorem aEz (hp:pW w pv p) (hv:lA p) (hR:p.regs=R) :
  aB prog 81 #[pv] w λr w'=>(∃ l:List Bool,l.length=R/\w'.ownsRow w.heap.size 4 1 r R (l.map .bool)/\∀ r < R,(l[r]?=some true↔vI p (oK p) 0 r))/\aG w w':=by
 have hp0:=hp;obtain ⟨ns,rfl,hns,hargs⟩:=hp;have hns0:=hns;obtain ⟨vs,hs,hvs⟩:=hns;have hl1:=hv.l1;have hl2:=hv.l2;have hr1:=hv.r1;have hr2:=hv.r2;obtain ⟨hpt,hrt⟩:=hv.at (k:=0) (by omega);obtain ⟨u,hu,hnu⟩:=hvs 0 _ hpt;apply bHh;unfold ZS;refine bx λb w1 hb x1=>?_;refine iC hb qY rfl ?_;refine (vB (p:=p) (hp0.ext x1) hv).mono λr w2 ⟨hr,x2⟩=>?_;subst hr;refine dO.2 (aM.2 ?_);have hb2:=hb.ext x2;have X2:=x1.trans x2;refine aL.mk' (λw'=>aG w2 w') (aG.refl _).drew ?_;refine iB (λw' hw=>hb2.ext hw) eR kY rfl ?_;refine nT nU BE (hs.ext X2) (λ_ h=>h) (by omega) (by omega) (by simpa using hu) ?_;refine yA (λw' hw=>hb2.ext hw) qY rfl ?_;refine (aEr (hp0.ext (X2.trans (aG.refl _).drew)) hv hR).mono λmv w3 ⟨⟨m,hm,ham⟩,x3⟩=>?_;have x3':aG w2 w3:=aG.trans (aG.refl _).drew x3;refine ⟨x3',λw'=>aG w3 w',λw' h=>x3'.trans h,aG.refl _,?_⟩;obtain ⟨cs,hcs,hrow⟩:=hm.row hl2 (by omega);obtain ⟨rv,hrv,hrb⟩:=hrow 0 (by omega);refine nT sR oU hcs (λ_ h=>h) (by omega) (by omega) (by simpa using hrv) ?_;have hdf:(p.at' 0).df < R:=by rcases hrt.d with h|h<;>omega
 have hus:∀ r∈(p.at' 0).us,0<=r/\r < ((nE m 0 R).length:Int):=λr hr=>by have:=hrt.u r hr;rw [gX];omega
 refine (OK (hnu.ext (X2.trans x3')) hrb (hargs _ (List.mem_of_getElem? hpt)) (by rw [gX];omega) (by rw [gX];exact hdf) hus).mono λav w4 ⟨hav,x4⟩=>?_;refine ⟨x4,λw'=>aG w3 w',λ_ h=>h,x4,⟨⟨_,?_,(aU (by rw [gX] at hav;exact hav) (X2.trans x3').size),λr hr=>?_⟩,(X2.trans x3').trans x4⟩⟩
 ·rw [xP,gX]
 ·rw [FJ (by rw [gX];exact hr) (λx hx=>(hus x hx).1)];rw [List.getD_eq_getElem?_getD,mN hr];simp only [Option.getD_some,Option.some.injEq,Bool.or_eq_true,Bool.and_eq_true,decide_eq_true_eq];unfold vI;rw [ham 0 r (by omega) hr]
theorem YX {c:RC} {lv:Y} {l:List Bool} (h:Rx w0 w c ov m sb ord) (hR:c.R<=40) (hgl:c.gs.length=c.R) (hl:l.length=c.R)
  (ha:w.ownsRow B 4 1 lv c.R (l.map Value.bool)) (hn:∀ k,lv.ownBlock=some k->¬ Mu c ov k) :
  aB prog 83 #[.pointer (some ⟨c.ub,0,none⟩),lv] w λ_ w'=>(∃ m',Rx w0 w' c ov m' sb ord/\∀ a b,a < c.R->b < c.R->(m' a b=true↔m a b=true\/(a≠b/\l[a]?=some true/\l[b]?=some true)))/\Fr (λi=>i∈c.gs) w w':=by
 refine (bGh hR hgl hl h.ru ha λk hk hg=>hn k hk (.inr (.inr (.inr (.inr (.inr (.inl hg))))))).mono λr w' ⟨⟨m',hru,hm⟩,hf⟩=>⟨⟨m',⟨hru,hf.blk h.box ?_,hf.blk h.seen ?_,hf.own h.ov λk hk hg=>?_,h.lim,?_⟩,hm⟩,hf⟩
 iterate 2
  ·intro hg;have:=h.lim.2.2.2 _ hg;have:=h.ord';omega
 ·have:=h.lim.2.2.2 _ hg;have:=h.ord';have:=(h.ov.lt k hk).1;omega
 ·have:=h.ord';have:=hf.size;omega
def Laid (w2:O) (R:Nat) (t3:Y) (w:O):Prop:=∃ ub g0 sg,t3=.pointer (some ⟨ub,0,none⟩)/\aG w2 w/\bO w ub [sl R g0,sl R sg,.slice none 0 0] 141/\bO w g0 (List.replicate R (.slice none 0 0)) 95/\bO w sg (List.replicate R (.bool false)) 4 /\
 w2.heap.size<=ub/\w2.heap.size<=g0/\w2.heap.size<=sg/\ub≠g0/\ub≠sg/\g0≠sg
theorem vO {w2:O} (hx:aG w2 w) (hu:bO w ub [.slice none 0 0,.slice none 0 0,.slice none 0 0] 141) (hm:bO w g0 (List.replicate R (.slice none 0 0)) 95) (hs:bO w sg (List.replicate R (.bool false)) 4)
  (h1:w2.heap.size<=ub) (h2:w2.heap.size<=g0) (h3:w2.heap.size<=sg) (h4:ub≠g0) (h5:ub≠sg) (h6:g0≠sg) :
  U prog (Instr.storeAt 141 (.pointer (some ⟨ub,0,none⟩)) (.agg #[sl R g0,sl R sg,.slice none 0 0])) w λ_ w'=>Laid w2 R (.pointer (some ⟨ub,0,none⟩)) w':=
 wR qT hu (l:=[sl R g0,sl R sg,.slice none 0 0]) rfl rfl rfl rfl λ_ hu' hc=>⟨ub,g0,sg,rfl,hc.ext w2 hx h1,hu',hc.other (Ne.symm h4) hm,hc.other (Ne.symm h5) hs,h1,h2,h3,h4,h5,h6⟩
def zP (p:fU) (a b:Nat):Prop:=a≠b/\((KT p a/\KT p b)\/∃ k,k < p.nodes.length/\KU p k a/\KU p k b)
def CN (p:fU) (r:Nat):Prop:=∃ k,k < p.nodes.length/\(p.at' k).leavesB=false/\oK p k r/\(r:Int)≠(p.at' k).df
def qS (p:fU) (R:Nat):List Int:=rK p.params.toNat++p.nodes.map aD.df++rK R
def bGl (p:fU) (R:Nat) (r:Y) (w:O):Prop:=∃ g0 sg ov m sb,r=.agg #[sl R g0,sl R sg,ov]/\zQ w (sl R g0) R R m/\gO w (sl R sg) sb/\sb.length=R/\aO w ov (fJ [] (qS p R)) /\
 (∀ a b,a < R->b < R->(m a b=true↔zP p a b))/\∀ r,r < R->(sb[r]?=some true↔CN p r)
theorem DF (hp:pW w pv p) (hv:lA p) (hR:p.regs=R) :
  aB prog 40 #[pv] w λr w'=>bGl p R r w'/\aG w w':=by
 have hp0:=hp;obtain ⟨ns,rfl,hns,hargs⟩:=hp;obtain ⟨vs,hs,hvs⟩:=hns;have hl1:=hv.l1;have hl2:=hv.l2;have hr1:=hv.r1;have hr2:=hv.r2;have hp1:=hv.p1;have hp2:=hv.p2;have hp3:=hv.p3;apply bIu;unfold aBc;refine bx λb w1 hb x1=>?_;refine zU qT λw2 hz x2=>?_;have hb2:=hb.ext x2;have X12:=x1.trans x2;refine ⟨Laid w2 R,?_,?_⟩
 rotate_left
 ·rintro _ w25 ⟨ub,g0,sg,rfl,x25,hu25,hg25,hs25,l1,l2,l3,n1,n2,n3⟩ _;refine aV (hb2.ext x25) gT aE rfl ?_;rw [hR];have hu25':=hu25.lt;have hg25':=hg25.lt;have hs25':=hs25.lt
  refine ⟨λv w'=>∃ gs:List Nat,v=i64 gs.length/\gs.length<=R/\aG w2 w'/\bO w' ub [sl R g0,sl R sg,.slice none 0 0] 141/\bO w' sg (List.replicate R (.bool false)) 4/\(∀ g∈gs,w2.heap.size<=g/\g < w'.heap.size/\g≠ub/\g≠g0/\g≠sg)/\gs.Nodup /\
    bO w' g0 (gs.map (sl R)++List.replicate (R - gs.length) (.slice none 0 0)) 95/\∀ g∈gs,bO w' g (List.replicate R (.bool false)) 4,
   λv _=>R - (RowKit.intOf v).toNat,⟨[],rfl,Nat.zero_le _,x25,hu25,hs25,by simp,List.nodup_nil,by simpa using hg25,by simp⟩,?_⟩
  rintro _ w4 ⟨gs,rfl,hle,x4,hu4,hs4,hgg,hnd,ho4,hrows4⟩ _;have hu4':=hu4.lt;have hs4':=hs4.lt;have ho4':=ho4.lt;refine aZ.2 (aC (λhlt=>?_) λhge=>?_)
  ·have D4:aG w4 w4.drew:=(aG.refl _).drew;refine aL.mk' (λw'=>aG w4 w') D4 ?_;refine iB (λw' hw=>(hu4.ext hw).boxed) eA iD rfl ?_;refine iB (λw' hw=>hb2.ext (x4.trans hw)) gT aE rfl ?_;refine yP hR underlying95 lE rfl (n:=R) (by omega) (by omega) λw5 hrow x5 hsz5=>?_;have x45:=D4.trans x5;have hz4:w4.drew.heap.size=w4.heap.size:=rfl;rw [hz4] at hrow hsz5;refine ⟨x45,?_⟩;refine aF.ok (λw' _=>aGu (by omega) (by omega)) ?_;rw [Int.toNat_natCast];refine LM sJ (ho4.ext x45) (by simp;omega) rfl ?_;refine jS (by omega) ?_;have hset:=(ho4.ext x45).set gs.length (sl R w4.heap.size);rw [LR R _ gs R (by omega)] at hset;have hx45:=x45.size;refine ⟨⟨gs++[w4.heap.size],by simp,by simp;omega,(x4.trans x45).setCell l2 _,(hu4.ext x45).other n1,(hs4.ext x45).other (Ne.symm n3),?_,?_,hset,?_⟩,by simp only [aK];omega⟩
   ·intro g hg;simp only [World.size_setCell];rcases List.mem_append.1 hg with h|h
    ·have:=hgg g h;omega
    ·have:g=w4.heap.size:=by simpa using h
     have:=x4.size;omega
   ·refine List.nodup_append.2 ⟨hnd,by simp,?_⟩;intro a ha c hc;have:c=w4.heap.size:=by simpa using hc
    have:=hgg a ha;omega
   ·intro g hg;rcases List.mem_append.1 hg with h|h
    ·exact ((hrows4 g h).ext x45).other (by have:=hgg g h;omega)
    ·have he:g=w4.heap.size:=by simpa using h
     subst he;exact hrow.other (by omega)
  have hgl:gs.length=R:=by omega
  rw [hgl,Nat.sub_self] at ho4;simp only [List.replicate_zero,List.append_nil] at ho4;refine iC (hb2.ext x4) qY rfl ?_;refine (aEz (hp0.ext (X12.trans x4)) hv hR).mono λav w5 ⟨⟨l,hll,hlo,hla⟩,x5⟩=>?_;have x25':=x4.trans x5;refine aV (hb2.ext x25') gT aE rfl ?_;refine yP hR underlying95 lE rfl (n:=R) (by omega) (by omega) λw6 hsn x6 hsz6=>?_;refine tH bKv rfl rfl λw7 hsx x7=>?_;refine fnK ?_;have x57:=x6.trans x7;have x27:=x25'.trans x57;have hsx':=hsx.lt;have hx7:=x7.size;have hx5:=x5.size;have hx4:=x4.size;have hc:∃ c:RC,c=⟨ub,g0,sg,w6.heap.size,w5.heap.size,R,w4.heap.size,w7.heap.size,gs⟩:=⟨_,rfl⟩;obtain ⟨c,hc⟩:=hc
  have hRx:Rx w2 w7 c (.slice none 0 0) (λ_ _=>false) (List.replicate R false) []:=by
   subst hc
   refine ⟨⟨x27,(hu4.ext x5).ext x57,(ho4.ext x5).ext x57,by simpa using (hs4.ext x5).ext x57,λk g hk=>by rw [DH];exact ((hrows4 g (List.mem_of_getElem? hk)).ext x5).ext x57,⟨l1,l2,l3,λg hg=>(hgg g hg).1⟩,⟨n1,n2,n3,λg hg=>(hgg g hg).2.2⟩,hnd⟩,
    hsx,by rw [aCu];exact hsn.ext x7,⟨rfl,.inl ⟨rfl,rfl⟩⟩,⟨hu4',ho4',hs4',λg hg=>(hgg g hg).2.1⟩,⟨hx4,hx5,by show w5.heap.size < w6.heap.size;omega,by show w6.heap.size < w7.heap.size;omega,Nat.le_refl _⟩⟩
  have hcub:c.ub=ub:=by rw [hc]
  have hcsx:c.sx=w6.heap.size:=by rw [hc]
  have hcg0:c.g0=g0:=by rw [hc]
  have hcsg:c.sg=sg:=by rw [hc]
  have hcgs:c.gs=gs:=by rw [hc]
  have hcR:c.R=R:=by rw [hc]
  have hav:∀ k,av.ownBlock=some k->¬ Mu c (.slice none 0 0) k:=by
   intro k hk hm;have hlt:=hlo.lt k hk;have h1:=hRx.ord';have h2:=hRx.lim;subst hc;simp only at h1 h2;unfold Mu at hm;rcases hm with h|h|h|h|h|h|h
   iterate 3
    ·omega
   iterate 2
    ·simp only at h;omega
   ·have:=h2.2.2.2 k h;omega
   ·cases h
  have hlo7:=x57.own hlo;rw [<- hcub,<- hcsx];clear hu4 hs4 ho4 hrows4 hgg hu25 hg25 hs25 hsn hsx;have hb7:∀ {w'},aG w2 w'->bF w' b _:=λh=>hb2.ext h;refine aV (hb7 x27) lM aE rfl ?_
  refine ⟨λv w'=>∃ (r:Nat) (ov:Y) (l':List Bool),v=i64 r/\(r:Int)<=p.params/\Rx w2 w' c ov (λ_ _=>false) (List.replicate R false) (fJ [] (rK r))/\l'.length=R/\w'.ownsRow w4.heap.size 4 1 av R (l'.map .bool) /\
    (∀ s,s < R->(l'[s]?=some true↔(vI p (oK p) 0 s\/s < r)))/\∀ k,av.ownBlock=some k->¬ Mu c ov k,
   λv _=>p.params.toNat - (RowKit.intOf v).toNat,⟨0,_,l,rfl,hp1,hRx,hll,hlo7,λs hs=>by rw [hla s hs];simp,hav⟩,?_⟩
  rintro _ w8 ⟨r,ov,l',rfl,hr,hRx8,hll',hlo8,hla',hav8⟩ _;have hordlen:=uC [] (rK r);rw [xZ] at hordlen;refine aZ.2 (aC (λhlt=>?_) λhge2=>?_)
  ·refine stO hO lE hlo8 (by omega) (by omega) rfl λw9 ho9 hg9=>?_;rw [oH] at ho9;have hx9:aG w2 w9:=hRx8.ru.x.grown hg9 λk hk=>by have:=(hlo8.lt k hk).1;omega
   have hRx9:=hRx8.fr (S:=λi=>av.ownBlock=some i) (Fr.of_grown hg9 λk hk=>hk) (λi hi hk=>hav8 i hk hi) hx9;refine (VL hRx9 (r:=(r:Int)) (by rw [hcR];omega) (by rw [hcR];omega) (by simp at hordlen;omega)).mono λ_ w10 ⟨ov',hRx10,hmv⟩=>?_;refine jS (by omega) ?_;refine ⟨⟨r+1,ov',l'.set r true,rfl,by omega,by rw [GJ,vE];exact hRx10,by simp [hll'],hmv.fr.own ho9 hav8,λs hs=>?_,λk hk=>hmv.far (ho9.lt k hk).2 (hav8 k hk)⟩,by simp only [aK];omega⟩;by_cases hsr:r=s
   ·subst hsr;rw [List.getElem?_set_self (by omega)];simp
   ·rw [List.getElem?_set_ne hsr,hla' s hs];constructor<;>(rintro (h|h)<;>first|exact .inl h|exact .inr (by omega))
  have hrp:(r:Int)=p.params:=by omega
  have hset:∀ s,s < R->(l'[s]?=some true↔KT p s):=λs hs=>by
   rw [hla' s hs];unfold KT;constructor<;>(rintro (h|h)<;>first|exact .inl h|exact .inr (by omega))
  refine (YX (l:=l') hRx8 (by rw [hcR];omega) (by rw [hcgs,hcR];exact hgl) (by rw [hcR];exact hll') (by rw [hcR];exact hlo8) hav8).mono λ_ w9 ⟨⟨m1,hRx9,hm1⟩,_⟩=>?_;refine iC (hb7 hRx9.ru.x) qY rfl ?_;refine (FF (hp0.ext (X12.trans hRx9.ru.x)) hv hR).mono λbv w10 ⟨⟨mB,hmB,hal⟩,x10⟩=>?_;have hhi:=hRx9.hi;have hRx10:=hRx9.ext x10;rw [show r=p.params.toNat by omega] at hRx10;obtain ⟨g0',gs',rfl,hgl',hout',hrows',hlo0',hlog'⟩:=hmB
  have keepB:∀ {ov' w'},Mv c ov w10 ov' w'->bO w' g0' (gs'.map (sl R)) 95/\∀ (k g:Nat),gs'[k]?=some g->bO w' g ((nE mB k R).map Value.bool) 4:=λ{ov' w'} h=>
   ⟨h.fr.blk hout' λhi=>by have:=hhi _ hi;omega,λk g hk=>h.fr.blk (hrows' k g hk) λhi=>by have:=hhi _ hi;have:=hlog' g (List.mem_of_getElem? hk);omega⟩
  refine gE sR (hout'.slice (n:=p.nodes.length) (by simpa using hgl') (by unfold maxLen;omega)) ?_
  refine ⟨λv w'=>∃ (k:Nat) (ov':Y) (m':Mx) (sb':List Bool),v=i64 k/\k<=p.nodes.length/\Rx w2 w' c ov' m' sb' (fJ [] (rK p.params.toNat++(p.nodes.take k).map aD.df))/\Mv c ov w10 ov' w'/\sb'.length=R /\
    (∀ a b,a < R->b < R->(m' a b=true↔a≠b/\((KT p a/\KT p b)\/∃ q,q < k/\KU p q a/\KU p q b))) /\
    (∀ s,s < R->(sb'[s]?=some true↔∃ q,q < k/\(p.at' q).leavesB=false/\oK p q s/\(s:Int)≠(p.at' q).df)),
   λv _=>p.nodes.length - (RowKit.intOf v).toNat,⟨0,ov,m1,_,rfl,Nat.zero_le _,by simpa using hRx10,Mv.refl _ _ _,by simp,λa b ha hb=>?_,λs hs=>by rw [List.getElem?_replicate_of_lt hs];simp⟩,?_⟩
  ·rw [hm1 a b (by omega) (by omega),hset a ha,hset b hb];simp
  rintro _ w11 ⟨k,ov1,m2,sb2,rfl,hk,hRx11,hmv11,hsbl,hm2,hsb2⟩ _;refine aZ.2 (aC (λhlt=>?_) λhge3=>?_)
  ·have hk':k < p.nodes.length:=by omega
   obtain ⟨hat,hrt⟩:=hv.at hk';obtain ⟨nv,hnv,hni⟩:=hvs k _ hat;obtain ⟨g',hg'⟩:=bI (l:=gs') (j:=k) (by omega);have hdf:(p.at' k).df < R:=by rcases hrt.d with h|h<;>omega
   refine mH sR oU ((keepB hmv11).1.slice (n:=p.nodes.length) (by simpa using hgl') (by unfold maxLen;omega)) (by omega) (by omega) (by simp [hg']:(gs'.map (sl R))[((k:Nat):Int).toNat]?=some (sl R g')) ?_;have hX11:=hRx11.ru.x;refine aV (hb7 hX11) eR kY rfl ?_;refine mH nU BE (hs.ext (X12.trans hX11)) (by omega) (by omega) (by simpa using hnv) ?_;refine (KI (hni.ext (X12.trans hX11))).mono λdv w12 ⟨hd,x12⟩=>?_;subst hd;have hRx12:=hRx11.ext x12
   have hol:(fJ [] (rK p.params.toNat++(p.nodes.take k).map aD.df)).length<=1000:=by
    have:=uC [] (rK p.params.toNat++(p.nodes.take k).map aD.df);simp only [List.length_append,List.length_map,List.length_take,xZ,List.length_nil] at this;omega
   refine (VL hRx12 (r:=(p.at' k).df) (by rw [hcR];exact hdf) (by rw [hcR];omega) hol).mono λ_ w13 ⟨ov2,hRx13,hmv13⟩=>?_;have hmv13':=(hmv11.trans (Mv.of_ext x12)).trans hmv13
   have hordk:sH (fJ [] (rK p.params.toNat++(p.nodes.take k).map aD.df)) (p.at' k).df=fJ [] (rK p.params.toNat++(p.nodes.take (k+1)).map aD.df):=by
    rw [<- vE,List.append_assoc,List.take_add_one,hat];simp
   rw [hordk] at hRx13;have hrow13:=(keepB hmv13').2 k g' hg'
   have hrl13:gO w13 (sl R g') (nE mB k R):=by
    have:=hrow13.slice (n:=R) (by simp [gX]) (by unfold maxLen;omega);unfold gO;rw [gX];exact this
   refine (aPy hrl13 (by rw [gX];omega) (by rw [gX];exact hdf)).mono λwv w14 ⟨hwo,x14⟩=>?_;rw [gX] at hwo;have hRx14:=hRx13.ext x14;have hhi13:=hRx13.hi;have hwl:(xX (nE mB k R) (p.at' k).df).length=R:=by rw [aCm,gX]
   refine (YX (l:=xX (nE mB k R) (p.at' k).df) hRx14 (by rw [hcR];omega) (by rw [hcgs,hcR];exact hgl) (by rw [hcR];exact hwl) (by rw [hcR];exact hwo) (λi hi hm=>by have:=hhi13 i hm;have:=(hwo.lt i hi).1;omega)).mono λ_ w15 ⟨⟨m3,hRx15,hm3⟩,hf15⟩=>?_;have hmv15:Mv c ov w10 ov2 w15:=(hmv13'.trans (Mv.of_ext x14)).trans ⟨hf15.mono λi hi=>.inr (.inr (.inr (.inr (.inr (.inl hi))))),λ_ h=>.inl h⟩;have hwset:=aCl (p:=p) (R:=R) (k:=k) (m:=mB) (λr hr=>hal k r hk' hr) hdf
   have hm3':∀ a b,a < R->b < R->(m3 a b=true↔a≠b/\((KT p a/\KT p b)\/∃ q,q < k+1/\KU p q a/\KU p q b)):=by
    intro a b ha hb;rw [hm3 a b (by omega) (by omega),hm2 a b ha hb,hwset a ha,hwset b hb];constructor
    ·rintro (⟨h1,h2|⟨q,h3,h4⟩⟩|⟨h1,h2⟩)
     ·exact ⟨h1,.inl h2⟩
     ·exact ⟨h1,.inr ⟨q,by omega,h4⟩⟩
     ·exact ⟨h1,.inr ⟨k,by omega,h2⟩⟩
    ·rintro ⟨h1,h2|⟨q,h3,h4⟩⟩
     ·exact .inl ⟨h1,.inl h2⟩
     ·by_cases hqk:q=k
      ·subst hqk;exact .inr ⟨h1,h4⟩
      ·exact .inl ⟨h1,.inr ⟨q,by omega,h4⟩⟩
   have hsl15:∀ {ov' w'},Mv c ov w10 ov' w'->aA w' (sl R g') 1 R ((nE mB k R).map Value.bool):=λh=>((keepB h).2 k g' hg').slice (n:=R) (by simp [gX]) (by unfold maxLen;omega);refine gE hO (hsl15 hmv15) ?_
   refine ⟨λv w'=>∃ (r:Nat) (sb':List Bool),v=i64 r/\r<=R/\Rx w2 w' c ov2 m3 sb' (fJ [] (rK p.params.toNat++(p.nodes.take (k+1)).map aD.df))/\Mv c ov w10 ov2 w'/\sb'.length=R /\
     (∀ s,s < R->(sb'[s]?=some true↔(sb2[s]?=some true\/(s < r/\(p.at' k).leavesB=false/\oK p k s/\(s:Int)≠(p.at' k).df)))),
    λv _=>R - (RowKit.intOf v).toNat,⟨0,sb2,rfl,Nat.zero_le _,hRx15,hmv15,hsbl,λs hs=>by simp⟩,?_⟩
   rintro _ w16 ⟨r2,sb3,rfl,hr2,hRx16,hmv16,hsb3l,hsb3⟩ _;refine aZ.2 (aC (λhlt5=>?_) λhge5=>?_)
   ·have hr2':r2 < R:=by omega
    refine mH hO oM (hsl15 hmv16) (by omega) (by omega) (NQ (mN hr2')) ?_;obtain ⟨sv,hsv⟩:=bI (l:=sb3) (j:=r2) (by omega);have D16:aG w16 w16.drew:=(aG.refl _).drew;have hRx17:=hRx16.ext D16;have hss:aA w16.drew (.slice (some ⟨c.sg,0,none⟩) c.R c.R) 1 c.R (sb3.map Value.bool):=hRx17.ru.slot.slice (by simp;omega) (by unfold maxLen;omega)
    have fin:∀ nv:Bool,(nv=true↔(sv=true\/((p.at' k).leavesB=false/\oK p k r2/\(r2:Int)≠(p.at' k).df))) ->
      aF prog (λw'=>w'=w16.drew) (Instr.indexAt 95 (.slice (some ⟨c.sg,0,none⟩) c.R c.R) (i64 (r2:Int))) λt106=>U prog (Instr.storeAt 4 t106 (.bool nv)) w16.drew λ_ w73=>V prog (binOp .add 3 (i64 (r2:Int)) (Value.int IntKind.i64 1)) w73 λt107 w74=>
       (∃ (r:Nat) (sb':List Bool),t107=i64 r/\r<=R/\Rx w2 w74 c ov2 m3 sb' (fJ [] (rK p.params.toNat++(p.nodes.take (k+1)).map aD.df))/\Mv c ov w10 ov2 w74/\sb'.length=R/\(∀ s,s < R->(sb'[s]?=some true↔(sb2[s]?=some true\/(s < r/\(p.at' k).leavesB=false/\oK p k s/\(s:Int)≠(p.at' k).df)))))/\R - (RowKit.intOf t107).toNat < R - (RowKit.intOf (i64 (r2:Int))).toNat:=by
     intro nv hnv;refine aF.ok (λw' _=>WP (by omega) (by omega)) ?_;rw [Int.toNat_natCast];refine LM lE hRx17.ru.slot (by simp;omega) rfl ?_;refine jS (by omega) ?_;refine ⟨⟨r2+1,sb3.set r2 nv,rfl,by omega,hRx17.setSlot r2 nv,(hmv16.trans (Mv.of_ext D16)).set r2 _,by simp [hsb3l],λs hs=>?_⟩,by simp only [aK];omega⟩;by_cases hsr:r2=s
     ·subst hsr;rw [List.getElem?_set_self (by omega)];simp only [Option.some.injEq];have h3:=hsb3 r2 hs;rw [hsv] at h3;simp only [Option.some.injEq] at h3;rw [hnv,h3];constructor
      ·rintro ((h|h)|h)
       ·exact .inl h
       ·omega
       ·exact .inr ⟨by omega,h⟩
      ·rintro (h|⟨_,h⟩)
       ·exact .inl (.inl h)
       ·exact .inr h
     ·rw [List.getElem?_set_ne hsr,hsb3 s hs];constructor
      iterate 2
       ·rintro (h|⟨h1,h2⟩)
        ·exact .inl h
        ·exact .inr ⟨by omega,h2⟩
    have hal':=hal k r2 hk' hr2';refine aL.mk' (λw'=>w'=w16.drew) rfl ?_;refine iB (λw' hw=>hw▸hRx17.ru.u.boxed) dZ oU rfl ?_;refine iB (λw' hw=>hw▸hRx17.ru.u.boxed) dZ oU rfl ?_;refine nT hO oM hss (λw' hw=>hw▸aG.refl _) (by omega) (by omega) (NQ hsv) ?_;cases hsb:sv with
    | true=>
     simp only [rV,US,HU,bA,reduceIte];refine ⟨trivial,?_⟩;exact fin true (by simp [hsb])
    | false=>
     by_cases hmk:mB k r2=true
     ·simp only [hmk,wI,NR,bA,reduceIte,Bool.false_eq_true];refine aF.ok (λw' _=>wX) ?_;by_cases hrd:(r2:Int)≠(p.at' k).df
      ·simp only [hrd,ne_eq,not_false_eq_true,mD,wI,bA,reduceIte,decide_true];refine (aDr (hni.ext (X12.trans hRx17.ru.x))).mono λrv w' ⟨h1,h2⟩=>?_;subst h1;subst h2;refine ⟨rfl,?_⟩;refine aF.ok (λ_ _=>vZ) ?_;exact fin (!(p.at' k).leavesB) (by cases hlb:(p.at' k).leavesB<;>simp [hsb,hal'.1 hmk,hrd])
      ·simp only [hrd,lY,UT,bA,reduceIte,Bool.false_eq_true,decide_false];refine ⟨trivial,?_⟩;exact fin false (by simp [hsb];intro _ _;simpa using hrd)
     ·simp only [hmk,lY,NR,UT,bA,reduceIte,Bool.false_eq_true];refine ⟨trivial,?_⟩;exact fin false (by simp [hsb];intro _ h;exact absurd (hal'.2 h) hmk)
   ·refine jS (by omega) ?_;refine ⟨⟨k+1,ov2,m3,sb3,rfl,by omega,hRx16,hmv16,hsb3l,hm3',λs hs=>?_⟩,by simp only [aK];omega⟩;rw [hsb3 s hs,hsb2 s hs];constructor
    ·rintro (⟨q,h1,h2⟩|⟨h1,h2⟩)
     ·exact ⟨q,by omega,h2⟩
     ·exact ⟨k,by omega,h2⟩
    ·rintro ⟨q,h1,h2⟩;by_cases hqk:q=k
     ·subst hqk;exact .inr ⟨by omega,h2⟩
     ·exact .inl ⟨q,by omega,h2⟩
  ·have hkN:k=p.nodes.length:=by omega
   subst hkN;rw [List.take_of_length_le (Nat.le_refl _)] at hRx11;refine aV (hb7 hRx11.ru.x) gT aE rfl ?_;rw [hR]
   refine ⟨λv w'=>∃ (r:Nat) (ov':Y),v=i64 r/\r<=R/\Rx w2 w' c ov' m2 sb2 (fJ [] (rK p.params.toNat++p.nodes.map aD.df++rK r)),
    λv _=>R - (RowKit.intOf v).toNat,⟨0,ov1,rfl,Nat.zero_le _,by simpa [rK] using hRx11⟩,?_⟩
   rintro _ w12 ⟨r3,ov3,rfl,hr3,hRx12⟩ _;refine aZ.2 (aC (λhlt6=>?_) λhge6=>?_)
   ·have hol:(fJ [] (rK p.params.toNat++p.nodes.map aD.df++rK r3)).length<=1000:=by
     have:=uC [] (rK p.params.toNat++p.nodes.map aD.df++rK r3);simp only [List.length_append,List.length_map,xZ,List.length_nil] at this;omega
    refine (VL hRx12 (r:=(r3:Int)) (by rw [hcR];omega) (by rw [hcR];omega) hol).mono λ_ w13 ⟨ov4,hRx13,_⟩=>?_;refine jS (by omega) ?_;exact ⟨⟨r3+1,ov4,rfl,by omega,by rw [GJ,<- List.append_assoc,vE];exact hRx13⟩,by simp only [aK];omega⟩
   ·have hrR:r3=R:=by omega
    subst hrR;refine iC hRx12.ru.u.boxed UB rfl ?_;have hX:=hRx12.ru.x;have hzl:=hz.lt;have hlo12:=hRx12.lo;have hov3:=hRx12.ov;refine wR qT (hz.ext hX) (l:=[.slice (some ⟨c.g0,0,none⟩) c.R c.R,.slice (some ⟨c.sg,0,none⟩) c.R c.R,ov3]) rfl rfl rfl (by have:=oQ hov3;simp only [List.all_cons,List.all_nil,this,Bool.and_true];rfl) λw' h' hch=>?_;refine ⟨_,oF underlying141 rfl qT h' rfl,⟨_,rfl⟩,⟨c.g0,c.sg,ov3,m2,sb2,by rw [hcR];rfl,⟨c.g0,c.gs,rfl,by rw [hcgs];exact hgl,?_,?_⟩,?_,hsbl,?_,?_,?_⟩,hch.ext w (X12.trans hX) x1.size⟩
    ·have:=hch.other (by have:=hRx12.ru.lo;omega) hRx12.ru.out;rw [hcR] at this;exact this
    ·intro q g hq;have:=hch.other (by have:=hRx12.ru.lo.2.2.2 g (List.mem_of_getElem? hq);omega) (hRx12.ru.rows q g hq);rw [hcR] at this;exact this
    ·have:=(hch.other (by have:=hRx12.ru.lo;omega) hRx12.ru.slot).slice (n:=sb2.length) (by simp) (by unfold maxLen;omega);unfold gO sl;rw [hsbl] at this ⊢;exact this
    ·have:=hch.own hov3 (by have:=hRx12.ord';omega);exact this
    ·exact λa b ha hb=>hm2 a b ha hb
    ·exact λs hs=>hsb2 s hs
 refine aL.mk' (λw'=>aG w2 w') (aG.refl _).drew ?_;have X2:aG w2 w2.drew:=(aG.refl _).drew;refine iB (λw' hw=>hb2.ext hw) gT aE rfl ?_;refine iB (λw' hw=>hb2.ext hw) gT aE rfl ?_;refine ⟨?_,?_,?_⟩
 ·refine yP hR underlying139 sJ rfl (n:=R) (by omega) (by omega) λwa hM xa sM=>?_;have Xa:=X2.trans xa;refine ⟨Xa,?_,?_⟩
  ·refine yP hR underlying95 lE rfl (n:=R) (by omega) (by omega) λwb hB xb sB=>?_;have Xb:=Xa.trans xb;refine ⟨Xb,?_⟩;refine mM AQ [(0,_),(1,_),(2,Value.slice none 0 0)] rfl (by simp [bX]) ?_;refine zU qT λwc hA xc=>?_;have Xc:=Xb.trans xc;refine ⟨Xc,?_⟩;have za:=xa.size;have zb:=xb.size;have la:=(hM).lt;have lb:=(hB).lt;have zw:w2.heap.size=w2.drew.heap.size:=rfl;exact vO Xc hA ((hM.ext xb).ext xc) (hB.ext xc) (by omega) (by omega) (by omega) (by omega) (by omega) (by omega)
  ·refine zU qT λwb hA xb=>?_;have Xb:=Xa.trans xb;refine ⟨Xb,?_⟩;refine yP hR underlying95 lE rfl (n:=R) (by omega) (by omega) λwc hB xc sB=>?_;have Xc:=Xb.trans xc;refine ⟨Xc,?_⟩;refine mM AQ [(0,_),(1,_),(2,Value.slice none 0 0)] rfl (by simp [bX]) ?_;have za:=xa.size;have zb:=xb.size;have la:=(hM).lt;have lb:=(hA).lt;have zw:w2.heap.size=w2.drew.heap.size:=rfl;exact vO Xc (hA.ext xc) ((hM.ext xb).ext xc) hB (by omega) (by omega) (by omega) (by omega) (by omega) (by omega)
 ·refine yP hR underlying95 lE rfl (n:=R) (by omega) (by omega) λwa hB xa sB=>?_;have Xa:=X2.trans xa;refine ⟨Xa,?_,?_⟩
  ·refine yP hR underlying139 sJ rfl (n:=R) (by omega) (by omega) λwb hM xb sM=>?_;have Xb:=Xa.trans xb;refine ⟨Xb,?_⟩;refine mM AQ [(0,_),(1,_),(2,Value.slice none 0 0)] rfl (by simp [bX]) ?_;refine zU qT λwc hA xc=>?_;have Xc:=Xb.trans xc;refine ⟨Xc,?_⟩;have za:=xa.size;have zb:=xb.size;have la:=(hB).lt;have lb:=(hM).lt;have zw:w2.heap.size=w2.drew.heap.size:=rfl;exact vO Xc hA (hM.ext xc) ((hB.ext xb).ext xc) (by omega) (by omega) (by omega) (by omega) (by omega) (by omega)
  ·refine zU qT λwb hA xb=>?_;have Xb:=Xa.trans xb;refine ⟨Xb,?_⟩;refine yP hR underlying139 sJ rfl (n:=R) (by omega) (by omega) λwc hM xc sM=>?_;have Xc:=Xb.trans xc;refine ⟨Xc,?_⟩;refine mM AQ [(0,_),(1,_),(2,Value.slice none 0 0)] rfl (by simp [bX]) ?_;have za:=xa.size;have zb:=xb.size;have la:=(hB).lt;have lb:=(hA).lt;have zw:w2.heap.size=w2.drew.heap.size:=rfl;exact vO Xc (hA.ext xc) hM ((hB.ext xb).ext xc) (by omega) (by omega) (by omega) (by omega) (by omega) (by omega)
 ·refine zU qT λwa hA xa=>?_;have Xa:=X2.trans xa;refine ⟨Xa,?_,?_⟩
  ·refine yP hR underlying139 sJ rfl (n:=R) (by omega) (by omega) λwb hM xb sM=>?_;have Xb:=Xa.trans xb;refine ⟨Xb,?_⟩;refine yP hR underlying95 lE rfl (n:=R) (by omega) (by omega) λwc hB xc sB=>?_;have Xc:=Xb.trans xc;refine ⟨Xc,?_⟩;refine mM AQ [(0,_),(1,_),(2,Value.slice none 0 0)] rfl (by simp [bX]) ?_;have za:=xa.size;have zb:=xb.size;have la:=(hA).lt;have lb:=(hM).lt;have zw:w2.heap.size=w2.drew.heap.size:=rfl;exact vO Xc ((hA.ext xb).ext xc) (hM.ext xc) hB (by omega) (by omega) (by omega) (by omega) (by omega) (by omega)
  ·refine yP hR underlying95 lE rfl (n:=R) (by omega) (by omega) λwb hB xb sB=>?_;have Xb:=Xa.trans xb;refine ⟨Xb,?_⟩;refine yP hR underlying139 sJ rfl (n:=R) (by omega) (by omega) λwc hM xc sM=>?_;have Xc:=Xb.trans xc;refine ⟨Xc,?_⟩;refine mM AQ [(0,_),(1,_),(2,Value.slice none 0 0)] rfl (by simp [bX]) ?_;have za:=xa.size;have zb:=xb.size;have la:=(hA).lt;have lb:=(hB).lt;have zw:w2.heap.size=w2.drew.heap.size:=rfl;exact vO Xc ((hA.ext xb).ext xc) hM (hB.ext xc) (by omega) (by omega) (by omega) (by omega) (by omega) (by omega)
theorem aIz {of:List Int} (hl:of.length=R) (h0:0<=slots) (h1:slots<=40) (hm:∀ a b,a < R->b < R->(m a b=true↔zP p a b)) (hs:∀ r,r < R->(sb[r]?=some true↔CN p r)) :
  (∀ (r:Nat) (x:Int),r < R->of[r]?=some x->qZ x slots/\BU m sb of r x)↔pJ p R of slots:=by
 have lt:∀ {r:Nat} {x:Int},of[r]?=some x->r < R:=λh=>by have:=(List.getElem?_eq_some_iff.1 h).1;omega
 constructor
 ·intro h
  have ap:∀ S:Nat->Prop,(∀ a b,a≠b->S a->S b->zP p a b)->FW S R of:=by
   intro S hS r s hsr hr h2 h3 he;obtain ⟨x,hx⟩:=bI (l:=of) (j:=r) (by omega);exact (h r x hr hx).2.2 s x (by rw [<- he];exact hx) ((hm r s hr (by omega)).2 (hS r s (by omega) h2 h3)) rfl
  exact ⟨hl,h0,h1,λr x hx=>(h r x (lt hx) hx).1,λk hk=>ap _ λa b hab ha hb=>⟨hab,.inr ⟨k,hk,ha,hb⟩⟩,λk hk hlb r x hal hne hx=>(h r x (lt hx) hx).2.1 ((hs r (lt hx)).2 ⟨k,hk,hlb,hal,hne⟩),ap _ λa b hab ha hb=>⟨hab,.inl ⟨ha,hb⟩⟩⟩
 ·intro h r x hr hx;refine ⟨h.val r x hx,λhsl=>?_,λo y hy hmo he=>?_⟩
  ·obtain ⟨k,hk,hlb,hal,hne⟩:=(hs r hr).1 hsl;exact h.slot k hk hlb r x hal hne hx
  ·subst he;obtain ⟨hne,hset⟩:=(hm r o hr (lt hy)).1 hmo
   have ap:∀ S:Nat->Prop,FW S R of->S r->S o->False:=by
    intro S hS h2 h3;by_cases hlt:o < r
    ·exact hS r o hlt hr h2 h3 (by rw [hx,hy])
    ·exact hS o r (by omega) (lt hy) h3 h2 (by rw [hx,hy])
   rcases hset with ⟨h2,h3⟩|⟨k,hk,h2,h3⟩
   ·exact ap _ h.start h2 h3
   ·exact ap _ (h.sets k hk) h2 h3
theorem HB {v:Y} {l:List Int} (h:aO w v l):bX v=true:=by
 obtain ⟨a,c,rfl⟩:=h.shape;rfl
theorem GA {ofv:Y} {of:List Int} (hp:pW w pv p) (hv:lA p) (hR:p.regs=R) (ho:aO w ofv of) (_:of.length<=1000000) :
  aB prog 36 #[pv,.agg #[ofv,i64 slots]] w λr w'=>(∃ ok:Bool,r=.bool ok/\(ok=true↔pJ p R of slots))/\aG w w':=by
 have hp0:=hp;obtain ⟨ns,rfl,hns,hargs⟩:=hp;obtain ⟨oa,oc,rfl⟩:=ho.shape;have hr1:=hv.r1;have hr2:=hv.r2;have no:∀ {w'},aG w w'->¬ pJ p R of slots->(∃ ok:Bool,Value.bool false=.bool ok/\(ok=true↔pJ p R of slots))/\aG w w':=λhx hn=>⟨⟨false,rfl,λh=>(by cases h),λh=>absurd h hn⟩,hx⟩;apply bIy;unfold aBg;refine bx λb w1 hb x1=>?_;refine bx λb2 w2 hb2 x2=>?_;have X2:=x1.trans x2;have hb':=hb.ext x2;refine iC hb' qY rfl ?_;refine (vB (p:=p) (hp0.ext X2) hv).mono λr w3 ⟨hr,x3⟩=>?_;subst hr;have hb3:=hb'.ext x3;have hb23:=hb2.ext x3;have X3:=X2.trans x3;refine dO.2 ?_;simp only [pD,bA,reduceIte,Bool.false_eq_true,Bool.not_true];refine aV hb23 mJ bE rfl (gE aP (ho.ext X3) ?_);refine aV hb3 gT aE rfl (cL.2 ?_);rw [hR];by_cases h1:((of.length:Nat):Int)≠((R:Nat):Int)
 ·simp only [h1,ne_eq,not_false_eq_true,uH,bA,bH,reduceIte,decide_true];exact no X3 λh=>h1 (by have:=h.len;omega)
 have h1':of.length=R:=by omega
 simp only [h1,pD,bA,reduceIte,Bool.false_eq_true,decide_false];refine aV hb23 mV aE rfl (aZ.2 ?_);by_cases h2:slots < 0
 ·simp only [h2,uH,bA,bH,reduceIte,decide_true];exact no X3 λh=>by have:=h.s0;omega
 simp only [h2,pD,bA,reduceIte,Bool.false_eq_true,decide_false];refine aV hb23 mV aE rfl (jF.2 ?_);by_cases h3:slots > 40
 ·simp only [h3,bH,decide_true];exact no X3 λh=>by have:=h.s1;omega
 simp only [h3,aM,decide_false];refine iC hb3 qY rfl ?_;refine (DF (hp0.ext X3) hv hR).mono λrv w4 ⟨⟨g0,sg,ov,m,sb,hrv,hmat,hsb,hsbl,hov,hm,hs⟩,x4⟩=>?_;subst hrv;refine tH aGd rfl (by have:=HB hov;show (bX (sl R g0)&&(bX (sl R sg)&&(bX ov&&true)))=true;rw [this];rfl) λw5 hu5 x5=>?_;have x35:=x4.trans x5;have X5:=X3.trans x35;refine aV (hb23.ext x35) mJ bE rfl (gE aP (ho.ext X5) ?_);have hgood:=aIz (p:=p) (slots:=slots) h1' (by omega) (by omega) hm hs;refine ⟨λv w'=>∃ i:Nat,v=i64 i/\i<=of.length/\aG w5 w'/\∀ (r:Nat) (x:Int),r < i->of[r]?=some x->qZ x slots/\BU m sb of r x,λv _=>of.length - (RowKit.intOf v).toNat,⟨0,rfl,Nat.zero_le _,aG.refl _,λr x h=>by omega⟩,?_⟩;rintro _ w6 ⟨i,rfl,hi,x6,hval⟩ _;have x36:=x35.trans x6;have X6:=X5.trans x6;refine aZ.2 (aC (λhlt=>?_) λhge=>?_)
 ·have hi':i < of.length:=by omega
  obtain ⟨x,hx⟩:=bI hi';refine mH aP aE (ho.ext X6) (by omega) (by omega) (cM hx) (cL.2 ?_);have bad:¬ qZ x slots->(∃ ok:Bool,Value.bool false=.bool ok/\(ok=true↔pJ p R of slots))/\aG w w6:=λh=>no X6 λhg=>h (hg.val i x hx)
  have ok:qZ x slots->aB prog 41 #[.agg #[sl R g0,sl R sg,ov],i64 (i:Int),i64 x,.slice oa of.length oc] w6 λq w'=>(∃ ok:Bool,q=.bool ok/\(ok=true↔BU m sb of i x))/\aG w6 w':=λ_=>
   aHx (by omega) ((hmat.ext x5).ext x6) ((hsb.ext x5).ext x6) hsbl (ho.ext X6) h1' (by omega)
  have fin:qZ x slots->V prog (Instr.loadAt 141 (.pointer (some ⟨w4.heap.size,0,none⟩))) w6 λt57 w46=>
    V prog (Instr.fieldAt 72 (.pointer (some ⟨b2,0,none⟩)) 0) w46 λt60 w49=>V prog (Instr.loadAt 23 t60) w49 λt61 w50=>aB prog 41 #[t57,i64 (i:Int),i64 x,t61] w50 λt62 w51=>
    V prog (Op.unary UnOp.not t62) w51 λt63 w52=>aI t63 ((∃ ok:Bool,Value.bool false=.bool ok/\(ok=true↔pJ p R of slots))/\aG w w52) (V prog (binOp .add 3 (i64 (i:Int)) (Value.int IntKind.i64 1)) w52 λt65 w54=>
     (∃ i:Nat,t65=i64 i/\i<=of.length/\aG w5 w54/\∀ (r:Nat) (x:Int),r < i->of[r]?=some x->qZ x slots/\BU m sb of r x)/\of.length - (RowKit.intOf t65).toNat < of.length - (RowKit.intOf (i64 (i:Int))).toNat):=by
   intro hvx;refine iC (hu5.ext x6).boxed UB rfl ?_;refine aV (hb23.ext x36) mJ bE rfl ?_;refine (ok hvx).mono λq w7 ⟨⟨a,hq,ha⟩,x7⟩=>?_;subst hq;refine dO.2 (aI.mk (λhn=>?_) λhn=>?_)
   ·refine no (X6.trans x7) λhg=>?_;have:=ha.2 (hgood.2 hg i x (by omega) hx).2;subst this;cases hn
   ·refine jS (by omega) ?_;refine ⟨⟨i+1,rfl,by omega,x6.trans x7,λr y hr hy=>?_⟩,by simp only [aK];omega⟩;by_cases hri:r=i
    ·subst hri;rw [hx] at hy;cases hy;exact ⟨hvx,ha.1 (by simpa using hn)⟩
    ·exact hval r y (by omega) hy
  by_cases h5:x=5
  ·simp only [h5,ne_eq,not_true_eq_false,pD,lY,rV,bA,reduceIte,Bool.false_eq_true,decide_false];exact h5▸fin (.inl h5)
  simp only [h5,ne_eq,not_false_eq_true,cL,mD,bA,reduceIte,decide_true];by_cases h6:x=6
  ·simp only [h6,not_true_eq_false,pD,lY,rV,bA,reduceIte,Bool.false_eq_true,decide_false];exact h6▸fin (.inr (.inl h6))
  simp only [h6,not_false_eq_true,aZ,mD,bA,reduceIte,decide_true];by_cases h16:x < 16
  ·simp only [h16,uH,bA,bH,reduceIte,decide_true];exact bad (by unfold qZ;omega)
  simp only [h16,pD,reduceIte,Bool.false_eq_true,decide_false];refine aV (hb23.ext x36) mV aE rfl (bJ.2 ?_);rw [aQ (by omega)];simp only [fK,bA];by_cases h17:x>=16+slots
  ·simp only [h17,uH,bH,reduceIte,decide_true];exact bad (by unfold qZ;omega)
  simp only [h17,pD,reduceIte,Bool.false_eq_true,decide_false];exact fin (by unfold qZ;omega)
 ·refine ⟨⟨true,rfl,λ_=>hgood.1 λr x hr hx=>hval r x (by omega) hx,λ_=>rfl⟩,X6⟩
def sX (p:fU) (of:List Int) (r:Nat) (at':Int):Prop:=(CN p r->16<=at')/\∀ (o:Nat) (y:Int),of[o]?=some y->zP p r o->y≠at'
theorem bLp {of:List Int} {at':Int} (hl:of.length=R) (hm:∀ a b,a < R->b < R->(m a b=true↔zP p a b)) (hs:∀ r,r < R->(sb[r]?=some true↔CN p r)) (hr:r < R):BU m sb of r at'↔sX p of r at':=by
 have lt:∀ {r:Nat} {x:Int},of[r]?=some x->r < R:=λh=>by have:=(List.getElem?_eq_some_iff.1 h).1;omega
 unfold BU sX;rw [hs r hr];exact ⟨λh=>⟨h.1,λo y hy hmo=>h.2 o y hy ((hm r o hr (lt hy)).2 hmo)⟩,λh=>⟨h.1,λo y hy hmo=>h.2 o y hy ((hm r o hr (lt hy)).1 hmo)⟩⟩
theorem zP.symm {p:fU} {a b:Nat} (h:zP p a b):zP p b a:=by
 obtain ⟨h1,h2⟩:=h;refine ⟨λh=>h1 h.symm,?_⟩;rcases h2 with ⟨h2,h3⟩|⟨k,hk,h2,h3⟩
 ·exact .inl ⟨h3,h2⟩
 ·exact .inr ⟨k,hk,h3,h2⟩
structure Al (p:fU) (R:Nat) (ord:List Int) (i:Nat) (of:List Int) (slots:Int):Prop where
 len:of.length=R
 s0:0<=slots
 s1:slots<=40
 placed:∀ (r:Nat) (x:Int),of[r]?=some x->(((r:Int)∈ord.take i->qZ x slots/\sX p of r x)/\((r:Int) ∉ ord.take i->x=0))
theorem Al.start (p:fU) (R:Nat) (ord:List Int):Al p R ord 0 (List.replicate R 0) 0:=by
 refine ⟨by simp,by omega,by omega,λr x hx=>⟨λh=>by simp at h,λ_=>?_⟩⟩;have:=List.mem_of_getElem? hx;simp at this;exact this.2
theorem Al.step {of:List Int} {at':Int} (h:Al p R ord i of slots) (hr:r < R) (hi:ord[i]?=some (r:Int)) (hm:sX p of r at') (ha:at'=5\/at'=6\/16<=at') (ha2:at'<=55) :
  Al p R ord (i+1) (of.set r at') (max slots (at' - 15)):=by
 have hs0:=h.s0;have hs1:=h.s1;have hval:∀ {x},qZ x slots->qZ x (max slots (at' - 15)):=by unfold qZ;omega
 have htake:ord.take (i+1)=ord.take i++[(r:Int)]:=by rw [List.take_add_one,hi];rfl
 have hlen:=h.len;refine ⟨by simp [h.len],by omega,by omega,λq x hx=>?_⟩;by_cases hq:r=q
 ·subst hq;rw [List.getElem?_set_self (by omega)] at hx;cases hx;refine ⟨λ_=>⟨by unfold qZ;omega,hm.1,λo y hy hmo=>?_⟩,λhn=>absurd (by rw [htake];simp) hn⟩;rw [List.getElem?_set_ne (λe=>hmo.1 e)] at hy;exact hm.2 o y hy hmo
 ·rw [List.getElem?_set_ne hq] at hx;obtain ⟨h1,h2⟩:=h.placed q x hx;refine ⟨λhmem=>?_,λhn=>h2 λhmem=>hn (by rw [htake];simp [hmem])⟩
  have hmem':(q:Int)∈ord.take i:=by
   rw [htake] at hmem;rcases List.mem_append.1 hmem with h3|h3
   ·exact h3
   ·have:(q:Int)=r:=by simpa using h3
    omega
  obtain ⟨h3,h4⟩:=h1 hmem';refine ⟨hval h3,h4.1,λo y hy hmo=>?_⟩;by_cases ho:r=o
  ·subst ho;rw [List.getElem?_set_self (by omega)] at hy;cases hy;exact (λe=>hm.2 q x hx hmo.symm e.symm)
  ·rw [List.getElem?_set_ne ho] at hy;exact h4.2 o y hy hmo
theorem aDj {gs:List Int} (h:gs.Nodup) {j:Nat} {g:Int} (hi:gs[i]?=some g) (hj:gs[j]?=some g):i=j:=by
 obtain ⟨hi',hi2⟩:=List.getElem?_eq_some_iff.1 hi;obtain ⟨hj',hj2⟩:=List.getElem?_eq_some_iff.1 hj;have hp:=List.pairwise_iff_getElem.1 h;rcases Nat.lt_trichotomy i j with hlt|he|hgt
 ·exact absurd (hi2.trans hj2.symm) (hp i j hi' hj' hlt)
 ·exact he
 ·exact absurd (hj2.trans hi2.symm) (hp j i hj' hi' hgt)
theorem MN:∀ (l l':List Int),l.Nodup->(∀ x∈l,x∈l')->l.length<=l'.length
 | [],_,_,_=>Nat.zero_le _
 | x::l,l',hn,h=>by
  obtain ⟨hx,hn'⟩:=List.nodup_cons.1 hn
  have h1:=MN l (l'.erase x) hn' λy hy=>by
   have hne:y≠x:=λe=>hx (e▸hy);exact (List.mem_erase_of_ne hne).2 (h y (by simp [hy]))
  have h2:=List.length_erase_of_mem (h x (by simp));have h3:0 < l'.length:=List.length_pos_of_mem (h x (by simp));simp only [List.length_cons];omega
theorem aCp {of:List Int} {at':Int} (hl:of.length=R) (hr:of[r]?=some 0) (h16:16<=at') (h:∀ x,16<=x->x < at'->x∈of):at'<=15+R:=by
 have h1:=MN (0::(List.range (at' - 16).toNat).map λj=>((j:Nat):Int)+16) of (by
  refine List.nodup_cons.2 ⟨λhm=>?_,?_⟩
  ·obtain ⟨j,_,hj⟩:=List.mem_map.1 hm;omega
  ·exact List.pairwise_map.2 (List.Pairwise.imp (λ{a b} h e=>h (by omega)) List.nodup_range)) λx hx=>?_
 ·simp at h1;omega
 ·rcases List.mem_cons.1 hx with rfl|hx
  ·exact List.mem_of_getElem? hr
  ·obtain ⟨j,hj,rfl⟩:=List.mem_map.1 hx;have:=List.mem_range.1 hj;exact h _ (by omega) (by omega)
theorem VM {r:Int} (h:o.Nodup):(sH o r).Nodup:=by
 unfold sH;split
 ·rename_i hc
  refine List.nodup_append.2 ⟨h,by simp,λa ha b hb e=>?_⟩;have:b=r:=by simpa using hb
  exact hc.2 (this▸e▸ha)
 ·exact h
theorem uD:∀ (l o:List Int),(o.Nodup->(fJ o l).Nodup)/\(∀ x,x∈fJ o l↔x∈o\/(x∈l/\0<=x))
 | [],o=>by simp [fJ]
 | r::l,o=>by
  obtain ⟨h1,h2⟩:=uD l (sH o r);have e:fJ o (r::l)=fJ (sH o r) l:=rfl;rw [e];refine ⟨λh=>h1 (VM h),λx=>?_⟩;rw [h2 x];unfold sH;split
  ·rename_i hc
   simp only [List.mem_append,List.mem_cons,List.not_mem_nil,or_false];constructor
   ·rintro ((h|rfl)|⟨h,h'⟩)
    ·exact .inl h
    ·exact .inr ⟨.inl rfl,hc.1⟩
    ·exact .inr ⟨.inr h,h'⟩
   ·rintro (h|⟨rfl|h,h'⟩)
    ·exact .inl (.inl h)
    ·exact .inl (.inr rfl)
    ·exact .inr ⟨h,h'⟩
  ·rename_i hc
   simp only [List.mem_cons];constructor
   ·rintro (h|⟨h,h'⟩)
    ·exact .inl h
    ·exact .inr ⟨.inr h,h'⟩
   ·rintro (h|⟨rfl|h,h'⟩)
    ·exact .inl h
    ·by_cases hx:x∈o
     ·exact .inl hx
     ·exact absurd ⟨h',hx⟩ hc
    ·exact .inr ⟨h,h'⟩
theorem WY (hv:lA p) (hR:p.regs=R) (x:Int):x∈fJ [] (qS p R)↔0<=x/\x < R:=by
 rw [(uD (qS p R) []).2 x];have hp3:=hv.p3;have hp1:=hv.p1;constructor
 ·rintro (h|⟨h,h0⟩)
  ·cases h
  ·refine ⟨h0,?_⟩;unfold qS at h;rcases List.mem_append.1 h with h|h
   ·rcases List.mem_append.1 h with h|h
    ·obtain ⟨j,hj,rfl⟩:=List.mem_map.1 h;have:=List.mem_range.1 hj;omega
    ·obtain ⟨g,hg,rfl⟩:=List.mem_map.1 h;obtain ⟨k,hk⟩:=List.getElem?_of_mem hg;have:=(hv.nodes k g hk).d;rcases this with h|h<;>omega
   ·obtain ⟨j,hj,rfl⟩:=List.mem_map.1 h;have:=List.mem_range.1 hj;omega
 ·rintro ⟨h0,h1⟩;refine .inr ⟨?_,h0⟩;unfold qS;refine List.mem_append.2 (.inr (List.mem_map.2 ⟨x.toNat,List.mem_range.2 (by omega),by omega⟩))
theorem Al.good {of:List Int} (hv:lA p) (hR:p.regs=R) (hi:(fJ [] (qS p R)).length<=i) (h:Al p R (fJ [] (qS p R)) i of slots):pJ p R of slots:=by
 have lt:∀ {r:Nat} {x:Int},of[r]?=some x->r < R:=λh'=>by have:=(List.getElem?_eq_some_iff.1 h').1;have:=h.len;omega
 have hall:∀ (r:Nat) (x:Int),of[r]?=some x->qZ x slots/\sX p of r x:=λr x hx=>(h.placed r x hx).1 (by rw [List.take_of_length_le hi,WY hv hR];have:=lt hx;omega);have hlen:=h.len
 have ap:∀ S:Nat->Prop,(∀ a b,a≠b->S a->S b->zP p a b)->FW S R of:=by
  intro S hS r s hsr hr h2 h3 he;obtain ⟨x,hx⟩:=bI (l:=of) (j:=r) (by omega);exact (hall r x hx).2.2 s x (by rw [<- he];exact hx) (hS r s (by omega) h2 h3) rfl
 exact ⟨h.len,h.s0,h.s1,λr x hx=>(hall r x hx).1,λk hk=>ap _ λa b hab ha hb=>⟨hab,.inr ⟨k,hk,ha,hb⟩⟩,λk hk hlb r x hal hne hx=>(hall r x hx).2.1 ⟨k,hk,hlb,hal,hne⟩,ap _ λa b hab ha hb=>⟨hab,.inl ⟨ha,hb⟩⟩⟩
theorem aKg (hp:pW w pv p) (hv:lA p) (hR:p.regs=R) {Q:Nat->List Int->Int->Prop} (q0:Q 0 (List.replicate R 0) 0)
  (qs:∀ (i:Nat) (of:List Int) (slots:Int) (r:Nat) (at':Int),Al p R (fJ [] (qS p R)) i of slots->Q i of slots->(fJ [] (qS p R))[i]?=some (r:Int)->r < R->sX p of r at'->(at'=5\/(at'=6/\¬ sX p of r 5)\/(16<=at'/\¬ sX p of r 5/\¬ sX p of r 6))->(∀ x,16<=x->x < at'->¬ sX p of r x)->Q (i+1) (of.set r at') (max slots (at' - 15))) :
  aB prog 18 #[pv] w λr w'=>(∃ (ofv:Y) (of:List Int) (slots:Int),r=.agg #[ofv,i64 slots]/\aO w' ofv of/\pJ p R of slots/\Q (fJ [] (qS p R)).length of slots)/\aG w w':=by
 have hp0:=hp;obtain ⟨ns,rfl,hns,hargs⟩:=hp;have hl1:=hv.l1;have hl2:=hv.l2;have hr1:=hv.r1;have hr2:=hv.r2;have hp1:=hv.p1;have hp2:=hv.p2;have hp3:=hv.p3;apply bJo;unfold aBv;refine bx λb w1 hb x1=>?_;refine zU EH λw2 hz x2=>?_;have hb2:=hb.ext x2;have X2:=x1.trans x2;refine iC hb2 qY rfl ?_;refine (vB (p:=p) (hp0.ext X2) hv).mono λr w3 ⟨hr,x3⟩=>?_;subst hr;refine dO.2 (aM.2 ?_);have X3:=X2.trans x3;refine iC (hb2.ext x3) qY rfl ?_;refine (DF (hp0.ext X3) hv hR).mono λrv w4 ⟨⟨g0,sg,ov,m,sb,hrv,hmat,hsb,hsbl,hov,hm,hs⟩,x4⟩=>?_;subst hrv;refine tH aGd rfl (by have:=HB hov;show (bX (sl R g0)&&(bX (sl R sg)&&(bX ov&&true)))=true;rw [this];rfl) λw5 hu5 x5=>?_;have x25:=(x3.trans x4).trans x5;refine aV (hb2.ext x25) gT aE rfl ?_;refine yP hR underlying23 bT rfl (n:=R) (by omega) (by omega) λw6 hof6 x6 hsz6=>?_;refine lF bMe [(0,.slice (some ⟨w5.heap.size,0,none⟩) R R)] rfl rfl ?_;refine tH bKw rfl rfl λw7 hx7 x7=>?_;have x57:=x6.trans x7;have hlx7:=hx7.lt;have hord:=uC [] (qS p R)
 have hordl:(fJ [] (qS p R)).length<=1000:=by
  have hol:(qS p R).length<=300:=by
   simp only [qS,List.length_append,List.length_map,xZ];omega
  simp only [List.length_nil] at hord;omega
 have hnd:=(uD (qS p R) []).1 List.nodup_nil;refine aV (hu5.ext x57).boxed dY bE rfl (gE aP (hov.ext (x5.trans x57)) ?_)
 refine ⟨λv w'=>∃ (i:Nat) (of:List Int) (slots:Int),v=i64 i/\i<=(fJ [] (qS p R)).length/\aG w5 w'/\bO w' w5.heap.size (of.map i64) 3/\bO w' w6.heap.size [.slice (some ⟨w5.heap.size,0,none⟩) R R,i64 slots] 72/\Al p R (fJ [] (qS p R)) i of slots/\Q i of slots,
  λv _=>(fJ [] (qS p R)).length - (RowKit.intOf v).toNat,⟨0,List.replicate R 0,0,rfl,Nat.zero_le _,x57,by simpa using hof6.ext x7,hx7,Al.start _ _ _,q0⟩,?_⟩
 rintro _ w8 ⟨i,of,slots,rfl,hi,x8,hof8,hx8,hal,hq⟩ _;have hlen:=hal.len;have hs0:=hal.s0;have hs1:=hal.s1;refine aZ.2 (aC (λhlt=>?_) λhge=>?_)
 ·have hi':i < (fJ [] (qS p R)).length:=by omega
  obtain ⟨rz,hrz⟩:=bI hi';have hrb:=(WY hv hR rz).1 (List.mem_of_getElem? hrz);obtain ⟨r,rfl⟩:∃ r:Nat,rz=r:=⟨rz.toNat,by omega⟩;have hr:r < R:=by omega
  have hof0:of[r]?=some 0:=by
   obtain ⟨x,hx⟩:=bI (l:=of) (j:=r) (by omega);rw [hx,(hal.placed r x hx).2 λhmem=>?_];obtain ⟨j,hj⟩:=List.getElem?_of_mem hmem;rw [List.getElem?_take] at hj;split at hj
   ·have:=aDj hnd hj hrz;omega
   ·cases hj
  refine mH aP aE (hov.ext (x5.trans x8)) (by omega) (by omega) (cM hrz) ?_
  refine ⟨λv w'=>∃ at':Int,v=i64 at'/\aG w8 w'/\(at'=5\/(at'=6/\¬ sX p of r 5)\/(16<=at'/\¬ sX p of r 5/\¬ sX p of r 6))/\∀ x,16<=x->x < at'->¬ sX p of r x,λv _=>(100 - RowKit.intOf v).toNat,
   ⟨5,rfl,aG.refl _,.inl rfl,λx h1 h2=>by omega⟩,?_⟩
  rintro _ w9 ⟨at',rfl,x9,hat,hno⟩ _;have hfree:∀ x,16<=x->x < at'->x∈of:=λx h1 h2=>Classical.byContradiction λhn=>hno x h1 h2 ⟨λ_=>by omega,λo y hy _ he=>hn (he▸List.mem_of_getElem? hy)⟩
  have hat55:at'<=55:=by
   by_cases h16:16<=at'
   ·have:=aCp hlen hof0 h16 hfree;omega
   ·omega
  have x59:=x8.trans x9
  have hofS:aO w9 (.slice (some ⟨w5.heap.size,0,none⟩) R R) of:=by
   have:=(hof8.ext x9).slice (n:=of.length) (by simp) (by unfold maxLen;omega);unfold aO;rw [<- hlen];exact this
  refine iC (hu5.ext x59).boxed UB rfl ?_;refine aV (hx8.ext x9).boxed mJ bE rfl ?_;refine (aHx (by omega) ((hmat.ext x5).ext x59) ((hsb.ext x5).ext x59) hsbl hofS hlen hr).mono λq w10 ⟨⟨ok,hqv,hok⟩,x10⟩=>?_;subst hqv;rw [bLp hlen hm hs hr] at hok;refine dO.2 (aI.mk (λhn=>?_) λhn=>?_)
  ·have hnot:¬ sX p of r at':=λh=>by have:=hok.2 h;subst this;cases hn
   refine bJ.2 ?_;rw [aQ (by omega)];refine aJ.2 (aC (λh7=>?_) λh7=>?_)
   ·have h6:at'=6:=by omega
    subst h6;refine ⟨⟨16,rfl,x9.trans x10,.inr (.inr ⟨by omega,?_,hnot⟩),λx h1 h2=>by omega⟩,by simp only [aK];decide⟩;rcases hat with h|⟨_,h⟩|⟨h,_⟩
    ·omega
    ·exact h
    ·omega
   ·refine ⟨⟨at'+1,rfl,x9.trans x10,?_,λx h1 h2=>?_⟩,by simp only [aK];omega⟩
    ·rcases hat with rfl|⟨h,_⟩|⟨h,h1,h2⟩
     ·exact .inr (.inl ⟨by omega,hnot⟩)
     ·omega
     ·exact .inr (.inr ⟨by omega,h1,h2⟩)
    ·by_cases hxa:x=at'
     ·subst hxa;exact hnot
     ·exact hno x h1 (by omega)
  ·have hyes:sX p of r at':=hok.1 (by simpa using hn);have x810:=x9.trans x10;refine aV (hx8.ext x810).boxed mJ bE rfl ?_;refine WH aP bT (hof8.ext x810) (by simp [hlen]) (by omega) (by omega) rfl ?_;have hx11:bO (w10.setCell ⟨w5.heap.size,(r:Int).toNat,none⟩ (i64 at')) w6.heap.size [.slice (some ⟨w5.heap.size,0,none⟩) R R,i64 slots] 72:=(hx8.ext x810).other (by omega);refine aV hx11.boxed mV aE rfl ?_;refine fT.2 (bJ.2 ?_);rw [show IntKind.i64.wrap (at' - 16)=at' - 16 from aQ (by omega),aQ (by omega)];refine mx2 λc hc1 hc2 hc3=>?_;refine FZ mV bT hx11 rfl (by simp) rfl (bJ.2 ?_);rw [aQ (by omega),bK];have hcm:c=max slots (at' - 15):=by omega
   subst hcm;refine ⟨⟨i+1,of.set r at',_,rfl,by omega,((x8.trans x810).setCell (Nat.le_refl _) _).setCell (by omega) _,?_,hx11.set 1 _,hal.step hr hrz hyes (by omega) hat55,qs i of slots r at' hal hq hrz hr hyes hat hno⟩,by simp only [aK];omega⟩;have h1:=(hof8.ext x810).set r (i64 at');have h2:=bO.other (g':=w6.heap.size) (j:=1) (u:=i64 (max slots (at' - 15))) h1 (by omega);rw [List.map_set];simpa using h2
 ·have hin:i=(fJ [] (qS p R)).length:=by omega
  subst hin;refine iC hx8.boxed aIg rfl ?_;have hzl:=hz.lt;have h25:=x25.size;refine wR EH (hz.ext (x25.trans x8)) (l:=[.slice (some ⟨w5.heap.size,0,none⟩) R R,i64 slots]) rfl rfl rfl rfl λw' h' hch=>?_;refine ⟨_,oF underlying72 rfl EH h' rfl,⟨_,rfl⟩,⟨_,of,slots,rfl,?_,hal.good hv hR (Nat.le_refl _),hq⟩,hch.ext w (X2.trans (x25.trans x8)) x1.size⟩;have:=(hch.other (by omega) hof8).slice (n:=of.length) (by simp) (by unfold maxLen;omega);unfold aO;rw [<- hlen];exact this
end Go.Proofs.YtjcmcfidblhnnaaGreatDoor
namespace Go.Vc
section
variable {P:Program} {w:O} {K:Y->O->Prop} {S:O->Prop} {L:Y->Prop}
theorem EW {s f o b off:Nat} (h:FA P s f o) (hk:K (.pointer (some ⟨b,off+o,none⟩)) w):V P (Instr.fieldAt s (.pointer (some ⟨b,off,none⟩)) f) w K:=V.ok (h.ex w b off) hk
theorem yfA {s f o b off:Nat} (h:FA P s f o) (hk:L (.pointer (some ⟨b,off+o,none⟩))):aF P S (Instr.fieldAt s (.pointer (some ⟨b,off,none⟩)) f) L:=aF.ok (λw' _=>h.ex w' b off) hk
theorem sT {s f o s' f' o' ft b:Nat} {cs:List Y} {u:Y} (hb:bF w b cs) (h:FA P s f o) (h':FA P s' f' o') (hl:L1 P ft) (hc:cs[o+o']?=some u) (hk:K u w) :
  V P (Instr.fieldAt s (.pointer (some ⟨b,0,none⟩)) f) w λq w1=>V P (Instr.fieldAt s' q f') w1 λq w2=>V P (Instr.loadAt ft q) w2 K:=by
 refine V.ok (h.ex w b 0) (ldf h' hl ?_ hk);rw [Nat.add_assoc];exact hb _ u hc
theorem yB2 {s f o s' f' o' ft b:Nat} {cs:List Y} {u:Y} (hb:∀ w',S w'->bF w' b cs) (h:FA P s f o) (h':FA P s' f' o') (hl:L1 P ft) (hc:cs[o+o']?=some u) (hk:L u) :
  aF P S (Instr.fieldAt s (.pointer (some ⟨b,0,none⟩)) f) λq=>aF P S (Instr.fieldAt s' q f') λq=>aF P S (Instr.loadAt ft q) L:=by
 obtain ⟨d,hd,ha⟩:=hl;refine aF.ok (λw' _=>h.ex w' b 0) (aF.ok (λw' _=>h'.ex w' b _) (aF.ok (λw' hw=>jN hd ha ?_) hk));rw [Nat.add_assoc];exact hb w' hw _ u hc
theorem bKq {s f o s' f' o' ft b n by_:Nat} {z u:Y} {cs:List Y} {e:TypeId} {K':O->Prop} (hf:FA P s f o) (hf':FA P s' f' o') (hi:cZ P ft z 1 by_) (hb:bO w b cs e) (hn:cs.length=n) (ho:o+o' < n) (hu:bX u=true) (hk:K' (w.setCell ⟨b,o+o',none⟩ u)) :
  V P (Instr.fieldAt s (.pointer (some ⟨b,0,none⟩)) f) w λq w1=>V P (Instr.fieldAt s' q f') w1 λq w2=>U P (Instr.storeAt ft q u) w2 λ_ w3=>K' w3:=by
 refine V.ok (hf.ex w b 0) (V.ok (hf'.ex w b _) ?_);have hc:=hb.cell (o+o');rw [List.getElem?_eq_getElem (by omega)] at hc;rw [Nat.zero_add];exact U.ok (nF hi hu hc (hb.frozen _)) hk
structure BG (P:Program) (t:TypeId) (zs:List Y) (lay:List (Nat × Nat)):Prop where
 of ::
 ex:∃ fs n b,P.underlying t=some (.struct fs)/\cZ P t (.agg zs.toArray) n b/\∀ w:O,(fs.mapM (λf=>do pure (f.offset,<- sizeOf f.type)):Sem (Array (Nat × Nat))).run P w=.ok lay.toArray w
theorem BG.run {t:TypeId} {zs:List Y} {lay:List (Nat × Nat)} (h:BG P t zs lay) {parts:Array (Nat × Y)} {cs:Array Y} (hf:Instr.fill (lay.toArray[·]?) zs.toArray parts.toList=some cs):(Instr.build t parts).run P w=.ok (.agg cs) w:=by
 obtain ⟨fs,n,b,hu,hi,hm⟩:=h;simp only [Instr.build,Sem.run_bind,rM hi,Result.andThen_ok,run_underlying hu,hm,Value.cells];rw [hf];simp
theorem KK {t:TypeId} {zs:List Y} {lay:List (Nat × Nat)} (h:BG P t zs lay) {parts:Array (Nat × Y)} {cs:Array Y} (hf:Instr.fill (lay.toArray[·]?) zs.toArray parts.toList=some cs) (hk:K (.agg cs) w):V P (Instr.build t parts) w K:=V.ok (h.run hf) hk
theorem bKk {t:TypeId} {zs:List Y} {lay:List (Nat × Nat)} (h:BG P t zs lay) {parts:Array (Nat × Y)} {cs:Array Y} (hf:Instr.fill (lay.toArray[·]?) zs.toArray parts.toList=some cs) (hk:L (.agg cs)):aF P S (Instr.build t parts) L:=aF.ok (λ_ _=>h.run hf) hk
end
end Go.Vc
namespace Go.Proofs.YtjcmcfidblhnnaaGreatDoor
open Tryz
open Go.Vc
variable {w:O} {K:Y->O->Prop}
def bCj:List Y:=[i64 0,i64 0,i64 0,i64 0,i64 0,i64 0,i64 0,i64 0,i64 0,i64 0,i32 0]
theorem BO:BG prog 180 bCj [(0,1),(1,6),(7,1),(8,1),(9,1),(10,1)]:=⟨_,_,_,underlying180,xH,λw=>by kernel_rfl⟩
theorem XY (i:iL):Instr.fill (([(0,1),(1,6),(7,1),(8,1),(9,1),(10,1)]:List (Nat × Nat)).toArray[·]?) bCj.toArray [(0,i64 1),(1,.agg [i64 i.op,i64 i.d,i64 i.n,i64 i.m,i64 i.imm,i64 i.cond].toArray)]=some (cO.one i).cells.toArray:=by kernel_rfl
def iL.v (i:iL):Y:=.agg #[i64 i.op,i64 i.d,i64 i.n,i64 i.m,i64 i.imm,i64 i.cond]
structure Ec where
 H:Nat->Prop
 B:Nat
 g:Nat
 pr:Y
 rg:Y
 nv:Y
 ov:Y
 sl:Y
 ap:Int
 fr:Y
 of:List Int
 N:Nat
structure Eo (c:Ec) (wb:O):Prop where
 gB:c.g < c.B/\c.B<=wb.heap.size
 hH:∀ k,c.H k->k < wb.heap.size/\k≠c.g
 of:∀ w,Fr (λk=>¬ c.H k) wb w->aO w c.ov c.of
 nn:∀ w,Fr (λk=>¬ c.H k) wb w->∃ vs,aA w c.nv 1 c.N vs
structure Ew (c:Ec) (wb w:O) (l:List cO) (ys:List Y):Prop where
 o:Eo c wb
 fr:Fr (λk=>¬ c.H k) wb w
 at_:∃ iv tv,bO w c.g [c.pr,c.rg,c.nv,c.ov,c.sl,i64 c.ap,iv,tv,c.fr] 135/\w.ownsRow c.B 180 11 iv l.length (itC l)/\w.ownsRow c.B 43 1 tv ys.length ys/\(∀ k,iv.ownBlock=some k->¬ c.H k)/\(∀ k,tv.ownBlock=some k->¬ c.H k)
variable {c:Ec} {wb:O} {l:List cO} {ys:List Y}
theorem Ew.gH (h:Ew c wb w l ys):¬ c.H c.g:=λhg=>(h.o.hH _ hg).2 rfl
theorem Ew.ext {w':O} (h:Ew c wb w l ys) (hx:aG w w'):Ew c wb w' l ys:=by
 obtain ⟨o,fr,iv,tv,a1,a2,a3,a4⟩:=h;exact ⟨o,fr.trans (Fr.of_ext hx) λ_ _ h=>h,iv,tv,a1.ext hx,hx.own a2,hx.own a3,a4⟩
theorem Ew.ofAt (h:Ew c wb w l ys):aO w c.ov c.of:=h.o.of w h.fr
def Ec.hold (c:Ec) (a b:Nat):Ec:={ c with H:=λk=>c.H k\/(a<=k/\k < b) }
theorem Ew.hold {w1:O} (h:Ew c wb w l ys) (hx:aG w w1):Ew (c.hold w.heap.size w1.heap.size) w1 w1 l ys:=by
 obtain ⟨o,fr,iv,tv,a1,a2,a3,a4,a5⟩:=h;have f1:Fr (λk=>¬ c.H k) wb w1:=fr.trans (Fr.of_ext hx) λ_ _ h=>h;have hg:=a1.lt;have s1:=f1.size;have fm:∀ {w'},Fr (λk=>¬ (c.hold w.heap.size w1.heap.size).H k) w1 w'->Fr (λk=>¬ c.H k) wb w':=λhf=>f1.trans (hf.mono λk hk hc=>hk (.inl hc)) λ_ _ h=>h;refine ⟨⟨⟨o.gB.1,Nat.le_trans o.gB.2 s1⟩,λk hk=>?_,λw' hf=>o.of w' (fm hf),λw' hf=>o.nn w' (fm hf)⟩,Fr.refl _ _,iv,tv,a1.ext hx,hx.own a2,hx.own a3,λk hk hc=>?_,λk hk hc=>?_⟩
 ·rcases hk with hk|⟨h1,h2⟩
  ·have:=o.hH k hk;exact ⟨by omega,this.2⟩
  ·exact ⟨h2,by show k≠c.g;omega⟩
 ·rcases hc with hc|⟨hc,_⟩
  ·exact a4 k hk hc
  ·have:=(a2.lt k hk).2;omega
 ·rcases hc with hc|⟨hc,_⟩
  ·exact a5 k hk hc
  ·have:=(a3.lt k hk).2;omega
theorem Ew.free {w1 w':O} {a b:Nat} {l':List cO} {ys':List Y} (h:Ew c wb w l ys) (hx:aG w w1) (h':Ew (c.hold a b) w1 w' l' ys'):Ew c wb w' l' ys':=by
 obtain ⟨o,fr,iv,tv,a1,a2,a3,a4,a5⟩:=h';exact ⟨h.o,(h.fr.trans (Fr.of_ext hx) λ_ _ h=>h).trans (fr.mono λk hk hc=>hk (.inl hc)) λ_ _ h=>h,iv,tv,a1,a2,a3,λk hk hc=>a4 k hk (.inl hc),λk hk hc=>a5 k hk (.inl hc)⟩
theorem aIp (l:List cO) (x:cO):itC (l++[x])=itC l++x.cells:=by simp [itC]
theorem tV (x:cO):x.cells.all bX=true:=by cases x<;>rfl
structure Er (c:Ec) (wb w:O) (l:List cO) (ys:List Y) (v:Y):Prop where
 o:Eo c wb
 fr:Fr (λk=>¬ c.H k) wb w
 at_:∃ iv tv,bO w c.g [c.pr,c.rg,c.nv,c.ov,c.sl,i64 c.ap,iv,tv,c.fr] 135/\w.ownsRow c.B 180 11 v l.length (itC l)/\w.ownsRow c.B 43 1 tv ys.length ys/\(∀ k,v.ownBlock=some k->¬ c.H k)/\(∀ k,tv.ownBlock=some k->¬ c.H k)
theorem bLq {x:cO} {cs:Array Y} (he:cs=x.cells.toArray) (hk:∀ u w1,w1.ownsRow w.heap.size 180 11 u 1 x.cells->aG w w1->K u w1):V prog (Instr.buildSlice 66 1 #[(0,.agg cs)]) w K:=by
 subst he;refine xM underlying66 xH rfl (by decide) [.agg x.cells.toArray] rfl rfl (by intro v hv;rw [List.mem_singleton] at hv;subst hv;simpa [Value.cells] using x.len) (by decide) (by decide) λuv w1 ho1 x1=>?_;exact hk uv w1 (by simpa [Value.cells] using ho1) x1
theorem Ew.app {x:cO} {u iv:Y} {B':Nat} (h:Ew c wb w l ys) (hl:l.length<=1000000) (hiv:w.cell? ⟨c.g,6,none⟩=some iv) (hu:w.ownsRow B' 180 11 u 1 x.cells) (hk:∀ v w',Er c wb w' (l++[x]) ys v->Fr (λk=>iv.ownBlock=some k) w w'->(∀ k,iv.ownBlock=some k->c.B<=k/\k < w.heap.size)->K v w') :
  V prog (Builtin.append_ #[66,66] 66 #[iv,u]) w K:=by
 have hg:=h.gH;obtain ⟨o,fr,iv',tv,a1,a2,a3,a4,a5⟩:=h;have hgB:=o.gB;have e0:=a1.cell 6;rw [hiv] at e0;cases e0;refine apG underlying66 xH rfl (by decide) a2 (aA.of_own hu) (tV x) (by omega) (by unfold maxLen;omega) (Nat.le_trans hgB.2 fr.size) λv2 w2 ho2 hg2 hl2=>?_;have f2:Fr (λk=>iv.ownBlock=some k) w w2:=Fr.of_grown hg2 λk hk=>hk;have hlo:∀ k,iv.ownBlock=some k->c.B<=k/\k < w.heap.size:=λk hk=>a2.lt k hk;rw [<- aIp] at ho2;refine hk v2 w2 ⟨o,fr.trans (f2.mono λk hk=>a4 k hk) λ_ _ h=>h,iv,tv,f2.blk a1 λhk=>?_,by rw [List.length_append];exact ho2,f2.own a3 λk hk hk'=>?_,λk hk=>?_,a5⟩ f2 hlo
 ·have:=hlo _ hk;omega
 ·rcases uT a3 a2 (by decide) with h|h
  ·rw [h] at hk;cases hk
  ·exact h (by rw [hk,hk'])
 ·rcases hl2 with h2|h2
  ·rw [h2] at hk;exact a4 k hk
  ·rw [h2] at hk;cases hk;intro hH;have h1:=(o.hH _ hH).1;have h3:=fr.size;omega
theorem Er.put {v:Y} {K':O->Prop} (h:Er c wb w l ys v) (hk:∀ w',Ew c wb w' l ys->K' w'):U prog (Instr.storeAt 66 (.pointer (some ⟨c.g,6,none⟩)) v) w λ_ w2=>K' w2:=by
 obtain ⟨o,fr,iv,tv,a1,a2,a3,a4,a5⟩:=h;have hgB:=o.gB;have hg:¬ c.H c.g:=λhg=>(o.hH _ hg).2 rfl;have f:Fr (λk=>k=c.g) w (w.setCell ⟨c.g,6,none⟩ v):=Fr.of_set rfl;refine U.ok (nF bBr (oQ a2) (a1.cell 6) (a1.frozen _)) (hk _ ⟨o,fr.set hg,v,tv,a1.set 6 _,f.own a2 λk hk he=>?_,f.own a3 λk hk he=>?_,a4,a5⟩)
 ·have:=(a2.lt k hk).1;omega
 ·have:=(a3.lt k hk).1;omega
theorem Ew.items (h:Ew c wb w l ys):∃ iv tv,w.cell? ⟨c.g,6,none⟩=some iv/\bO w c.g [c.pr,c.rg,c.nv,c.ov,c.sl,i64 c.ap,iv,tv,c.fr] 135:=by
 obtain ⟨o,fr,iv,tv,a1,_⟩:=h;exact ⟨iv,tv,a1.cell 6,a1⟩
theorem Ew.push {x:cO} {cs:Array Y} {K':O->Prop} (he:cs=x.cells.toArray) (h:Ew c wb w l ys) (hl:l.length<=1000000) (hk:∀ w',Ew c wb w' (l++[x]) ys->K' w') {iv:Y} (hiv:w.cell? ⟨c.g,6,none⟩=some iv) :
  V prog (Instr.buildSlice 66 1 #[(0,.agg cs)]) w λu w1=>V prog (Builtin.append_ #[66,66] 66 #[iv,u]) w1 λt2 w2=>
  Go.Vc.bN (.pointer (some ⟨c.g,0,none⟩))/\V prog (Instr.fieldAt 135 (.pointer (some ⟨c.g,0,none⟩)) 3) w2 λq w3=>V prog (Instr.fieldAt 68 q 0) w3 λq w4=>U prog (Instr.storeAt 66 q t2) w4 λ_ w5=>K' w5:=by
 refine bLq he λ_ _ ho1 x1=>?_;refine (h.ext x1).app hl (x1.cell hiv) ho1 λ_ _ hr _ _=>⟨.inl ⟨_,rfl⟩,?_⟩;refine EW bU (EW mK ?_);have:=hr.put hk;exact this
theorem aHg {i:iL} (h:Ew c wb w l ys) (hl:l.length<=1000000) (hk:∀ w',Ew c wb w' (l++[.one i]) ys->K (.tuple #[]) w'):aB prog 78 #[.pointer (some ⟨c.g,0,none⟩),i.v] w K:=by
 apply bHk;unfold ZV;refine bxK λw1 hb x1=>?_;have hb:bO w1 w.heap.size [i64 i.op,i64 i.d,i64 i.n,i64 i.m,i64 i.imm,i64 i.cond] 83:=hb;have h2:=h.ext x1.drew;obtain ⟨iv,tv,e1,e2⟩:=h2.items;refine aL.mk' (λw'=>bF w' c.g [c.pr,c.rg,c.nv,c.ov,c.sl,i64 c.ap,iv,tv,c.fr]/\bF w' w.heap.size [i64 i.op,i64 i.d,i64 i.n,i64 i.m,i64 i.imm,i64 i.cond]) ⟨e2.boxed,(hb.drew).boxed⟩ ?_;refine ⟨.inl ⟨_,rfl⟩,yB2 (λw' hx=>hx.1) bU mK MZ rfl ?_⟩;refine yA (λw' hx=>hx.2) qX rfl (bKk BO (XY i) ?_);refine bLq (x:=.one i) rfl λu w3 ho3 x3=>⟨⟨(e2.ext x3).boxed,(hb.drew.ext x3).boxed⟩,?_⟩
 have lo:∀ k,iv.ownBlock=some k->k < w.heap.size/\k≠c.g:=λk hk=>by
  obtain ⟨iv0,tv0,e3,e4⟩:=h.items;have e5:=(x1.drew).cell e3;rw [e1] at e5;cases e5;obtain ⟨o,_,iv',tv',b1,b2,_⟩:=h;have e6:=b1.cell 6;rw [e3] at e6;cases e6;have:=(b2.lt _ hk);have:=o.gB;omega
 refine (h2.ext x3).app hl (x3.cell e1) ho3 λv w4 hr f4 _=>⟨⟨?_,?_⟩,.inl ⟨_,rfl⟩,?_⟩
 ·exact (f4.blk (e2.ext x3) λhk=>(lo _ hk).2 rfl).boxed
 ·exact (f4.blk (hb.drew.ext x3) λhk=>by have:=(lo _ hk).1;omega).boxed
 ·refine yfA bU (yfA mK ?_);have:=hr.put hk;exact this
theorem aQw {q:Int} (h:Ew c wb w l ys) (hl:l.length<=1000000) (hk:∀ w',Ew c wb w' (l++[.place q]) ys->K (.tuple #[]) w'):aB prog 38 #[.pointer (some ⟨c.g,0,none⟩),i64 q] w K:=by
 apply bIw;unfold aBe;obtain ⟨iv,tv,e1,e2⟩:=h.items;refine ⟨.inl ⟨_,rfl⟩,sT e2.boxed bU mK MZ rfl ?_⟩;refine KK BO rfl ?_;exact h.push rfl hl hk e1
theorem bEi {q d:Int} (h:Ew c wb w l ys) (hl:l.length<=1000000) (hk:∀ w',Ew c wb w' (l++[.jump d q]) ys->K (.tuple #[]) w'):aB prog 76 #[.pointer (some ⟨c.g,0,none⟩),i64 d,i64 q] w K:=by
 apply bHm;unfold ZX;obtain ⟨iv,tv,e1,e2⟩:=h.items;refine ⟨.inl ⟨_,rfl⟩,sT e2.boxed bU mK MZ rfl ?_⟩;refine KK BO rfl ?_;exact h.push rfl hl hk e1
theorem aHl {q d:Int} (h:Ew c wb w l ys) (hl:l.length<=1000000) (hk:∀ w',Ew c wb w' (l++[.load d q]) ys->K (.tuple #[]) w'):aB prog 69 #[.pointer (some ⟨c.g,0,none⟩),i64 d,i32 q] w K:=by
 apply bHt;unfold aAe;obtain ⟨iv,tv,e1,e2⟩:=h.items;refine ⟨.inl ⟨_,rfl⟩,sT e2.boxed bU mK MZ rfl ?_⟩;refine KK BO rfl ?_;exact h.push rfl hl hk e1
theorem aFo {op d m:Int} (h:Ew c wb w l ys) (hl:l.length<=1000000) (hk:∀ w',Ew c wb w' (l++[iP op d m]) ys->K (.tuple #[]) w'):aB prog 67 #[.pointer (some ⟨c.g,0,none⟩),i64 op,i64 d,i64 m] w K:=by
 apply bHv;unfold aAg;refine lF qN [(0,i64 op),(1,i64 d),(3,i64 m)] rfl rfl ?_;exact aHg (i:=⟨op,d,0,m,0,0⟩) h hl hk
theorem JA {op d m:Int} (h:Ew c wb w l ys) (hl:l.length<=1000000) (hk:∀ w',Ew c wb w' (l++[jK op d m]) ys->K (.tuple #[]) w'):aB prog 68 #[.pointer (some ⟨c.g,0,none⟩),i64 op,i64 d,i64 m] w K:=by
 apply bHu;unfold aAf;refine lF qN [(0,i64 op),(1,i64 d),(4,i64 m)] rfl rfl ?_;exact aHg (i:=⟨op,d,0,0,m,0⟩) h hl hk
structure oJ (c:Ec) (wb:O) (f:FuncId) (args:Array Y) (xs:List cO):Prop where
 run:∀ {w:O} {l:List cO} {ys:List Y} {K:Y->O->Prop},Ew c wb w l ys->l.length+xs.length<=900000->(∀ w',Ew c wb w' (l++xs) ys->K (.tuple #[]) w')->aB prog f args w K
theorem Ew.oAt (h:Ew c wb w l ys):∃ cs,bF w c.g cs/\cs[3]?=some c.ov/\cs[5]?=some (i64 c.ap)/\cs[2]?=some c.nv:=by
 obtain ⟨iv,tv,e1,e2⟩:=h.items;exact ⟨_,e2.boxed,rfl,rfl,rfl⟩
theorem bDw {reg r:Int} (hr0:0<=r) (hr1:r < c.of.length) (hb:∀ a∈c.of,0<=a/\a < 1000):oJ c wb 131 #[.pointer (some ⟨c.g,0,none⟩),i64 reg,i64 r] [eLd c.of reg r]:=by
 refine ⟨λ{w l ys K} h hl hk=>?_⟩;apply aZm;unfold RY;obtain ⟨cs,e1,e2,_⟩:=h.oAt;obtain ⟨r,rfl⟩:∃ k:Nat,r=k:=⟨r.toNat,by omega⟩;obtain ⟨a,ha⟩:=bI (l:=c.of) (j:=r) (by omega);have hab:=hb a (List.mem_of_getElem? ha);have hd:c.of.getD ((r:Int)).toNat 0=a:=by rw [List.getD_eq_getElem?_getD,Int.toNat_natCast,ha];rfl
 refine ⟨.inl ⟨_,rfl⟩,sT e1 eO mJ bE e2 ?_⟩;refine mH aP aE h.ofAt (by omega) (by omega) (cM ha) (aZ.2 (aC (λhlt=>?_) λhge=>?_))
 ·refine aFo h (by omega) λw' h'=>hk w' ?_;unfold eLd;dsimp only;rw [hd,if_pos hlt];exact h'
 ·refine fT.2 ?_;rw [aQ (by omega)];refine qP.2 ?_;rw [aQ (by omega)];refine JA h (by omega) λw' h'=>hk w' ?_;unfold eLd;dsimp only;rw [hd,if_neg hge];exact h'
theorem WG {reg r:Int} (hr0:0<=r) (hr1:r < c.of.length) (hb:∀ a∈c.of,0<=a/\a < 1000):oJ c wb 37 #[.pointer (some ⟨c.g,0,none⟩),i64 r,i64 reg] [eSt c.of r reg]:=by
 refine ⟨λ{w l ys K} h hl hk=>?_⟩;apply bIx;unfold aBf;obtain ⟨cs,e1,e2,_⟩:=h.oAt;obtain ⟨r,rfl⟩:∃ k:Nat,r=k:=⟨r.toNat,by omega⟩;obtain ⟨a,ha⟩:=bI (l:=c.of) (j:=r) (by omega);have hab:=hb a (List.mem_of_getElem? ha);have hd:c.of.getD ((r:Int)).toNat 0=a:=by rw [List.getD_eq_getElem?_getD,Int.toNat_natCast,ha];rfl
 refine ⟨.inl ⟨_,rfl⟩,sT e1 eO mJ bE e2 ?_⟩;refine mH aP aE h.ofAt (by omega) (by omega) (cM ha) (aZ.2 (aC (λhlt=>?_) λhge=>?_))
 ·refine aFo h (by omega) λw' h'=>hk w' ?_;unfold eSt;dsimp only;rw [hd,if_pos hlt];exact h'
 ·refine fT.2 ?_;rw [aQ (by omega)];refine qP.2 ?_;rw [aQ (by omega)];refine JA h (by omega) λw' h'=>hk w' ?_;unfold eSt;dsimp only;rw [hd,if_neg hge];exact h'
end Go.Proofs.YtjcmcfidblhnnaaGreatDoor
namespace Go.Proofs.YtjcmcfidblhnnaaGreatDoor
open Tryz
open Go.Vc
variable {w:O} {K:Y->O->Prop} {c:Ec} {wb:O} {l:List cO} {ys:List Y}
variable {n:aD}
theorem DT (i:iL):oJ c wb 78 #[.pointer (some ⟨c.g,0,none⟩),i.v] [.one i]:=⟨λh hl hk=>aHg h (by omega) hk⟩
theorem oE (op d m:Int):oJ c wb 67 #[.pointer (some ⟨c.g,0,none⟩),i64 op,i64 d,i64 m] [iP op d m]:=⟨λh hl hk=>aFo h (by omega) hk⟩
theorem yB (op d m:Int):oJ c wb 68 #[.pointer (some ⟨c.g,0,none⟩),i64 op,i64 d,i64 m] [jK op d m]:=⟨λh hl hk=>JA h (by omega) hk⟩
theorem UC (d q:Int):oJ c wb 76 #[.pointer (some ⟨c.g,0,none⟩),i64 d,i64 q] [.jump d q]:=⟨λh hl hk=>bEi h (by omega) hk⟩
theorem WV (q:Int):oJ c wb 38 #[.pointer (some ⟨c.g,0,none⟩),i64 q] [.place q]:=⟨λh hl hk=>aQw h (by omega) hk⟩
theorem DU (d q:Int):oJ c wb 69 #[.pointer (some ⟨c.g,0,none⟩),i64 d,i32 q] [.load d q]:=⟨λh hl hk=>aHl h (by omega) hk⟩
theorem oJ.go {f:FuncId} {args:Array Y} {xs rs ms l':List cO} (he:oJ c wb f args xs) (h:Ew c wb w l' ys) (hm:l'++xs++rs=l++ms) (hl:l.length+ms.length<=900000) (hk:∀ w',Ew c wb w' (l'++xs) ys->K (.tuple #[]) w'):aB prog f args w K:=by
 refine he.run h ?_ hk;have:=congrArg List.length hm;simp only [List.length_append] at this;omega
theorem aSl:oJ c wb 186 #[.pointer (some ⟨c.g,0,none⟩)] (rX):=by
 refine ⟨λ{w l ys K} h hl hk=>?_⟩;apply aXg;unfold PX;refine (yB 8 0 0).go (l:=l) (ms:=rX) (rs:=[iP 17 0 0]) h (by simp [rX]) hl λw h=>?_;refine (oE 17 0 0).go (l:=l) (ms:=rX) (rs:=[]) h (by simp [rX]) hl λw h=>?_;refine hk w ?_;simpa [rX] using h
theorem YQ:oJ c wb 135 #[.pointer (some ⟨c.g,0,none⟩)] (lR):=by
 refine ⟨λ{w l ys K} h hl hk=>?_⟩;apply aZj;unfold RV;refine (oE 22 0 1).go (l:=l) (ms:=lR) (rs:=[iP 18 0 0]++[iP 21 0 0]) h (by simp [lR]) hl λw h=>?_;refine (oE 18 0 0).go (l:=l) (ms:=lR) (rs:=[iP 21 0 0]) h (by simp [lR]) hl λw h=>?_;refine (oE 21 0 0).go (l:=l) (ms:=lR) (rs:=[]) h (by simp [lR]) hl λw h=>?_;refine hk w ?_;simpa [lR] using h
theorem aFb:oJ c wb 134 #[.pointer (some ⟨c.g,0,none⟩)] (rW):=by
 refine ⟨λ{w l ys K} h hl hk=>?_⟩;apply aZk;unfold RW;refine (oE 21 0 0).go (l:=l) (ms:=rW) (rs:=rX) h (by simp [rW]) hl λw h=>?_;refine (aSl).go (l:=l) (ms:=rW) (rs:=[]) h (by simp [rW]) hl λw h=>?_;refine hk w ?_;simpa [rW] using h
theorem JD (op:Int):oJ c wb 133 #[.pointer (some ⟨c.g,0,none⟩),i64 op] (pQ op):=by
 refine ⟨λ{w l ys K} h hl hk=>?_⟩;apply aZl;unfold RX;refine (yB 8 2 31).go (l:=l) (ms:=pQ op) (rs:=[iP 12 1 2]++[iP op 0 1]) h (by simp [pQ]) hl λw h=>?_;refine (oE 12 1 2).go (l:=l) (ms:=pQ op) (rs:=[iP op 0 1]) h (by simp [pQ]) hl λw h=>?_;refine (oE op 0 1).go (l:=l) (ms:=pQ op) (rs:=[]) h (by simp [pQ]) hl λw h=>?_;refine hk w ?_;simpa [pQ] using h
theorem aJy:oJ c wb 74 #[.pointer (some ⟨c.g,0,none⟩)] (lC):=by
 refine ⟨λ{w l ys K} h hl hk=>?_⟩;apply bHo;unfold ZZ;refine (oE 21 0 0).go (l:=l) (ms:=lC) (rs:=[iP 18 0 0]++[iP 13 1 2]++[iP 12 0 1]++[iP 13 0 2]) h (by simp [lC]) hl λw h=>?_;refine (oE 18 0 0).go (l:=l) (ms:=lC) (rs:=[iP 13 1 2]++[iP 12 0 1]++[iP 13 0 2]) h (by simp [lC]) hl λw h=>?_;refine (oE 13 1 2).go (l:=l) (ms:=lC) (rs:=[iP 12 0 1]++[iP 13 0 2]) h (by simp [lC]) hl λw h=>?_;refine (oE 12 0 1).go (l:=l) (ms:=lC) (rs:=[iP 13 0 2]) h (by simp [lC]) hl λw h=>?_;refine (oE 13 0 2).go (l:=l) (ms:=lC) (rs:=[]) h (by simp [lC]) hl λw h=>?_;refine hk w ?_;simpa [lC] using h
theorem bCn (q:Int):oJ c wb 75 #[.pointer (some ⟨c.g,0,none⟩),i64 q] (nC q):=by
 refine ⟨λ{w l ys K} h hl hk=>?_⟩;apply bHn;unfold ZY;refine (yB 9 7 0).go (l:=l) (ms:=nC q) (rs:=[cO.jump 1 q]++[cO.one ⟨44,0,0,0,0,0⟩]++[cO.place q]++[jK 11 7 1]) h (by simp [nC]) hl λw h=>?_;refine (UC 1 q).go (l:=l) (ms:=nC q) (rs:=[cO.one ⟨44,0,0,0,0,0⟩]++[cO.place q]++[jK 11 7 1]) h (by simp [nC]) hl λw h=>?_;refine lF qN [(0,i64 44)] rfl rfl ?_;refine (DT ⟨44,0,0,0,0,0⟩).go (l:=l) (ms:=nC q) (rs:=[cO.place q]++[jK 11 7 1]) h (by simp [nC]) hl λw h=>?_;refine (WV q).go (l:=l) (ms:=nC q) (rs:=[jK 11 7 1]) h (by simp [nC]) hl λw h=>?_;refine (yB 11 7 1).go (l:=l) (ms:=nC q) (rs:=[]) h (by simp [nC]) hl λw h=>?_;refine hk w ?_;simpa [nC] using h
theorem bMd (op:Int):oJ c wb 72 #[.pointer (some ⟨c.g,0,none⟩),i64 op] (oZ op):=by
 refine ⟨λ{w l ys K} h hl hk=>?_⟩;apply bHq;unfold aAb;refine aJ.2 (aC (λe=>?_) λe6=>?_)
 ·have ee:oZ op=oZ 6:=by rw [e]
  rw [ee] at hl hk;refine lF qN [(0,i64 4),(1,i64 0),(2,i64 0),(3,i64 1)] rfl rfl ?_;exact (DT ⟨4,0,0,1,0,0⟩).run h hl hk
 refine aJ.2 (aC (λe=>?_) λe7=>?_)
 ·have ee:oZ op=oZ 7:=by rw [e]
  rw [ee] at hl hk;refine lF qN [(0,i64 5),(1,i64 0),(2,i64 0),(3,i64 1)] rfl rfl ?_;exact (DT ⟨5,0,0,1,0,0⟩).run h hl hk
 refine aJ.2 (aC (λe=>?_) λe8=>?_)
 ·have ee:oZ op=oZ 8:=by rw [e]
  rw [ee] at hl hk;exact (oE 25 0 1).run h hl hk
 refine aJ.2 (aC (λe=>?_) λe9=>?_)
 ·have ee:oZ op=oZ 9:=by rw [e]
  rw [ee] at hl hk;exact (oE 12 0 1).run h hl hk
 refine aJ.2 (aC (λe=>?_) λe10=>?_)
 ·have ee:oZ op=oZ 10:=by rw [e]
  rw [ee] at hl hk;exact (oE 24 0 1).run h hl hk
 refine aJ.2 (aC (λe=>?_) λe11=>?_)
 ·have ee:oZ op=oZ 11:=by rw [e]
  rw [ee] at hl hk;exact (oE 13 0 1).run h hl hk
 refine aJ.2 (aC (λe=>?_) λe12=>?_)
 ·have ee:oZ op=oZ 12:=by rw [e]
  rw [ee] at hl hk;exact (JD 14).run h hl hk
 refine aJ.2 (aC (λe=>?_) λe13=>?_)
 ·have ee:oZ op=oZ 13:=by rw [e]
  rw [ee] at hl hk;exact (JD 15).run h hl hk
 refine aJ.2 (aC (λe=>?_) λe14=>?_)
 ·have ee:oZ op=oZ 14:=by rw [e]
  rw [ee] at hl hk;exact (JD 16).run h hl hk
 refine aJ.2 (aC (λe=>?_) λe19=>?_)
 ·have ee:oZ op=.one ⟨5,0,0,1,0,0⟩::rW:=by rw [e];rfl
  rw [ee] at hl hk;refine lF qN [(0,i64 5),(1,i64 0),(2,i64 0),(3,i64 1)] rfl rfl ?_;refine (DT ⟨5,0,0,1,0,0⟩).go (l:=l) (ms:=.one ⟨5,0,0,1,0,0⟩::rW) (rs:=rW) h (by simp) hl λw h=>?_;refine aFb.go (l:=l) (ms:=.one ⟨5,0,0,1,0,0⟩::rW) (rs:=[]) h (by simp) hl λw h=>hk w ?_;simpa using h
 refine aJ.2 (aC (λe=>?_) λe20=>?_)
 ·have ee:oZ op=.load 2 (-2147483648)::iP 13 0 2::iP 13 1 2::lR:=by rw [e];rfl
  rw [ee] at hl hk;refine (DU 2 (-2147483648)).go (l:=l) (ms:=.load 2 (-2147483648)::iP 13 0 2::iP 13 1 2::lR) (rs:=iP 13 0 2::iP 13 1 2::lR) h (by simp) hl λw h=>?_;refine (oE 13 0 2).go (l:=l) (ms:=.load 2 (-2147483648)::iP 13 0 2::iP 13 1 2::lR) (rs:=iP 13 1 2::lR) h (by simp) hl λw h=>?_;refine (oE 13 1 2).go (l:=l) (ms:=.load 2 (-2147483648)::iP 13 0 2::iP 13 1 2::lR) (rs:=lR) h (by simp) hl λw h=>?_;refine (YQ).go (l:=l) (ms:=.load 2 (-2147483648)::iP 13 0 2::iP 13 1 2::lR) (rs:=[]) h (by simp) hl λw h=>?_;refine hk w ?_;simpa using h
 have ee:oZ op=lR:=by unfold oZ;simp only [e6,e7,e8,e9,e10,e11,e12,e13,e14,e19,e20,if_false]
 rw [ee] at hl hk;exact (YQ).run h hl hk
theorem bNd (op:Int):oJ c wb 73 #[.pointer (some ⟨c.g,0,none⟩),i64 op] (eUn op):=by
 refine ⟨λ{w l ys K} h hl hk=>?_⟩;apply bHp;unfold aAa;unfold eUn at hl hk;refine aJ.2 (aC (λe=>?_) λe15=>?_)
 ·rw [if_pos e] at hl hk;exact (oE 21 0 0).run h hl hk
 rw [if_neg e15] at hl hk;refine aJ.2 (aC (λe=>?_) λe16=>?_)
 ·rw [if_pos e] at hl hk;exact (oE 27 0 0).run h hl hk
 rw [if_neg e16] at hl hk;exact (aFb).run h hl hk
theorem XZ (ha:0<=c.ap/\c.ap < 4):oJ c wb 77 #[.pointer (some ⟨c.g,0,none⟩)] [uA c.ap]:=by
 refine ⟨λ{w l ys K} h hl hk=>?_⟩;apply bHl;unfold ZW;obtain ⟨cs,e1,_,e2,_⟩:=h.oAt;refine ⟨.inl ⟨_,rfl⟩,aV e1 fA aE e2 (qP.2 ?_)⟩;rw [aQ (by omega)];refine bJ.2 ?_;rw [aQ (by omega)];refine V.ok (lU underlying3 underlying21) ?_;exact (DU _ _).run h hl hk
theorem aEf {of l:List Int} {j:Nat} {r:Int} (h:l[j]?=some r):jU of (l.take (j+1))=jU of (l.take j)++[eLd of (j:Int) r]:=by
 obtain ⟨hj,rfl⟩:=List.getElem?_eq_some_iff.1 h;have e:(l.take j).length=j:=by simp;omega
 have e1:(l.take (j+1)).length=j+1:=by simp;omega
 unfold jU;rw [e1,e,List.range_succ,List.map_append]
 congr 1
 ·apply List.map_congr_left;intro k hk;have hk:=List.mem_range.1 hk;simp [List.getD_eq_getElem?_getD,hk,Nat.lt_succ_of_lt hk]
 ·simp [List.getD_eq_getElem?_getD,hj]
theorem aRl {rv:Y} {rs:List Int} (hs:∀ w,Fr (λk=>¬ c.H k) wb w->aO w rv rs) (hr:∀ r∈rs,0<=r/\r < c.of.length) (hb:∀ a∈c.of,0<=a/\a < 1000):oJ c wb 70 #[.pointer (some ⟨c.g,0,none⟩),rv] (jU c.of rs):=by
 refine ⟨λ{w l ys K} h hl hk=>?_⟩;apply bHs;unfold aAd;have hll:(jU c.of rs).length=rs.length:=by simp [jU]
 refine gE aP (hs w h.fr) ?_;refine ⟨λv w'=>∃ j:Nat,v=i64 j/\j<=rs.length/\Ew c wb w' (l++jU c.of (rs.take j)) ys,λv _=>rs.length - (RowKit.intOf v).toNat,⟨0,rfl,Nat.zero_le _,by simpa [jU] using h⟩,?_⟩;rintro _ w1 ⟨j,rfl,hj,h1⟩ _;refine aZ.2 (aC (λhlt=>?_) λhge=>?_)
 ·obtain ⟨r,hrj⟩:=bI (l:=rs) (j:=j) (by omega);obtain ⟨q1,q2⟩:=hr r (List.mem_of_getElem? hrj);refine mH aP aE (hs w1 h1.fr) (by omega) (by omega) (cM hrj) ?_;refine (bDw q1 q2 hb).run h1 (by simp [jU];omega) λw2 h2=>bJ.2 ?_;rw [aQ (by omega),bK];rw [List.append_assoc,<- aEf hrj] at h2;exact ⟨⟨j+1,rfl,by omega,h2⟩,by simp only [aK];omega⟩
 ·have e:rs.take j=rs:=List.take_of_length_le (by omega);rw [e] at h1;exact hk w1 h1
structure OfB (of:List Int):Prop where
 b:∀ a∈of,0<=a/\a < 1000
theorem wP {v:Y} (h:Ew c wb w l ys) (hn:iO w v n) (ha:n.args.length<=4294967296) (hr:∀ r∈n.us,0<=r/\r < c.of.length) (hb:OfB c.of) (hl:l.length+n.us.length<=900000) (hk:∀ w',Ew c wb w' (l++jU c.of n.us) ys->K (.tuple #[]) w') :
  aB prog 71 #[v] w λt w1=>aB prog 70 #[.pointer (some ⟨c.g,0,none⟩),t] w1 K:=by
 refine (IV hn ha).mono λr w1 ⟨ho,x1⟩=>?_;have h1:=h.hold x1;refine (aRl (c:=c.hold w.heap.size w1.heap.size) (wb:=w1) (rs:=n.us) (λw2 f=>aA.of_own (f.own ho λk hk hS=>hS (.inr (ho.lt k hk)))) hr hb.b).run h1 (by simp only [jU,List.length_map,List.length_range];exact hl) λw2 h2=>hk w2 (h.free x1 h2)
theorem Ew.tab (h:Ew c wb w l ys):∃ iv tv,bO w c.g [c.pr,c.rg,c.nv,c.ov,c.sl,i64 c.ap,iv,tv,c.fr] 135/\w.ownsRow c.B 43 1 tv ys.length ys:=by
 obtain ⟨o,fr,iv,tv,a1,_,a3,_⟩:=h;exact ⟨iv,tv,a1,a3⟩
theorem Ew.pushT {v tv:Y} {iv:Y} {K':O->Prop} (h:Ew c wb w l ys) (h1:bX v=true) (hy:ys.length<=100000) (hB:bO w c.g [c.pr,c.rg,c.nv,c.ov,c.sl,i64 c.ap,iv,tv,c.fr] 135) (hk:∀ w',Ew c wb w' l (ys++[v])->K' w') :
  V prog (Instr.buildSlice 31 1 #[(0,v)]) w λu w1=>V prog (Builtin.append_ #[31,31] 31 #[tv,u]) w1 λt2 w2=>
  Go.Vc.bN (.pointer (some ⟨c.g,0,none⟩))/\V prog (Instr.fieldAt 135 (.pointer (some ⟨c.g,0,none⟩)) 3) w2 λq w3=>V prog (Instr.fieldAt 68 q 1) w3 λq w4=>U prog (Instr.storeAt 31 q t2) w4 λ_ w5=>K' w5:=by
 have hg:=h.gH;obtain ⟨o,fr,iv',tv',a1,a2,a3,a4,a5⟩:=h;have hgB:=o.gB;have e6:=hB.cell 6;have e7:=hB.cell 7;rw [a1.cell 6] at e6;rw [a1.cell 7] at e7;cases e6;cases e7;refine jG aFe [v] rfl rfl (by simp) (by simpa using h1) λu w1 ho1 x1=>?_;have s1:=x1.size;have s0:=fr.size;refine apG underlying31 NG rfl (by decide) (x1.own a3) (aA.of_own ho1) (by simpa using h1) (by omega) (by unfold maxLen;omega) (by omega) λtv2 w2 ho2 hg2 hl2=>?_;have f2:Fr (λk=>tv.ownBlock=some k) w1 w2:=Fr.of_grown hg2 λk hk=>hk;have a1':=f2.blk (a1.ext x1) λhk=>by have:=a3.lt _ hk;omega
 have a2':=f2.own (x1.own a2) λk hk hk'=>by
  rcases uT a3 a2 (by decide) with h|h
  ·rw [h] at hk';cases hk'
  ·exact h (by rw [hk,hk'])
 have fr2:Fr (λk=>¬ c.H k) wb w2:=(fr.trans (Fr.of_ext x1) λ_ _ h=>h).trans (f2.mono λk hk=>a5 k hk) λ_ _ h=>h;refine ⟨.inl ⟨_,rfl⟩,?_⟩;refine bKq bU nZ NI a1' (n:=9) rfl (by decide) (oQ ho2) ?_;refine hk _ ⟨o,fr2.set hg,iv,tv2,a1'.set 7 _,?_,?_,a4,λk hk=>?_⟩
 ·exact (Fr.of_set (S:=λi=>i=c.g) rfl).own a2' λk hk he=>by have:=(a2'.lt k hk).1;omega
 ·rw [List.length_append];exact (Fr.of_set (S:=λi=>i=c.g) rfl).own ho2 λk hk he=>by have:=(ho2.lt k hk).1;omega
 ·rcases hl2 with h2|h2
  ·rw [h2] at hk;exact a5 k hk
  ·rw [h2] at hk;cases hk;intro hH;have h1:=(o.hH _ hH).1;omega
theorem TS {v:Y} (h:iO w v n):bX v=true:=by
 obtain ⟨sv,rfl,_⟩:=h;cases n<;>rfl
structure aKs (n:aD) (R:Nat):Prop where
 u:∀ r∈n.us,0<=r/\r < R
 d:n.df>=0->n.df < R
 a:n.args.length<=4294967296
 l:n.us.length<=5
theorem YG {v:Y} {R:Y->O->Prop} (h:Ew c wb w l ys) (hn:iO w v n) (hr:aKs n c.of.length) (hb:OfB c.of) (hl:l.length<=800000) (hk:∀ w',Ew c wb w' (l++vW c.of n) ys->R (.tuple #[]) w') :
  aB prog 80 #[v] w λt w1=>V prog (binOp .geq 3 t (i64 0)) w1 λt2 w2=>aI t2 (aB prog 37 #[.pointer (some ⟨c.g,0,none⟩),t,i64 0] w2 λ_ w3=>R (.tuple #[]) w3) (R (.tuple #[]) w2):=by
 refine (KI hn).mono λr w1 ⟨hr1,x1⟩=>?_;subst hr1;have h1:=h.ext x1;refine fK.2 (aC (λhd=>?_) λhd=>?_)
 ·refine (WG (by omega) (hr.d hd) hb.b).run h1 (by simp;omega) λw2 h2=>hk w2 ?_;unfold vW;rw [if_pos hd];exact h2
 ·refine hk w1 ?_;unfold vW;rw [if_neg hd,List.append_nil];exact h1
theorem aFz {v:Y} (h:Ew c wb w l ys) (hn:iO w v n) (hs:∀ w',Fr (λk=>¬ c.H k) wb w'->iO w' v n) (hr:aKs n c.of.length) (hb:OfB c.of) (hl:l.length<=700000) (hy:ys.length<=100000) (hk:∀ w',Ew c wb w' (l++((jU c.of n.us++[.one ⟨44,0,0,0,(ys.length:Int)+1,0⟩])++vW c.of n)) (ys++[v])->K (.tuple #[]) w') :
  aB prog 79 #[.pointer (some ⟨c.g,0,none⟩),v] w K:=by
 apply bHj;unfold ZU;have hrl:=hr.l;have hel:(jU c.of n.us).length=n.us.length:=by simp [jU]
 refine wP h hn hr.a hr.u hb (by omega) λw1 h1=>?_;obtain ⟨iv,tv,e1,e2⟩:=h1.tab;refine ⟨.inl ⟨_,rfl⟩,sT e1.boxed bU nZ kY rfl ?_⟩;refine h1.pushT (TS hn) hy e1 λw2 h2=>?_;obtain ⟨iv2,tv2,e3,e4⟩:=h2.tab;refine ⟨.inl ⟨_,rfl⟩,sT e3.boxed bU nZ kY rfl (gE nU (aA.of_own e4) (bJ.2 ?_))⟩;have e5:((ys++[v]).length:Int)=(ys.length:Int)+1:=by simp
 rw [aQ (by omega)];refine fT.2 ?_;rw [aQ (by omega)];refine lF qN [(0,i64 44),(4,i64 (1+((ys++[v]).length:Int) - 1))] rfl rfl ?_;have e6:1+((ys++[v]).length:Int) - 1=(ys.length:Int)+1:=by omega
 rw [e6];refine (DT ⟨44,0,0,0,(ys.length:Int)+1,0⟩).run h2 (by simp;omega) λw3 h3=>?_;refine YG h3 (hs w3 h3.fr) hr hb (by simp;omega) λw4 h4=>hk w4 ?_;simpa using h4
theorem oG (h:n.args=[]):iO w (n.val bC) n:=⟨bC,rfl,by rw [h];exact aA.nil w 1⟩
theorem bDk {v:Y} {k:Nat} (h:Ew c wb w l ys) (hn:iO w v n) (hs:∀ w',Fr (λk=>¬ c.H k) wb w'->iO w' v n) (hr:aKs n c.of.length) (hb:OfB c.of) (ha:0<=c.ap/\c.ap < 4) (hN:c.N<=1000) (hk0:k<=1000) (hl:l.length<=600000) (hy:ys.length<=100000) (hF:n.okF)
  (hk:∀ w',Ew c wb w' (l++pH c.of c.N c.ap ys.length n k) (if n.srvB then ys++[v] else ys)->K (.tuple #[]) w'):aB prog 39 #[.pointer (some ⟨c.g,0,none⟩),v,i64 k] w K:=by
 have hn0:=hn;obtain ⟨sv,rfl,hsv⟩:=hn;have h5:=hr.l;apply bIv;unfold aBd
 have fin:∀ (pre:List cO) (w':O),pH c.of c.N c.ap ys.length n k=pre++vW c.of n->n.srvB=false->pre.length<=1000->Ew c wb w' (l++pre) ys ->
   aB prog 80 #[n.val sv] w' λt w1=>V prog (binOp .geq 3 t (i64 0)) w1 λt2 w2=>aI t2 (aB prog 37 #[.pointer (some ⟨c.g,0,none⟩),t,i64 0] w2 λ_ w3=>K (.tuple #[]) w3) (K (.tuple #[]) w2):=by
  intro pre w' he hsr hp h';refine YG h' (hs w' h'.fr) hr hb (by simp;omega) λw2 h2=>hk w2 ?_;rw [he,<- List.append_assoc];simpa [hsr] using h2
 have srv:n.srvB=true->pH c.of c.N c.ap ys.length n k=(jU c.of n.us++[.one ⟨44,0,0,0,(ys.length:Int)+1,0⟩])++vW c.of n->aB prog 79 #[.pointer (some ⟨c.g,0,none⟩),n.val sv] w λ_ w'=>K (.tuple #[]) w':=λhs1 he=>by
  refine aFz h hn0 hs hr hb (by omega) hy λw2 h2=>hk w2 ?_;rw [he,hs1];exact h2
 cases n with
 | const d k=>
  dsimp only [aD.val] at fin srv ⊢;refine ⟨λw'=>Ew c wb w' (l++(.load 0 k::[])) ys,?_,λw' h' _=>fin _ w' rfl rfl (by simp []) h'⟩
  (repeat (first|(with_reducible refine th (by first|exact bD|exact kR) ?_)|((with_reducible refine tm bD (by decide) ?_);intro _ _ _)))
  refine tH aGa rfl rfl λw1 hB x1=>?_;have hB:bO w1 w.heap.size [i64 d,i32 k] 90:=hB;have h1:=h.hold x1;have hx1:=x1.size;have hlt:=hB.lt;refine aV hB.boxed YA kT rfl ?_;exact (DU (c:=c.hold w.heap.size w1.heap.size) (wb:=w1) 0 k).run h1 (by simp;omega) λw2 h2=>h.free x1 h2
 | move d s=>
  dsimp only [aD.val] at fin srv ⊢;refine ⟨λw'=>Ew c wb w' (l++(jU c.of [s])) ys,?_,λw' h' _=>fin _ w' rfl rfl (by simp [jU,aD.us]) h'⟩
  (repeat (first|(with_reducible refine th bD ?_)|((with_reducible refine tm (by first|exact bD|exact kR) (by decide) ?_);intro _ _ _)))
  refine tH wV rfl rfl λw1 hB x1=>?_;have hB:bO w1 w.heap.size [i64 d,i64 s] 107:=hB;have h1:=h.hold x1;have hx1:=x1.size;have hlt:=hB.lt;refine iC hB.boxed bEh rfl (TW JO ?_);refine wP (c:=c.hold w.heap.size w1.heap.size) (wb:=w1) (n:=.move d s) h1 (oG (n:=.move d s) rfl) hr.a hr.u hb (by show l.length+_<=_;omega) λw2 h2=>?_;have hB2:=h2.fr.blk hB λhS=>hS (.inr ⟨by omega,hlt⟩);exact h.free x1 h2
 | bin op d a b=>
  dsimp only [aD.val] at fin srv ⊢;refine ⟨λw'=>Ew c wb w' (l++(jU c.of [a,b]++oZ op)) ys,?_,λw' h' _=>fin _ w' rfl rfl (by have:=(UX op).len;simp [jU,aD.us];omega) h'⟩
  (repeat (first|(with_reducible refine th (by first|exact bD|exact dA) ?_)|((with_reducible refine tm (by first|exact bD|exact kR) (by decide) ?_);intro _ _ _)))
  refine tH tO rfl rfl λw1 hB x1=>?_;have hB:bO w1 w.heap.size [i64 op,i64 d,i64 a,i64 b] 109:=hB;have h1:=h.hold x1;have hx1:=x1.size;have hlt:=hB.lt;refine iC hB.boxed bEg rfl (TW pL ?_);refine wP (c:=c.hold w.heap.size w1.heap.size) (wb:=w1) (n:=.bin op d a b) h1 (oG (n:=.bin op d a b) rfl) hr.a hr.u hb (by show l.length+_<=_;omega) λw2 h2=>?_;have hB2:=h2.fr.blk hB λhS=>hS (.inr ⟨by omega,hlt⟩);refine aV hB2.boxed cA aE rfl ?_;refine (bMd (c:=c.hold w.heap.size w1.heap.size) (wb:=w1) op).run h2 (by have:=(UX op).len;simp [jU,aD.us] at *;omega) λw3 h3=>?_;rw [List.append_assoc] at h3;exact h.free x1 h3
 | un op d a=>
  dsimp only [aD.val] at fin srv ⊢;refine ⟨λw'=>Ew c wb w' (l++(jU c.of [a]++eUn op)) ys,?_,λw' h' _=>fin _ w' rfl rfl (by have:=(aJn op).len;simp [jU,aD.us];omega) h'⟩
  (repeat (first|(with_reducible refine th (by first|exact bD|exact dP) ?_)|((with_reducible refine tm (by first|exact bD|exact dA|exact kR) (by decide) ?_);intro _ _ _)))
  refine tH uR rfl rfl λw1 hB x1=>?_;have hB:bO w1 w.heap.size [i64 op,i64 d,i64 a] 111:=hB;have h1:=h.hold x1;have hx1:=x1.size;have hlt:=hB.lt;refine iC hB.boxed bEf rfl (TW JN ?_);refine wP (c:=c.hold w.heap.size w1.heap.size) (wb:=w1) (n:=.un op d a) h1 (oG (n:=.un op d a) rfl) hr.a hr.u hb (by show l.length+_<=_;omega) λw2 h2=>?_;have hB2:=h2.fr.blk hB λhS=>hS (.inr ⟨by omega,hlt⟩);refine aV hB2.boxed bZ aE rfl ?_;refine (bNd (c:=c.hold w.heap.size w1.heap.size) (wb:=w1) op).run h2 (by have:=(aJn op).len;simp [jU,aD.us] at *;omega) λw3 h3=>?_;rw [List.append_assoc] at h3;exact h.free x1 h3
 | choose d q a b=>
  dsimp only [aD.val] at fin srv ⊢;refine ⟨λw'=>Ew c wb w' (l++(jU c.of [q,a,b]++lC)) ys,?_,λw' h' _=>fin _ w' rfl rfl (by simp [jU,lC,aD.us]) h'⟩
  (repeat (first|(with_reducible refine th (by first|exact bD|exact eV) ?_)|((with_reducible refine tm (by first|exact bD|exact dA|exact dP|exact kR) (by decide) ?_);intro _ _ _)))
  refine tH uQ rfl rfl λw1 hB x1=>?_;have hB:bO w1 w.heap.size [i64 d,i64 q,i64 a,i64 b] 113:=hB;have h1:=h.hold x1;have hx1:=x1.size;have hlt:=hB.lt;refine iC hB.boxed bEe rfl (TW aHu ?_);refine wP (c:=c.hold w.heap.size w1.heap.size) (wb:=w1) (n:=.choose d q a b) h1 (oG (n:=.choose d q a b) rfl) hr.a hr.u hb (by show l.length+_<=_;omega) λw2 h2=>?_;have hB2:=h2.fr.blk hB λhS=>hS (.inr ⟨by omega,hlt⟩);refine (aJy (c:=c.hold w.heap.size w1.heap.size) (wb:=w1) ).run h2 (by simp [jU,aD.us,lC] at *;omega) λw3 h3=>?_;rw [List.append_assoc] at h3;exact h.free x1 h3
 | tick  =>
  dsimp only [aD.val] at fin srv ⊢;refine ⟨λw'=>Ew c wb w' (l++(nC ((c.N:Int)+k))) ys,?_,λw' h' _=>fin _ w' rfl rfl (by simp [nC]) h'⟩
  (repeat (first|(with_reducible refine th (by first|exact bD|exact nV) ?_)|((with_reducible refine tm (by first|exact bD|exact dA|exact dP|exact eV|exact kR) (by decide) ?_);intro _ _ _)))
  refine tH bBe rfl rfl λw1 hB x1=>?_;have h1:=h.ext x1;obtain ⟨cs,e1,_,_,e2⟩:=h1.oAt;obtain ⟨vs,hvs⟩:=h1.o.nn w1 h1.fr;refine ⟨.inl ⟨_,rfl⟩,sT e1 fB eR kY e2 (gE nU hvs (bJ.2 ?_))⟩;rw [aQ (by omega)];exact (bCn ((c.N:Int)+k)).run h1 (by simp [nC];omega) λw2 h2=>h2
 | goto t=>
  dsimp only [aD.val] at fin srv ⊢;refine ⟨λw'=>Ew c wb w' (l++(.jump 14 t::[])) ys,?_,λw' h' _=>fin _ w' rfl rfl (by simp []) h'⟩
  (repeat (first|(with_reducible refine th (by first|exact bD|exact eE) ?_)|((with_reducible refine tm (by first|exact bD|exact dA|exact dP|exact eV|exact eE|exact eU|exact fX|exact fW|exact iM|exact iQ|exact jM|exact kM|exact nV|exact kR) (by decide) ?_);intro _ _ _)))
  refine tH tN rfl rfl λw1 hB x1=>?_;have hB:bO w1 w.heap.size [i64 t] 115:=hB;have h1:=h.hold x1;have hx1:=x1.size;have hlt:=hB.lt;refine aV hB.boxed bW aE rfl ?_;exact (UC (c:=c.hold w.heap.size w1.heap.size) (wb:=w1) 14 t).run h1 (by simp;omega) λw2 h2=>h.free x1 h2
 | branch q t=>
  dsimp only [aD.val] at fin srv ⊢;refine ⟨λw'=>Ew c wb w' (l++(jU c.of [q]++[jK 9 0 0,.jump 1 t])) ys,?_,λw' h' _=>fin _ w' rfl rfl (by simp [jU,aD.us]) h'⟩
  (repeat (first|(with_reducible refine th (by first|exact bD|exact eU) ?_)|((with_reducible refine tm (by first|exact bD|exact dA|exact dP|exact eV|exact eE|exact eU|exact fX|exact fW|exact iM|exact iQ|exact jM|exact kM|exact nV|exact kR) (by decide) ?_);intro _ _ _)))
  refine tH tM rfl rfl λw1 hB x1=>?_;have hB:bO w1 w.heap.size [i64 q,i64 t] 117:=hB;have h1:=h.hold x1;have hx1:=x1.size;have hlt:=hB.lt;refine iC hB.boxed aIh rfl (TW TX ?_);refine wP (c:=c.hold w.heap.size w1.heap.size) (wb:=w1) (n:=.branch q t) h1 (oG (n:=.branch q t) rfl) hr.a hr.u hb (by show l.length+_<=_;omega) λw2 h2=>?_;have hB2:=h2.fr.blk hB λhS=>hS (.inr ⟨by omega,hlt⟩);refine (yB (c:=c.hold w.heap.size w1.heap.size) (wb:=w1) 9 0 0).run h2 (by simp [jU,aD.us] at *;omega) λw3 h3=>?_;have hB3:=h3.fr.blk hB λhS=>hS (.inr ⟨by omega,hlt⟩);refine aV hB3.boxed bV aE rfl ?_;refine (UC (c:=c.hold w.heap.size w1.heap.size) (wb:=w1) 1 t).run h3 (by simp [jU,aD.us] at *;omega) λw4 h4=>h.free (a:=w.heap.size) (b:=w1.heap.size) x1 ?_;have e9:l++jU c.of [q]++[jK 9 0 0]++[.jump 1 t]=l++(jU c.of [q]++[jK 9 0 0,.jump 1 t]):=by simp
  rw [<- e9];exact h4
 | getField d f=>
  dsimp only [aD.val] at fin srv ⊢;refine ⟨λw'=>Ew c wb w' (l++([uA c.ap,.one ⟨31,0,1,0,4*f,0⟩])) ys,?_,λw' h' _=>fin _ w' rfl rfl (by simp []) h'⟩
  (repeat (first|(with_reducible refine th (by first|exact bD|exact fX) ?_)|((with_reducible refine tm (by first|exact bD|exact dA|exact dP|exact eV|exact eE|exact eU|exact fX|exact fW|exact iM|exact iQ|exact jM|exact kM|exact nV|exact kR) (by decide) ?_);intro _ _ _)))
  have hf:0<=f/\f < 8:=hF;refine tH zY rfl rfl λw1 hB x1=>?_;have hB:bO w1 w.heap.size [i64 d,i64 f] 119:=hB;have h1:=h.hold x1;have hx1:=x1.size;have hlt:=hB.lt;refine (XZ (c:=c.hold w.heap.size w1.heap.size) (wb:=w1) ha).run h1 (by simp;omega) λw2 h2=>?_;have hB2:=h2.fr.blk hB λhS=>hS (.inr ⟨by omega,hlt⟩);refine aV hB2.boxed cQ aE rfl (qP.2 ?_);rw [aQ (by omega)];refine lF qN [(0,i64 31),(1,i64 0),(2,i64 1),(4,i64 (4*f))] rfl rfl ?_;refine (DT (c:=c.hold w.heap.size w1.heap.size) (wb:=w1) ⟨31,0,1,0,4*f,0⟩).run h2 (by simp;omega) λw3 h3=>h.free (a:=w.heap.size) (b:=w1.heap.size) x1 ?_;rw [List.append_assoc] at h3;exact h3
 | putField f s=>
  dsimp only [aD.val] at fin srv ⊢;refine ⟨λw'=>Ew c wb w' (l++(jU c.of [s]++[uA c.ap,.one ⟨32,0,1,0,4*f,0⟩])) ys,?_,λw' h' _=>fin _ w' rfl rfl (by simp [jU,aD.us]) h'⟩
  (repeat (first|(with_reducible refine th (by first|exact bD|exact fW) ?_)|((with_reducible refine tm (by first|exact bD|exact dA|exact dP|exact eV|exact eE|exact eU|exact fX|exact fW|exact iM|exact iQ|exact jM|exact kM|exact nV|exact kR) (by decide) ?_);intro _ _ _)))
  have hf:0<=f/\f < 8:=hF;refine tH wU rfl rfl λw1 hB x1=>?_;have hB:bO w1 w.heap.size [i64 f,i64 s] 121:=hB;have h1:=h.hold x1;have hx1:=x1.size;have hlt:=hB.lt;refine iC hB.boxed bEc rfl (TW aHs ?_);refine wP (c:=c.hold w.heap.size w1.heap.size) (wb:=w1) (n:=.putField f s) h1 (oG (n:=.putField f s) rfl) hr.a hr.u hb (by show l.length+_<=_;omega) λw2 h2=>?_;have hB2:=h2.fr.blk hB λhS=>hS (.inr ⟨by omega,hlt⟩);refine (XZ (c:=c.hold w.heap.size w1.heap.size) (wb:=w1) ha).run h2 (by simp [jU,aD.us] at *;omega) λw3 h3=>?_;have hB3:=h3.fr.blk hB λhS=>hS (.inr ⟨by omega,hlt⟩);refine aV hB3.boxed cP aE rfl (qP.2 ?_);rw [aQ (by omega)];refine lF qN [(0,i64 32),(1,i64 0),(2,i64 1),(4,i64 (4*f))] rfl rfl ?_;refine (DT (c:=c.hold w.heap.size w1.heap.size) (wb:=w1) ⟨32,0,1,0,4*f,0⟩).run h3 (by simp [jU,aD.us] at *;omega) λw4 h4=>h.free (a:=w.heap.size) (b:=w1.heap.size) x1 ?_;have e9:l++jU c.of [s]++[uA c.ap]++[.one ⟨32,0,1,0,4*f,0⟩]=l++(jU c.of [s]++[uA c.ap,.one ⟨32,0,1,0,4*f,0⟩]):=by simp
  rw [<- e9];exact h4
 | serve op a b d r=>
  dsimp only [aD.val] at fin srv ⊢;refine ⟨λ_=>False,?_,λ_ h' _=>h'.elim⟩
  (repeat (first|(with_reducible refine th bD ?_)|((with_reducible refine tm (by first|exact bD|exact dA|exact dP|exact eV|exact eE|exact eU|exact fX|exact fW|exact iM|exact iQ|exact jM|exact kM|exact nV|exact kR) (by decide) ?_);intro _ _ _)))
  exact srv rfl rfl
 | call m d r=>
  dsimp only [aD.val] at fin srv ⊢;refine ⟨λ_=>False,?_,λ_ h' _=>h'.elim⟩
  (repeat (first|(with_reducible refine th bD ?_)|((with_reducible refine tm (by first|exact bD|exact dA|exact dP|exact eV|exact eE|exact eU|exact fX|exact fW|exact iM|exact iQ|exact jM|exact kM|exact nV|exact kR) (by decide) ?_);intro _ _ _)))
  exact srv rfl rfl
 | callX m d r=>
  dsimp only [aD.val] at fin srv ⊢;refine ⟨λ_=>False,?_,λ_ h' _=>h'.elim⟩
  (repeat (first|(with_reducible refine th bD ?_)|((with_reducible refine tm (by first|exact bD|exact dA|exact dP|exact eV|exact eE|exact eU|exact fX|exact fW|exact iM|exact iQ|exact jM|exact kM|exact nV|exact kR) (by decide) ?_);intro _ _ _)))
  exact srv rfl rfl
 | ret s=>
  dsimp only [aD.val] at fin srv ⊢;refine ⟨λ_=>False,?_,λ_ h' _=>h'.elim⟩
  (repeat (first|(with_reducible refine th bD ?_)|((with_reducible refine tm (by first|exact bD|exact dA|exact dP|exact eV|exact eE|exact eU|exact fX|exact fW|exact iM|exact iQ|exact jM|exact kM|exact nV|exact kR) (by decide) ?_);intro _ _ _)))
  exact srv rfl rfl
end Go.Proofs.YtjcmcfidblhnnaaGreatDoor
namespace Go.Vc
theorem aIe {P:Program} {w:O} {K:Y->O->Prop} {t n b off:Nat} {cs l:List Y} (hb:bF w b cs) (ht:∃ d z by_,P.underlying t=some d/\lZ d=true/\cZ P t z n by_) (hl:l.length=n) (he:(cs.drop off).take n=l) (hk:K (.agg l.toArray) w) :
  V P (Instr.loadAt t (.pointer (some ⟨b,off,none⟩))) w K:=by
 obtain ⟨d,z,by_,h1,h2,h3⟩:=ht;refine V.ok (nG h1 h2 h3 hl λj hj=>?_) hk;obtain ⟨u,hu⟩:∃ u,l[j]?=some u:=⟨_,List.getElem?_eq_getElem hj⟩;rw [hu]
 have h5:cs[off+j]?=some u:=by
  rw [<- he,List.getElem?_take] at hu;split at hu
  ·rwa [List.getElem?_drop] at hu
  ·cases hu
 have:=hb _ u h5
 rwa [Nat.zero_add] at this
end Go.Vc
namespace Go.Proofs.YtjcmcfidblhnnaaGreatDoor
open Tryz
open Go.Vc
variable {w:O} {K:Y->O->Prop}
variable {p:fU} {R:Nat} {slots:Int}
theorem bNq:BG prog 135 [i64 0,i64 0,bC,bC,i64 0,i64 0,bC,bC,i64 0] [(0,3),(3,2),(5,1),(6,3)]:=⟨_,_,_,underlying135,bEt,λw=>by kernel_rfl⟩
theorem bFa (a b c d e:Y) (f:Int):Instr.fill (([(0,3),(3,2),(5,1),(6,3)]:List (Nat × Nat)).toArray[·]?) [i64 0,i64 0,bC,bC,i64 0,i64 0,bC,bC,i64 0].toArray [(0,.agg [a,b,c].toArray),(1,.agg [d,e].toArray),(2,i64 f)]=some [a,b,c,d,e,i64 f,bC,bC,i64 0].toArray:=by kernel_rfl
theorem pJ.ofB {of:List Int} (h:pJ p R of slots):OfB of:=⟨λa ha=>by
 obtain ⟨k,hk⟩:=List.getElem?_of_mem ha;have h1:=h.s1;rcases h.val k a hk with e|e|e<;>omega⟩
theorem pJ.ofOk {of:List Int} (h:pJ p R of slots):ON of R:=λr h0 h1=>by
 have hl:=h.len;have h2:=h.s1;have hk:of[r.toNat]?=some (of.getD r.toNat 0):=by rw [List.getD_eq_getElem?_getD,List.getElem?_eq_getElem (by omega)];rfl
 rcases h.val _ _ hk with e|e|e<;>omega
theorem pV.regB {n:aD} {k c:Int} (h:pV n k R c) (ha:n.args.length<=4294967296):aKs n R:=⟨h.u,λhd=>by rcases h.d with h1|h1<;>omega,ha,h.us5⟩
theorem bFc {T:Y->aD->Prop} {ns ov:Y} {vs0:List Y} {of:List Int} {ap:Int} (hp:pW w (.agg #[i64 p.params,i64 p.regs,ns]) p) (hvs0:aA w ns 1 p.nodes.length vs0) (hvn0:∀ (i:Nat) n,p.nodes[i]?=some n->∃ u,vs0[i]?=some u/\iO w u n/\T u n) (hv:lA p) (hR:p.regs=R) (ho:aO w ov of) (hg:pJ p R of slots) (ha:0<=ap/\ap < 4)
  (hk:∀ iv tv ys w',w'.ownsRow w.heap.size 180 11 iv (nB p of ap).length (itC (nB p of ap))->w'.ownsRow w.heap.size 43 1 tv (kG p).length ys->(∀ (q:Nat) n,(kG p)[q]?=some n->∃ u,ys[q]?=some u/\iO w u n/\T u n)->aG w w'->K (.tuple #[.agg #[iv,tv,i64 (4*slots)],i64 0]) w') :
  aB prog 17 #[.agg #[i64 p.params,i64 p.regs,ns],.agg #[ov,i64 slots],i64 ap] w K:=by
 have hp0:=hp;have hargs:∀ n∈p.nodes,n.args.length<=4294967296:=by obtain ⟨_,_,_,h⟩:=hp;exact h
 have hl1:=hv.l1;have hl2:=hv.l2;have hr1:=hv.r1;have hr2:=hv.r2;have hp1:=hv.p1;have hp2:=hv.p2;have hp3:=hv.p3;have hs0:=hg.s0;have hs1:=hg.s1;have hlen:=hg.len;apply bJp;unfold aBw;refine bxK λw1 hb3 x1=>?_;have hb3:bO w1 w.heap.size [i64 p.params,i64 p.regs,ns] 33:=hb3;refine bxK λw2 hb4 x2=>?_;have hb4:bO w2 w1.heap.size [ov,i64 slots] 72:=hb4;refine zU uZ λw3 hb6 x3=>?_;have hb6:bO w3 w2.heap.size [bC,bC,i64 0] 68:=hb6;have x02:=x1.trans x2;have x03:=x02.trans x3;refine iC (hb3.ext (x2.trans x3)).boxed qY rfl ?_;refine (vB (hp0.ext x03) hv).mono λr w4 ⟨hr,x4⟩=>?_;subst hr;refine dO.2 ?_;simp only [Bool.not_true,pD];refine iC (hb3.ext ((x2.trans x3).trans x4)).boxed qY rfl ?_;refine iC ((hb4.ext x3).ext x4).boxed aIg rfl ?_;refine (GA (hp0.ext (x03.trans x4)) hv hR (ho.ext (x03.trans x4)) (by omega)).mono λr w5 ⟨⟨ok,hr,hok⟩,x5⟩=>?_;obtain rfl:ok=true:=hok.2 hg;subst hr;refine dO.2 ?_;simp only [Bool.not_true,pD,bA,Bool.false_eq_true,reduceIte];refine aZ.2 ?_;simp only [show decide (ap < 0)=false from by simp;omega,pD,bA,Bool.false_eq_true,reduceIte];refine fK.2 ?_;simp only [show decide (ap>=4)=false from by simp;omega,aM];have x35:=x4.trans x5;have x05:=x03.trans x35;have hb3':=hb3.ext ((x2.trans x3).trans x35);have hb4':=(hb4.ext x3).ext x35;have hb6':=hb6.ext x35
 refine iC hb3'.boxed qY rfl ?_;refine iC hb4'.boxed aIg rfl ?_;refine KK bNq (bFa _ _ _ _ _ _) ?_;refine bxK λw6 hB x6=>?_;have hB:bO w6 w5.heap.size [i64 p.params,i64 p.regs,ns,ov,i64 slots,i64 ap,bC,bC,i64 0] 135:=hB;refine aV (hb4'.ext x6).boxed mV aE rfl (qP.2 ?_);rw [aQ (by omega)];refine ⟨.inl ⟨_,rfl⟩,bKq bU qA bT hB (n:=9) rfl (by decide) rfl ?_⟩;have f7:Fr (λk=>k=w5.heap.size) w6 (w6.setCell ⟨w5.heap.size,8,none⟩ (i64 (4*slots))):=Fr.of_set rfl;have hB7:=hB.set 8 (i64 (4*slots));have x57:aG w5 (w6.setCell ⟨w5.heap.size,8,none⟩ (i64 (4*slots))):=f7.ext x6 λi hi=>by omega
 show V _ _ (w6.setCell ⟨w5.heap.size,8,none⟩ (i64 (4*slots))) _;generalize w6.setCell ⟨w5.heap.size,8,none⟩ (i64 (4*slots))=w7 at f7 hB7 x57;have x07:=x05.trans x57;refine aV (hb3'.ext x57).boxed lM aE rfl ?_;have hB7:bO w7 w5.heap.size [i64 p.params,i64 p.regs,ns,ov,i64 slots,i64 ap,bC,bC,i64 (4*slots)] 135:=hB7;have h57:=hB7.lt;have toX:∀ {w'},Fr (λk=>¬ k < w5.heap.size) w7 w'->aG w5 w':=λhf=>hf.ext x57 λi hi=>by omega
 have hE:∃ c:Ec,c={ H:=λk=>k < w5.heap.size,B:=w5.heap.size+1,g:=w5.heap.size,pr:=i64 p.params,rg:=i64 p.regs,nv:=ns,ov:=ov,sl:=i64 slots,ap:=ap,fr:=i64 (4*slots),of:=of,N:=p.nodes.length }:=⟨_,rfl⟩;obtain ⟨c,hc⟩:=hE
 have ho7:Eo c w7:=by
  subst hc;exact ⟨⟨Nat.lt_succ_self _,h57⟩,λk hk=>⟨by have hk:k < w5.heap.size:=hk;omega,by have hk:k < w5.heap.size:=hk;show k≠w5.heap.size;omega⟩,λw' hf=>ho.ext (x05.trans (toX hf)),λw' hf=>⟨vs0,hvs0.ext (x05.trans (toX hf))⟩⟩
 have h7:Ew c w7 w7 [] []:=by
  refine ⟨ho7,Fr.refl _ _,bC,bC,?_,World.ownsRow_nil _ _ _ _,World.ownsRow_nil _ _ _ _,λk hk=>(by cases hk),λk hk=>(by cases hk)⟩;subst hc;exact hB7
 have hcg:c.g=w5.heap.size:=by rw [hc]
 have hcof:c.of=of:=by rw [hc]
 have hcap:c.ap=ap:=by rw [hc]
 have hcN:c.N=p.nodes.length:=by rw [hc]
 have hcH:∀ {w'},Fr (λk=>¬ c.H k) w7 w'->aG w5 w':=by rw [hc];exact toX
 have hofb:OfB c.of:=by rw [hcof];exact hg.ofB
 rw [<- hcg];refine ⟨λv w'=>∃ j:Nat,v=i64 j/\(j:Int)<=p.params/\Ew c w7 w' ((List.range j).map λ(k:Nat)=>eSt of (k:Int) (k:Int)) [],λv _=>p.params.toNat - (RowKit.intOf v).toNat,⟨0,rfl,by omega,h7⟩,?_⟩;rintro _ w8 ⟨j,rfl,hj,h8⟩ _;refine aZ.2 (aC (λhlt=>?_) λhge=>?_)
 ·refine (WG (by omega) (by rw [hcof];omega) hofb.b).run h8 (by simp;omega) λw9 h9=>bJ.2 ?_;rw [aQ (by omega),bK];refine ⟨⟨j+1,rfl,by omega,?_⟩,by simp only [aK];omega⟩;rw [List.range_succ,List.map_append];rw [hcof] at h9;exact h9
 have hjp:((List.range j).map λ(k:Nat)=>eSt of (k:Int) (k:Int))=(gN p of ap 0).1:=by
  have:p.params.toNat=j:=by omega
  simp only [gN,this]
 rw [hjp] at h8;clear hge hjp;have hb38:∀ {w'},Fr (λk=>¬ c.H k) w7 w'->bF w' w.heap.size [i64 p.params,i64 p.regs,ns]:=λhf=>(hb3'.ext (hcH hf)).boxed;refine aV (hb38 h8.fr) eR kY rfl (gE nU (hvs0.ext (x05.trans (hcH h8.fr))) ?_);refine ⟨λv w'=>∃ (j:Nat) (ys:List Y),v=i64 j/\j<=p.nodes.length/\Ew c w7 w' (gN p of ap j).1 ys/\ys.length=(gN p of ap j).2.length/\∀ (q:Nat) n,(gN p of ap j).2[q]?=some n->∃ u,ys[q]?=some u/\iO w u n/\T u n,λv _=>p.nodes.length - (RowKit.intOf v).toNat,⟨0,[],rfl,Nat.zero_le _,h8,rfl,λq n hq=>by simp [gN] at hq⟩,?_⟩;rintro _ w9 ⟨j,ys,rfl,hj,h9,hyl,hyn⟩ _;have hem:=EX (of:=of) (applet:=ap) hv hR rfl hg.ofOk j hj;have hel:=hem.len;have htl:(gN p of ap j).2.length<=j:=by rw [hem.tab];exact Nat.le_trans (List.length_filter_le _ _) (by simp)
 refine aZ.2 (aC (λhlt=>?_) λhge=>?_)
 ·have hj':j < p.nodes.length:=by omega
  obtain ⟨hpk,hrk⟩:=hv.at hj';obtain ⟨u,hu,hnu,hTu⟩:=hvn0 j _ hpk;have hna:=hargs _ (List.mem_of_getElem? hpk);refine mH nU BE (hvs0.ext (x05.trans (hcH h9.fr))) (by omega) (by omega) (by simpa using hu) ?_;refine (WV (j:Int)).run h9 (by simp;omega) λw10 h10=>?_;have hrb:aKs (p.at' j) c.of.length:=by rw [hcof,hlen,<- Int.toNat_natCast R,<- hR];rw [hR] at hrk ⊢;exact hrk.regB hna
  refine bDk (n:=p.at' j) (k:=j) h10 (hnu.ext (x05.trans (hcH h10.fr))) (λw' hf=>hnu.ext (x05.trans (hcH hf))) hrb hofb (by rw [hcap];exact ha) (by rw [hcN];omega) (by omega) (by simp;omega) (by omega) hrk.f λw11 h11=>bJ.2 ?_;rw [aQ (by omega),bK];have e1:(gN p of ap (j+1)).1=(gN p of ap j).1++.place j::pH of p.nodes.length ap (gN p of ap j).2.length (p.at' j) j:=rfl;have e2:(gN p of ap (j+1)).2=if (p.at' j).srvB then (gN p of ap j).2++[p.at' j] else (gN p of ap j).2:=rfl
  rw [hcof,hcN,hcap,hyl,List.append_assoc,List.singleton_append,<- e1] at h11;refine ⟨⟨j+1,_,rfl,by omega,h11,?_,?_⟩,by simp only [aK];omega⟩
  ·rw [e2];split<;>simp [hyl]
  ·rw [e2];intro q n hq;split at hq
   ·rename_i hsr
    rw [if_pos hsr];rw [List.getElem?_append] at hq ⊢;rw [hyl];split at hq
    ·rename_i hql;rw [if_pos hql];exact hyn q n hq
    ·rename_i hql
     rw [if_neg hql]
     have hq0:q - (gN p of ap j).2.length=0:=by
      have:=(List.getElem?_eq_some_iff.1 hq).1;simpa using this
     rw [hq0] at hq ⊢;cases hq;exact ⟨u,rfl,hnu,hTu⟩
   ·rename_i hsr
    rw [if_neg hsr];exact hyn q n hq
 obtain rfl:j=p.nodes.length:=by omega
 have htab:(gN p of ap p.nodes.length).2=kG p:=(zD (applet:=ap) hv hR hg.ofOk).2;obtain ⟨iv,tv,e1,e2⟩:=h9.items;obtain ⟨_,f9,iv',tv',b1,b2,b3,b4,b5⟩:=h9;have ei:=b1.cell 6;rw [e1] at ei;cases ei;have et:=b1.cell 7;rw [e2.cell 7] at et;cases et;refine ⟨.inl ⟨_,rfl⟩,EW bU (aIe (l:=[iv,tv,c.fr]) e2.boxed bLs rfl rfl ?_)⟩;have x59:=hcH f9;have hfr:c.fr=i64 (4*slots):=by rw [hc]
 rw [hfr];have hb69:=hb6'.ext x59;refine wR uZ hb69 (l:=[iv,tv,i64 (4*slots)]) rfl rfl rfl (by show (bX iv&&(bX tv&&(bX (i64 (4*slots))&&true)))=true;rw [oQ b2,oQ b3];rfl) λwE hBE hcE=>?_;refine ⟨_,oF underlying68 rfl uZ hBE rfl,⟨_,rfl⟩,?_⟩;have fE:Fr (λk=>k=w2.heap.size) w9 wE:=Fr.of_grown hcE.grown λk hk=>by cases hk;rfl
 have s25:=x3.size;have hlt25:w2.heap.size < w5.heap.size:=hb6'.lt;have hcB:c.B=w5.heap.size+1:=by rw [hc]
 have kp:∀ {e s:Nat} {v:Y} {n:Nat} {zs:List Y},w9.ownsRow c.B e s v n zs->wE.ownsRow c.B e s v n zs:=λho=>fE.own ho λk hk hS=>by have:=(ho.lt k hk).1;omega
 have xE:aG w wE:=hcE.ext _ (x05.trans x59) (by have:=x02.size;omega);have s03:=x02.size;exact hk iv tv ys wE (aU (kp b2) (by omega)) (by rw [<- htab,<- hyl];exact aU (kp b3) (by omega)) (by rw [<- htab];exact hyn) xE
end Go.Proofs.YtjcmcfidblhnnaaGreatDoor
namespace Go.Proofs.YtjcmcfidblhnnaaGreatDoor
open Tryz
open Go.Vc
structure jX where
 part:Int
 shift:Int
 bits:Int
 least:Int
 most:Int
 step:Int
def jX.cells (s:jX):List Y:=[i64 s.part,i64 s.shift,i64 s.bits,i64 s.least,i64 s.most,i64 s.step]
def aT (part shift:Int):jX:=⟨part,shift,3,0,7,1⟩
def bL (shift bits least most step:Int):jX:=⟨3,shift,bits,least,most,step⟩
def iL.part (i:iL) (k:Int):Int:=if k=0 then i.d else if k=1 then i.n else if k=2 then i.m else if k=3 then i.imm else i.cond
def mQ (op:Int):Option (Int × List jX):=
 if op=36 then some (0x9000,[aT 0 8,bL 0 8 0 1020 4]) else if op=35 then some (0x9800,[aT 0 8,bL 0 8 0 1020 4])
 else if op=37 then some (0xb000,[bL 0 7 0 508 4]) else if op=38 then some (0xb080,[bL 0 7 0 508 4])
 else if op=39 then some (0xb400,[bL 0 9 1 511 1]) else if op=40 then some (0xbc00,[bL 0 9 1 511 1])
 else if op=41 then some (0xd000,[bL 0 8 (-256) 254 2,⟨4,8,4,0,13,1⟩]) else if op=42 then some (0xe000,[bL 0 11 (-2048) 2046 2])
 else if op=44 then some (0xdf00,[bL 0 8 0 255 1]) else if op=45 then some (0xbf00,[]) else none
def dH (op:Int):Option (Int × List jX):=
 if 12<=op/\op<=27 then some (0x4000+(op - 12)*64,[aT 0 0,aT 2 3])
 else if 8<=op/\op<=11 then some (0x2000+(op - 8)*2048,[aT 0 8,bL 0 8 0 255 1])
 else if op=1 then some (0,[aT 0 0,aT 2 3,bL 6 5 0 31 1]) else if op=2 then some (0x800,[aT 0 0,aT 2 3,bL 6 5 1 32 1]) else if op=3 then some (0x1000,[aT 0 0,aT 2 3,bL 6 5 1 32 1])
 else if op=4 then some (0x1800,[aT 0 0,aT 1 3,aT 2 6]) else if op=5 then some (0x1a00,[aT 0 0,aT 1 3,aT 2 6])
 else if op=6 then some (0x1c00,[aT 0 0,aT 1 3,bL 6 3 0 7 1]) else if op=7 then some (0x1e00,[aT 0 0,aT 1 3,bL 6 3 0 7 1])
 else if op=30 then some (0x5000,[aT 0 0,aT 1 3,aT 2 6]) else if op=29 then some (0x5800,[aT 0 0,aT 1 3,aT 2 6])
 else if op=32 then some (0x6000,[aT 0 0,aT 1 3,bL 6 5 0 124 4]) else if op=31 then some (0x6800,[aT 0 0,aT 1 3,bL 6 5 0 124 4])
 else if op=34 then some (0x7000,[aT 0 0,aT 1 3,bL 6 5 0 31 1]) else if op=33 then some (0x7800,[aT 0 0,aT 1 3,bL 6 5 0 31 1])
 else mQ op
def jW (sl:List jX) (i:iL) (k:Int):Bool:=
 match sl.find? λs=>decide (s.part=k) with
 | some s=>decide (s.least<=i.part k)&&decide (i.part k<=s.most)&&decide ((i.part k).tmod s.step=0)
 | none=>decide (i.part k=0)
def dB (i:iL):Bool:=
 if i.op=28 then decide (i.n=0/\i.imm=0/\i.cond=0)&&decide (0<=i.d)&&decide (i.d < 15)&&decide (i.d≠13)&&decide (0<=i.m)&&decide (i.m < 15)
 else if i.op=43 then decide (i.d=0/\i.n=0/\i.m=0/\i.cond=0)&&decide (-16777216<=i.imm)&&decide (i.imm<=16777214)&&decide (i.imm.tmod 2=0)
 else match dH i.op with
  | some r=>jW r.2 i 0&&jW r.2 i 1&&jW r.2 i 2&&jW r.2 i 3&&jW r.2 i 4
  | none=>false
theorem WD {a b:Int} (h0:0<=a) (h:a % b=0):a.tmod b=0:=by rw [Int.tmod_eq_emod_of_nonneg h0];exact h
theorem eD {sl:List jX} {i:iL} {k:Int} {s:jX} (h:sl.find? (λs=>decide (s.part=k))=some s) (h1:s.least<=i.part k) (h2:i.part k<=s.most) (h3:(i.part k).tmod s.step=0):jW sl i k=true:=by
 unfold jW;rw [h];simp [h1,h2,h3]
theorem cB {sl:List jX} {i:iL} {k:Int} (h:sl.find? (λs=>decide (s.part=k))=none) (h1:i.part k=0):jW sl i k=true:=by
 unfold jW;rw [h];simp [h1]
theorem AE {i:iL} (h:i.okT):dB i=true:=by
 obtain ⟨op,d,n,m,imm,cond⟩:=i;have m1:∀ a:Int,a.tmod 1=0:=λa=>Int.tmod_one a;rcases h with ⟨h1,⟨h2,h3,h4⟩,⟨h5,h6⟩,h7,h8,h9⟩|⟨h1,⟨h2,h3⟩,h4,h5,⟨h6,h7,h8⟩,h9⟩|⟨⟨h1,h1'⟩,⟨h2,h3⟩,h4,h5,⟨h6,h7⟩,h9⟩|⟨⟨h1,h1'⟩,⟨h2,h3⟩,h4,⟨h5,h6⟩,h8,h9⟩|⟨h1,⟨h2,h3⟩,⟨h4,h5⟩,⟨h6,h7⟩,h8,h9⟩|⟨h1,⟨h2,h3⟩,⟨h4,h5⟩,h6,⟨h7,h8,h10⟩,h9⟩|⟨h1,h2,h3,h4,⟨h6,h7⟩,h9⟩<;>dsimp only at *
 ·subst h1 h7 h8 h9;simp [dB];omega
 ·have fin:∀ b sl,dH op=some (b,sl)->sl=[aT 0 8,bL 0 8 0 1020 4]->¬ op=28->¬ op=43->dB ⟨op,d,n,m,imm,cond⟩=true:=λb sl hf hs c1 c2=>by
   subst hs h4 h5 h9;unfold dB;rw [if_neg c1,if_neg c2,hf];have a0:=eD (sl:=[aT 0 8,bL 0 8 0 1020 4]) (i:=⟨op,d,0,0,imm,0⟩) (k:=0) (s:=aT 0 8) rfl h2 h3 (m1 _);have a1:=cB (sl:=[aT 0 8,bL 0 8 0 1020 4]) (i:=⟨op,d,0,0,imm,0⟩) (k:=1) rfl rfl;have a2:=cB (sl:=[aT 0 8,bL 0 8 0 1020 4]) (i:=⟨op,d,0,0,imm,0⟩) (k:=2) rfl rfl;have a3:=eD (sl:=[aT 0 8,bL 0 8 0 1020 4]) (i:=⟨op,d,0,0,imm,0⟩) (k:=3) (s:=bL 0 8 0 1020 4) rfl h6 h7 (WD h6 h8);have a4:=cB (sl:=[aT 0 8,bL 0 8 0 1020 4]) (i:=⟨op,d,0,0,imm,0⟩) (k:=4) rfl rfl;dsimp only;rw [a0,a1,a2,a3,a4];rfl
  rcases h1 with rfl|rfl
  iterate 2
   ·exact fin _ _ rfl rfl (by decide) (by decide)
 ·subst h4 h5 h9;have hf:dH op=some (0x2000+(op - 8)*2048,[aT 0 8,bL 0 8 0 255 1]):=by unfold dH;rw [if_neg (by omega),if_pos ⟨h1,h1'⟩]
  unfold dB;rw [if_neg (by dsimp only;omega),if_neg (by dsimp only;omega)];dsimp only;rw [hf];have a0:=eD (sl:=[aT 0 8,bL 0 8 0 255 1]) (i:=⟨op,d,0,0,imm,0⟩) (k:=0) (s:=aT 0 8) rfl h2 h3 (m1 _);have a1:=cB (sl:=[aT 0 8,bL 0 8 0 255 1]) (i:=⟨op,d,0,0,imm,0⟩) (k:=1) rfl rfl;have a2:=cB (sl:=[aT 0 8,bL 0 8 0 255 1]) (i:=⟨op,d,0,0,imm,0⟩) (k:=2) rfl rfl;have a3:=eD (sl:=[aT 0 8,bL 0 8 0 255 1]) (i:=⟨op,d,0,0,imm,0⟩) (k:=3) (s:=bL 0 8 0 255 1) rfl h6 h7 (m1 _);have a4:=cB (sl:=[aT 0 8,bL 0 8 0 255 1]) (i:=⟨op,d,0,0,imm,0⟩) (k:=4) rfl rfl;dsimp only;rw [a0,a1,a2,a3,a4];rfl
 ·subst h4 h8 h9;have hf:dH op=some (0x4000+(op - 12)*64,[aT 0 0,aT 2 3]):=by unfold dH;rw [if_pos ⟨h1,h1'⟩]
  unfold dB;rw [if_neg (by dsimp only;omega),if_neg (by dsimp only;omega)];dsimp only;rw [hf];have a0:=eD (sl:=[aT 0 0,aT 2 3]) (i:=⟨op,d,0,m,0,0⟩) (k:=0) (s:=aT 0 0) rfl h2 h3 (m1 _);have a1:=cB (sl:=[aT 0 0,aT 2 3]) (i:=⟨op,d,0,m,0,0⟩) (k:=1) rfl rfl;have a2:=eD (sl:=[aT 0 0,aT 2 3]) (i:=⟨op,d,0,m,0,0⟩) (k:=2) (s:=aT 2 3) rfl h5 h6 (m1 _);have a3:=cB (sl:=[aT 0 0,aT 2 3]) (i:=⟨op,d,0,m,0,0⟩) (k:=3) rfl rfl;have a4:=cB (sl:=[aT 0 0,aT 2 3]) (i:=⟨op,d,0,m,0,0⟩) (k:=4) rfl rfl;dsimp only;rw [a0,a1,a2,a3,a4];rfl
 ·have fin:∀ b sl,dH op=some (b,sl)->sl=[aT 0 0,aT 1 3,aT 2 6]->¬ op=28->¬ op=43->dB ⟨op,d,n,m,imm,cond⟩=true:=λb sl hf hs c1 c2=>by
   subst hs h8 h9;unfold dB;rw [if_neg c1,if_neg c2,hf];have a0:=eD (sl:=[aT 0 0,aT 1 3,aT 2 6]) (i:=⟨op,d,n,m,0,0⟩) (k:=0) (s:=aT 0 0) rfl h2 h3 (m1 _);have a1:=eD (sl:=[aT 0 0,aT 1 3,aT 2 6]) (i:=⟨op,d,n,m,0,0⟩) (k:=1) (s:=aT 1 3) rfl h4 h5 (m1 _);have a2:=eD (sl:=[aT 0 0,aT 1 3,aT 2 6]) (i:=⟨op,d,n,m,0,0⟩) (k:=2) (s:=aT 2 6) rfl h6 h7 (m1 _);have a3:=cB (sl:=[aT 0 0,aT 1 3,aT 2 6]) (i:=⟨op,d,n,m,0,0⟩) (k:=3) rfl rfl;have a4:=cB (sl:=[aT 0 0,aT 1 3,aT 2 6]) (i:=⟨op,d,n,m,0,0⟩) (k:=4) rfl rfl;dsimp only;rw [a0,a1,a2,a3,a4];rfl
  rcases h1 with rfl|rfl
  iterate 2
   ·exact fin _ _ rfl rfl (by decide) (by decide)
 ·have fin:∀ b sl,dH op=some (b,sl)->sl=[aT 0 0,aT 1 3,bL 6 5 0 124 4]->¬ op=28->¬ op=43->dB ⟨op,d,n,m,imm,cond⟩=true:=λb sl hf hs c1 c2=>by
   subst hs h6 h9;unfold dB;rw [if_neg c1,if_neg c2,hf];have a0:=eD (sl:=[aT 0 0,aT 1 3,bL 6 5 0 124 4]) (i:=⟨op,d,n,0,imm,0⟩) (k:=0) (s:=aT 0 0) rfl h2 h3 (m1 _);have a1:=eD (sl:=[aT 0 0,aT 1 3,bL 6 5 0 124 4]) (i:=⟨op,d,n,0,imm,0⟩) (k:=1) (s:=aT 1 3) rfl h4 h5 (m1 _);have a2:=cB (sl:=[aT 0 0,aT 1 3,bL 6 5 0 124 4]) (i:=⟨op,d,n,0,imm,0⟩) (k:=2) rfl rfl;have a3:=eD (sl:=[aT 0 0,aT 1 3,bL 6 5 0 124 4]) (i:=⟨op,d,n,0,imm,0⟩) (k:=3) (s:=bL 6 5 0 124 4) rfl h7 h8 (WD h7 h10);have a4:=cB (sl:=[aT 0 0,aT 1 3,bL 6 5 0 124 4]) (i:=⟨op,d,n,0,imm,0⟩) (k:=4) rfl rfl;dsimp only;rw [a0,a1,a2,a3,a4];rfl
  rcases h1 with rfl|rfl
  iterate 2
   ·exact fin _ _ rfl rfl (by decide) (by decide)
 ·subst h1 h2 h3 h4 h9;have hf:dH 44=some (0xdf00,[bL 0 8 0 255 1]):=rfl;unfold dB;rw [if_neg (by dsimp only;decide),if_neg (by dsimp only;decide)];dsimp only;rw [hf];have a0:=cB (sl:=[bL 0 8 0 255 1]) (i:=⟨44,0,0,0,imm,0⟩) (k:=0) rfl rfl;have a1:=cB (sl:=[bL 0 8 0 255 1]) (i:=⟨44,0,0,0,imm,0⟩) (k:=1) rfl rfl;have a2:=cB (sl:=[bL 0 8 0 255 1]) (i:=⟨44,0,0,0,imm,0⟩) (k:=2) rfl rfl;have a3:=eD (sl:=[bL 0 8 0 255 1]) (i:=⟨44,0,0,0,imm,0⟩) (k:=3) (s:=bL 0 8 0 255 1) rfl h6 h7 (m1 _);have a4:=cB (sl:=[bL 0 8 0 255 1]) (i:=⟨44,0,0,0,imm,0⟩) (k:=4) rfl rfl;dsimp only;rw [a0,a1,a2,a3,a4];rfl
end Go.Proofs.YtjcmcfidblhnnaaGreatDoor
namespace Go.Vc
section
variable {P:Program} {w:O} {K:Y->O->Prop} {k:IntKind} {t:TypeId} {a b:Int}
theorem DN:(binOp .and t (.int k a) (.int k b)).run P w=.ok (.int k (k.wrap (BitVec.ofInt k.bits a &&& BitVec.ofInt k.bits b).toNat)) w:=by simp [binOp,Op.intBits]
theorem bLb:(binOp .or t (.int k a) (.int k b)).run P w=.ok (.int k (k.wrap (BitVec.ofInt k.bits a ||| BitVec.ofInt k.bits b).toNat)) w:=by simp [binOp,Op.intBits]
theorem bBi:(binOp .xor t (.int k a) (.int k b)).run P w=.ok (.int k (k.wrap (BitVec.ofInt k.bits a ^^^ BitVec.ofInt k.bits b).toNat)) w:=by simp [binOp,Op.intBits]
theorem MD:(binOp .andNot t (.int k a) (.int k b)).run P w=.ok (.int k (k.wrap (BitVec.ofInt k.bits a &&& ~~~ BitVec.ofInt k.bits b).toNat)) w:=by simp [binOp,Op.intBits]
theorem LZ {k':IntKind} (h:0<=b):(binOp .shl t (.int k a) (.int k' b)).run P w=.ok (.int k (k.wrap (a*2 ^ (min b.toNat k.bits)))) w:=by
 have:¬ b < 0:=by omega
 simp [binOp,Op.shift,this]
theorem vY {k':IntKind} (h:0<=b):(binOp .shr t (.int k a) (.int k' b)).run P w=.ok (.int k (a.fdiv (2 ^ (min b.toNat k.bits)))) w:=by
 have:¬ b < 0:=by omega
 simp [binOp,Op.shift,this]
end
end Go.Vc
namespace Go.Proofs.YtjcmcfidblhnnaaGreatDoor
open Tryz
open Go.Vc
variable {w:O} {K:Y->O->Prop}
variable {n:Nat} {R:Y->O->Prop} {parts:Array (Nat × Y)} {a base op:Int} {w' w0:O}
abbrev u16 (b:Int):Y:=.int .u16 b
theorem vX {n:Int} (h0:0<=n) (h1:n < 65536):IntKind.u16.wrap n=n:=by
 have e:n % (2 ^ 16:Int)=n:=by omega
 unfold IntKind.wrap;simp only [show IntKind.u16.bits=16 from rfl,show IntKind.u16.signed=false from rfl,e,Bool.false_and,Bool.false_eq_true,if_false]
def jX.v (s:jX):Y:=.agg #[i64 s.part,i64 s.shift,i64 s.bits,i64 s.least,i64 s.most,i64 s.step]
def slC (l:List jX):List Y:=l.flatMap jX.cells
def bMk (w:O) (v:Y) (l:List jX):Prop:=aA w v 6 l.length (slC l)
def OO (B:Nat) (w:O) (op:Int):Option (Int × List jX)->Y->Prop
 | some (b,sl),v=>∃ sv,v=.tuple #[.agg #[i64 op,u16 b,sv],.bool true]/\w.ownsRow B 210 6 sv sl.length (slC sl)
 | none,v=>v=.tuple #[.agg #[i64 0,u16 0,bC],.bool false]
theorem bAz {s:jX} (hp:parts=#[(0,i64 s.part),(1,i64 s.shift),(2,i64 s.bits),(3,i64 s.least),(4,i64 s.most),(5,i64 s.step)]) (hk:∀ w',aG w w'->R s.v w') :
  V prog (Instr.alloc 210 true (.tuple #[])) w λp w1=>V prog (Instr.build 210 parts) w1 λv w2=>U prog (Instr.storeAt 210 p v) w2 λ_ w3=>
   ∃ r1,(loadVar 210 (match p with|.pointer (some p)=>p|_=>⟨0,0,none⟩)).run prog w3=.ok r1 w3/\(∃ q,p=Value.pointer (some q))/\R r1 w3:=by
 subst hp;refine zU nR λw1 hB x1=>?_;have hB:bO w1 w.heap.size [i64 0,i64 0,i64 0,i64 0,i64 0,i64 0] 210:=hB;refine lF aJz [(0,i64 s.part),(1,i64 s.shift),(2,i64 s.bits),(3,i64 s.least),(4,i64 s.most),(5,i64 s.step)] rfl rfl ?_;refine wR nR hB (l:=s.cells) rfl rfl rfl rfl λw2 hB2 hc=>?_;exact ⟨_,oF underlying210 rfl nR hB2 rfl,⟨_,rfl⟩,hk w2 (hc.ext _ x1 (Nat.le_refl _))⟩
theorem GT {p s:Int} (hk:∀ w',aG w w'->K (aT p s).v w'):aB prog 99 #[i64 p,i64 s] w K:=by
 apply bGp;unfold ZC;exact bAz (s:=aT p s) rfl hk
theorem wH {s b l m t:Int} (hk:∀ w',aG w w'->K (bL s b l m t).v w'):aB prog 100 #[i64 s,i64 b,i64 l,i64 m,i64 t] w K:=by
 apply bAs;unfold SX;exact bAz (s:=bL s b l m t) rfl hk
theorem LO {sl:List jX} (hn:n=sl.length) (hp:parts.toList=((sl.map jX.v).zipIdx 0).map λx=>(x.2,x.1)) (h0:0 < n) (hl:n<=100) (hk:∀ u w1,w1.ownsRow w.heap.size 210 6 u sl.length (slC sl)->aG w w1->K u w1):V prog (Instr.buildSlice 155 n parts) w K:=by
 refine xM underlying155 nR rfl (by decide) (sl.map jX.v) (by simpa using hn) hp (λv hv=>?_) h0 (by omega) λu w1 ho x1=>hk u w1 ?_ x1
 ·obtain ⟨s,_,rfl⟩:=List.mem_map.1 hv;rfl
 ·have e:(sl.map jX.v).flatMap (λv=>v.cells.toList)=slC sl:=by
   unfold slC;rw [List.flatMap_map];rfl
  rw [e,hn] at ho;exact ho
theorem aHh {b:Int} {u:Y} (h:bX u=true):([i64 a,u16 b,u].all bX)=true:=by show (true&&(true&&(bX u&&true)))=true;rw [h];rfl
theorem bl3 {b:Int} {u:Y} (h:bX u=true):([(0,i64 a),(1,u16 b),(2,u)].all λx:Nat × Y=>decide (x.1 < 3)&&bX x.2)=true:=by show ((true&&true)&&((true&&true)&&((true&&bX u)&&true)))=true;rw [h];rfl
theorem aGf {sl:List jX} {g:Nat} {u:Y} {B:Nat} (hB:bO w g [i64 0,u16 0,bC] 157) (hx:aG w0 w) (hg:w0.heap.size<=g) (hu:w.ownsRow B 210 6 u sl.length (slC sl)) (hgB:g < B)
  (hk:∀ v w',LF w g w'->OO w0.heap.size w' op (some (base,sl)) v->aG w0 w'->R v w') :
  U prog (Instr.storeAt 157 (.pointer (some ⟨g,0,none⟩)) (.agg #[i64 op,u16 base,u])) w λ_ w3=>
   ∃ r1,(loadVar 157 ⟨g,0,none⟩).run prog w3=.ok r1 w3/\(∃ q,Value.pointer (some ⟨g,0,none⟩)=Value.pointer (some q))/\R (.tuple #[r1,.bool true]) w3:=by
 refine wR oB hB (l:=[i64 op,u16 base,u]) rfl rfl rfl (aHh (oQ hu)) λw2 hB2 hc=>?_;exact ⟨_,oF underlying157 rfl oB hB2 rfl,⟨_,rfl⟩,hk _ w2 hc ⟨u,rfl,aU (hc.ownRow hu hgB) (by omega)⟩ (hc.ext _ hx hg)⟩
theorem qR {sl:List jX} {g:Nat} (hB:bO w g [i64 0,u16 0,bC] 157) (hx:aG w0 w) (hg:w0.heap.size<=g) (hn:n=sl.length) (hp:parts.toList=((sl.map jX.v).zipIdx 0).map λx=>(x.2,x.1)) (h0:0 < n) (hl:n<=100)
  (hk:∀ v w',OO w0.heap.size w' op (some (base,sl)) v->aG w0 w'->R v w') :
  V prog (Instr.buildSlice 155 n parts) w λu w1=>V prog (Instr.build 157 #[(0,i64 op),(1,u16 base),(2,u)]) w1 λv w2=>U prog (Instr.storeAt 157 (.pointer (some ⟨g,0,none⟩)) v) w2 λ_ w3=>
   ∃ r1,(loadVar 157 ⟨g,0,none⟩).run prog w3=.ok r1 w3/\(∃ q,Value.pointer (some ⟨g,0,none⟩)=Value.pointer (some q))/\R (.tuple #[r1,.bool true]) w3:=by
 refine LO hn hp h0 hl λu w1 ho x1=>?_;refine lF KM [(0,i64 op),(1,u16 base),(2,u)] rfl (bl3 (oQ ho)) ?_;exact aGf (hB.ext x1) (hx.trans x1) hg ho hB.lt λv w' _=>hk v w'
theorem nY {sl:List jX} {g:Nat} {S:O->Prop} (hB:bO w g [i64 0,u16 0,bC] 157) (hx:aG w0 w) (hg:w0.heap.size<=g) (hn:n=sl.length) (hp:parts.toList=((sl.map jX.v).zipIdx 0).map λx=>(x.2,x.1)) (h0:0 < n) (hl:n<=100)
  (h1:∀ w',aG w w'->S w') (h2:∀ w1 w',aG w w1->LF w1 g w'->S w') (hk:∀ v w',OO w0.heap.size w' op (some (base,sl)) v->aG w0 w'->R v w') :
  V prog (Instr.buildSlice 155 n parts) w λu w1=>S w1/\aF prog S (Instr.build 157 #[(0,i64 op),(1,u16 base),(2,u)]) λv=>U prog (Instr.storeAt 157 (.pointer (some ⟨g,0,none⟩)) v) w1 λ_ w3=>
   S w3/\∃ r1,(loadVar 157 ⟨g,0,none⟩).run prog w3=.ok r1 w3/\(∃ q,Value.pointer (some ⟨g,0,none⟩)=Value.pointer (some q))/\R (.tuple #[r1,.bool true]) w3:=by
 refine LO hn hp h0 hl λu w1 ho x1=>⟨h1 w1 x1,?_⟩;refine mM KM [(0,i64 op),(1,u16 base),(2,u)] rfl (bl3 (oQ ho)) ?_;refine wR oB (hB.ext x1) (l:=[i64 op,u16 base,u]) rfl rfl rfl (aHh (oQ ho)) λw2 hB2 hc=>⟨h2 w1 w2 x1 hc,?_⟩;exact ⟨_,oF underlying157 rfl oB hB2 rfl,⟨_,rfl⟩,hk _ w2 ⟨u,rfl,aU (hc.ownRow ho hB.lt) (by have:=hB.lt;omega)⟩ (hc.ext _ (hx.trans x1) hg)⟩
theorem aGp {lo hi:Int} {A B:O->Prop} (h1:lo<=a/\a<=hi->A w) (h2:¬ (lo<=a/\a<=hi)->B w):V prog (binOp .geq 3 (i64 a) (i64 lo)) w λt w1=>gd t true (λK=>K (i64 a) w1) w1 λt2 w2=>gd t true (λK=>V prog (binOp .leq 3 t2 (i64 hi)) w2 K) w2 λt3 w3=>aH t t3 (.bool false) λt4=>aI t4 (A w3) (B w3):=by
 refine fK.2 ?_;by_cases hl:a>=lo
 ·simp only [hl,decide_true,mD];refine uJ.2 (jL ?_);rw [if_pos rfl];exact aC (λh=>h1 ⟨hl,h⟩) λh=>h2 λh'=>h h'.2
 ·simp only [hl,decide_false,lY,bA,Bool.false_eq_true,reduceIte,aM];exact h2 λh=>hl h.1
structure LE (b4 b5 b6 b7 b8:Nat) (w:O):Prop where
 a4:bF w b4 (aT 0 0).cells
 a5:bF w b5 (aT 2 3).cells
 a6:bF w b6 (aT 0 8).cells
 a7:bF w b7 (aT 1 3).cells
 a8:bF w b8 (aT 2 6).cells
theorem LE.ext {b4 b5 b6 b7 b8:Nat} {w':O} (h:LE b4 b5 b6 b7 b8 w) (hx:aG w w'):LE b4 b5 b6 b7 b8 w':=⟨h.a4.ext hx,h.a5.ext hx,h.a6.ext hx,h.a7.ext hx,h.a8.ext hx⟩
theorem pU {b g:Nat} {cs:List Y} (h:bF w b cs) (hc:LF w g w') (hne:b≠g):bF w' b cs:=λj u hj=>by rw [hc.cell hne];exact h j u hj
theorem LE.chg {b4 b5 b6 b7 b8 g:Nat} (h:LE b4 b5 b6 b7 b8 w) (hc:LF w g w') (hg:g < b4/\g < b5/\g < b6/\g < b7/\g < b8):LE b4 b5 b6 b7 b8 w':=⟨pU h.a4 hc (by omega),pU h.a5 hc (by omega),pU h.a6 hc (by omega),pU h.a7 hc (by omega),pU h.a8 hc (by omega)⟩
theorem aRq (hk:∀ v w',OO w.heap.size w' op (mQ op) v->aG w w'->K v w'):aB prog 101 #[i64 op] w K:=by
 apply bAr;unfold SW;refine zU oB λw1 hB x1=>?_;have hB:bO w1 w.heap.size [i64 0,u16 0,bC] 157:=hB;have hlt:=hB.lt;refine GT λw2 x2=>?_;refine tH JE rfl rfl λw3 hB4 x3=>?_;have hB4:bO w3 w2.heap.size (aT 0 8).cells 210:=hB4;have x03:=(x1.trans x2).trans x3;have hB:=(hB.ext x2).ext x3;refine aJ.2 (aC (λe=>?_) λe36=>?_)
 ·subst e;have hf:mQ 36=some (36864,[aT 0 8,bL 0 8 0 1020 4]):=rfl;rw [hf] at hk;have D:aG w3 w3.drew:=(aG.refl _).drew;refine aL.mk' (λw'=>bF w' w2.heap.size (aT 0 8).cells) (hB4.ext D).boxed ?_;refine yA (λ_ h=>h) fM rfl ?_;refine wH λw4 x4=>⟨(hB4.ext (D.trans x4)).boxed,?_⟩;exact nY (hB.ext (D.trans x4)) (x03.trans (D.trans x4)) (Nat.le_refl _) (sl:=[aT 0 8,bL 0 8 0 1020 4]) rfl rfl (by decide) (by decide) (λw' hx=>(hB4.ext ((D.trans x4).trans hx)).boxed) (λw5 w6 hx hc=>pU (hB4.ext ((D.trans x4).trans hx)).boxed hc (by have:=x2.size;omega)) hk
 refine aJ.2 (aC (λe=>?_) λe35=>?_)
 ·subst e;have hf:mQ 35=some (38912,[aT 0 8,bL 0 8 0 1020 4]):=rfl;rw [hf] at hk;have D:aG w3 w3.drew:=(aG.refl _).drew;refine aL.mk' (λw'=>bF w' w2.heap.size (aT 0 8).cells) (hB4.ext D).boxed ?_;refine yA (λ_ h=>h) fM rfl ?_;refine wH λw4 x4=>⟨(hB4.ext (D.trans x4)).boxed,?_⟩;exact nY (hB.ext (D.trans x4)) (x03.trans (D.trans x4)) (Nat.le_refl _) (sl:=[aT 0 8,bL 0 8 0 1020 4]) rfl rfl (by decide) (by decide) (λw' hx=>(hB4.ext ((D.trans x4).trans hx)).boxed) (λw5 w6 hx hc=>pU (hB4.ext ((D.trans x4).trans hx)).boxed hc (by have:=x2.size;omega)) hk
 refine aJ.2 (aC (λe=>?_) λe37=>?_)
 ·subst e;have hf:mQ 37=some (45056,[bL 0 7 0 508 4]):=rfl;rw [hf] at hk;refine wH λw4 x4=>?_;exact qR (hB.ext x4) (x03.trans x4) (Nat.le_refl _) (sl:=[bL 0 7 0 508 4]) rfl rfl (by decide) (by decide) hk
 refine aJ.2 (aC (λe=>?_) λe38=>?_)
 ·subst e;have hf:mQ 38=some (45184,[bL 0 7 0 508 4]):=rfl;rw [hf] at hk;refine wH λw4 x4=>?_;exact qR (hB.ext x4) (x03.trans x4) (Nat.le_refl _) (sl:=[bL 0 7 0 508 4]) rfl rfl (by decide) (by decide) hk
 refine aJ.2 (aC (λe=>?_) λe39=>?_)
 ·subst e;have hf:mQ 39=some (46080,[bL 0 9 1 511 1]):=rfl;rw [hf] at hk;refine wH λw4 x4=>?_;exact qR (hB.ext x4) (x03.trans x4) (Nat.le_refl _) (sl:=[bL 0 9 1 511 1]) rfl rfl (by decide) (by decide) hk
 refine aJ.2 (aC (λe=>?_) λe40=>?_)
 ·subst e;have hf:mQ 40=some (48128,[bL 0 9 1 511 1]):=rfl;rw [hf] at hk;refine wH λw4 x4=>?_;exact qR (hB.ext x4) (x03.trans x4) (Nat.le_refl _) (sl:=[bL 0 9 1 511 1]) rfl rfl (by decide) (by decide) hk
 refine aJ.2 (aC (λe=>?_) λe41=>?_)
 ·subst e;have hf:mQ 41=some (53248,[bL 0 8 (-256) 254 2,⟨4,8,4,0,13,1⟩]):=rfl;rw [hf] at hk;refine wH λw4 x4=>?_;refine lF aJz [(0,i64 4),(1,i64 8),(2,i64 4),(3,i64 0),(4,i64 13),(5,i64 1)] rfl rfl ?_;exact qR (hB.ext x4) (x03.trans x4) (Nat.le_refl _) (sl:=[bL 0 8 (-256) 254 2,⟨4,8,4,0,13,1⟩]) rfl rfl (by decide) (by decide) hk
 refine aJ.2 (aC (λe=>?_) λe42=>?_)
 ·subst e;have hf:mQ 42=some (57344,[bL 0 11 (-2048) 2046 2]):=rfl;rw [hf] at hk;refine wH λw4 x4=>?_;exact qR (hB.ext x4) (x03.trans x4) (Nat.le_refl _) (sl:=[bL 0 11 (-2048) 2046 2]) rfl rfl (by decide) (by decide) hk
 refine aJ.2 (aC (λe=>?_) λe44=>?_)
 ·subst e;have hf:mQ 44=some (57088,[bL 0 8 0 255 1]):=rfl;rw [hf] at hk;refine wH λw4 x4=>?_;exact qR (hB.ext x4) (x03.trans x4) (Nat.le_refl _) (sl:=[bL 0 8 0 255 1]) rfl rfl (by decide) (by decide) hk
 refine aJ.2 (aC (λe=>?_) λe45=>?_)
 ·subst e;have hf:mQ 45=some (48896,[]):=rfl;rw [hf] at hk;refine lF KM [(0,i64 45),(1,u16 48896),(2,bC)] rfl rfl ?_;exact aGf hB x03 (Nat.le_refl _) (sl:=[]) (World.ownsRow_nil _ (w.heap.size+1) _ _) (Nat.lt_succ_self _) λv w' _=>hk v w'
 have hf:mQ op=none:=by unfold mQ;simp only [e36,e35,e37,e38,e39,e40,e41,e42,e44,e45,if_false]
 rw [hf] at hk;refine lF KM [] rfl rfl ?_;refine wR oB hB (l:=[i64 0,u16 0,bC]) rfl rfl rfl rfl λw4 hB2 hc=>?_;exact ⟨_,oF underlying157 rfl oB hB2 rfl,⟨_,rfl⟩,hk _ w4 rfl (hc.ext _ x03 (Nat.le_refl _))⟩
theorem aJh (hk:∀ v w',OO w.heap.size w' op (dH op) v->aG w w'->K v w'):aB prog 48 #[i64 op] w K:=by
 apply bIn;unfold aAw;refine zU oB λw1 hB x1=>?_;have hB:bO w1 w.heap.size [i64 0,u16 0,bC] 157:=hB;have hlt:=hB.lt;refine GT λw2 x2=>GT λw3 x3=>GT λw4 x4=>GT λw5 x5=>?_;refine zU nR λw6 h4 x6=>zU nR λw7 h5 x7=>zU nR λw8 h6 x8=>zU nR λw9 h7 x9=>?_;have x15:=((x2.trans x3).trans x4).trans x5;have x19:=(((x15.trans x6).trans x7).trans x8).trans x9;have z4:=h4.lt;have z5:=h5.lt;have z6:=h6.lt;have z7:=h7.lt;have s5:=x15.size;have s6:=x6.size;have s7:=x7.size;have s8:=x8.size;have s9:=x9.size;have h4:=((h4.ext x7).ext x8).ext x9;have h5:=(h5.ext x8).ext x9;have h6:=h6.ext x9;have hB:=hB.ext x19;have x09:=x1.trans x19;generalize w5.heap.size=b4 at *;generalize w6.heap.size=b5 at *;generalize w7.heap.size=b6 at *;generalize w8.heap.size=b7 at *;refine wR nR h4 (l:=(aT 0 0).cells) rfl rfl rfl rfl λw10 k4 c4=>?_;have h5:=c4.other (by omega) h5;have h6:=c4.other (by omega) h6;have h7:=c4.other (by omega) h7;have hB:=c4.other (by omega) hB;refine wR nR h5 (l:=(aT 2 3).cells) rfl rfl rfl rfl λw11 k5 c5=>?_;have k4:=c5.other (by omega) k4;have h6:=c5.other (by omega) h6;have h7:=c5.other (by omega) h7;have hB:=c5.other (by omega) hB;refine wR nR h6 (l:=(aT 0 8).cells) rfl rfl rfl rfl λw12 k6 c6=>?_;have k4:=c6.other (by omega) k4;have k5:=c6.other (by omega) k5;have h7:=c6.other (by omega) h7;have hB:=c6.other (by omega) hB
 refine wR nR h7 (l:=(aT 1 3).cells) rfl rfl rfl rfl λw13 k7 c7=>?_;have k4:=c7.other (by omega) k4;have k5:=c7.other (by omega) k5;have k6:=c7.other (by omega) k6;have hB:=c7.other (by omega) hB;have x13:aG w w13:=c7.ext _ (c6.ext _ (c5.ext _ (c4.ext _ x09 (by omega)) (by omega)) (by omega)) (by omega);have s13:w13.heap.size=w9.heap.size:=by rw [c7.size,c6.size,c5.size,c4.size]
 refine GT λw14 x14=>?_;refine tH JE rfl rfl λw16 k8 x16=>?_;have k8:bO w16 w14.heap.size (aT 2 6).cells 210:=k8;have xa:=x14.trans x16;have s14:=x14.size;have hS:LE b4 b5 b6 b7 w14.heap.size w16:=⟨(k4.ext xa).boxed,(k5.ext xa).boxed,(k6.ext xa).boxed,(k7.ext xa).boxed,k8.boxed⟩;have hB:=hB.ext xa;have x0:=x13.trans xa;have hG:w.heap.size < b4/\w.heap.size < b5/\w.heap.size < b6/\w.heap.size < b7/\w.heap.size < w14.heap.size:=by omega
 obtain ⟨g,hgg⟩:∃ g,g=w.heap.size:=⟨_,rfl⟩;have hg:w.heap.size<=g:=Nat.le_of_eq hgg.symm;rw [<- hgg] at hB hG ⊢;have hgl:=hB.lt;generalize w14.heap.size=b8 at hS hG;clear k4 k5 k6 k7 k8 c4 c5 c6 c7 h4 h5 h6 h7 x09 x19 x15 xa x13 s5 s6 s7 s8 s9 z4 z5 z6 z7 s13 s14;have D:aG w16 w16.drew:=(aG.refl _).drew
 have imm:∀ {s b l m t:Int} {K':Y->O->Prop},(∀ w',LE b4 b5 b6 b7 b8 w'->bO w' g [i64 0,u16 0,bC] 157->aG w w'->K' (bL s b l m t).v w')->aB prog 100 #[i64 s,i64 b,i64 l,i64 m,i64 t] w16.drew K':=λhk'=>
  wH λw' hx=>hk' w' (hS.ext (D.trans hx)) (hB.ext (D.trans hx)) (x0.trans (D.trans hx))
 refine aGp (λh1=>?_) λn1=>?_
 ·have hf:dH op=some (0x4000+(op - 12)*64,[aT 0 0,aT 2 3]):=by unfold dH;rw [if_pos h1]
  rw [hf] at hk;refine fT.2 ?_;rw [aQ (by omega)];refine V.ok (lU underlying3 underlying151) ?_;rw [vX (by omega) (by omega)];refine V.ok (LZ (by decide)) ?_;rw [show (2:Int) ^ (min (6:Int).toNat IntKind.u16.bits)=64 from rfl,vX (by omega) (by omega)];refine bJ.2 ?_;rw [vX (by omega) (by omega)];refine iC hS.a4 fM rfl (iC hS.a5 fM rfl ?_);exact qR hB x0 hg (sl:=[aT 0 0,aT 2 3]) rfl rfl (by decide) (by decide) hk
 refine aGp (λh1=>?_) λn2=>?_
 ·have hf:dH op=some (0x2000+(op - 8)*2048,[aT 0 8,bL 0 8 0 255 1]):=by unfold dH;rw [if_neg n1,if_pos h1]
  rw [hf] at hk;refine aL.mk' (LE b4 b5 b6 b7 b8) (hS.ext D) ?_;refine aF.ok (λ_ _=>fG) ?_;rw [aQ (by omega)];refine aF.ok (λ_ _=>lU underlying3 underlying151) ?_;rw [vX (by omega) (by omega)];refine aF.ok (λ_ _=>LZ (by decide)) ?_;rw [show (2:Int) ^ (min (11:Int).toNat IntKind.u16.bits)=2048 from rfl,vX (by omega) (by omega)];refine aF.ok (λ_ _=>ME) ?_;rw [vX (by omega) (by omega)];refine yA (λ_ h=>h.a6) fM rfl ?_;refine imm λw' hS hB x0=>⟨hS,?_⟩;exact nY hB x0 hg (sl:=[aT 0 8,bL 0 8 0 255 1]) rfl rfl (by decide) (by decide) (λ_ hx=>hS.ext hx) (λ_ _ hx hc=>(hS.ext hx).chg hc hG) hk
 refine aJ.2 (aC (λe=>?_) λe1=>?_)
 ·subst e;have hf:dH 1=some (0,[aT 0 0,aT 2 3,bL 6 5 0 31 1]):=rfl;rw [hf] at hk;refine aL.mk' (LE b4 b5 b6 b7 b8) (hS.ext D) ?_;refine yA (λ_ h=>h.a4) fM rfl (yA (λ_ h=>h.a5) fM rfl ?_);refine imm λw' hS hB x0=>⟨hS,?_⟩;exact nY hB x0 hg (sl:=[aT 0 0,aT 2 3,bL 6 5 0 31 1]) rfl rfl (by decide) (by decide) (λ_ hx=>hS.ext hx) (λ_ _ hx hc=>(hS.ext hx).chg hc hG) hk
 refine aJ.2 (aC (λe=>?_) λe2=>?_)
 ·subst e;have hf:dH 2=some (2048,[aT 0 0,aT 2 3,bL 6 5 1 32 1]):=rfl;rw [hf] at hk;refine aL.mk' (LE b4 b5 b6 b7 b8) (hS.ext D) ?_;refine yA (λ_ h=>h.a4) fM rfl (yA (λ_ h=>h.a5) fM rfl ?_);refine imm λw' hS hB x0=>⟨hS,?_⟩;exact nY hB x0 hg (sl:=[aT 0 0,aT 2 3,bL 6 5 1 32 1]) rfl rfl (by decide) (by decide) (λ_ hx=>hS.ext hx) (λ_ _ hx hc=>(hS.ext hx).chg hc hG) hk
 refine aJ.2 (aC (λe=>?_) λe3=>?_)
 ·subst e;have hf:dH 3=some (4096,[aT 0 0,aT 2 3,bL 6 5 1 32 1]):=rfl;rw [hf] at hk;refine aL.mk' (LE b4 b5 b6 b7 b8) (hS.ext D) ?_;refine yA (λ_ h=>h.a4) fM rfl (yA (λ_ h=>h.a5) fM rfl ?_);refine imm λw' hS hB x0=>⟨hS,?_⟩;exact nY hB x0 hg (sl:=[aT 0 0,aT 2 3,bL 6 5 1 32 1]) rfl rfl (by decide) (by decide) (λ_ hx=>hS.ext hx) (λ_ _ hx hc=>(hS.ext hx).chg hc hG) hk
 refine aJ.2 (aC (λe=>?_) λe4=>?_)
 ·subst e;have hf:dH 4=some (6144,[aT 0 0,aT 1 3,aT 2 6]):=rfl;rw [hf] at hk;refine iC hS.a4 fM rfl (iC hS.a7 fM rfl (iC hS.a8 fM rfl ?_));exact qR hB x0 hg (sl:=[aT 0 0,aT 1 3,aT 2 6]) rfl rfl (by decide) (by decide) hk
 refine aJ.2 (aC (λe=>?_) λe5=>?_)
 ·subst e;have hf:dH 5=some (6656,[aT 0 0,aT 1 3,aT 2 6]):=rfl;rw [hf] at hk;refine iC hS.a4 fM rfl (iC hS.a7 fM rfl (iC hS.a8 fM rfl ?_));exact qR hB x0 hg (sl:=[aT 0 0,aT 1 3,aT 2 6]) rfl rfl (by decide) (by decide) hk
 refine aJ.2 (aC (λe=>?_) λe6=>?_)
 ·subst e;have hf:dH 6=some (7168,[aT 0 0,aT 1 3,bL 6 3 0 7 1]):=rfl;rw [hf] at hk;refine aL.mk' (LE b4 b5 b6 b7 b8) (hS.ext D) ?_;refine yA (λ_ h=>h.a4) fM rfl (yA (λ_ h=>h.a7) fM rfl ?_);refine imm λw' hS hB x0=>⟨hS,?_⟩;exact nY hB x0 hg (sl:=[aT 0 0,aT 1 3,bL 6 3 0 7 1]) rfl rfl (by decide) (by decide) (λ_ hx=>hS.ext hx) (λ_ _ hx hc=>(hS.ext hx).chg hc hG) hk
 refine aJ.2 (aC (λe=>?_) λe7=>?_)
 ·subst e;have hf:dH 7=some (7680,[aT 0 0,aT 1 3,bL 6 3 0 7 1]):=rfl;rw [hf] at hk;refine aL.mk' (LE b4 b5 b6 b7 b8) (hS.ext D) ?_;refine yA (λ_ h=>h.a4) fM rfl (yA (λ_ h=>h.a7) fM rfl ?_);refine imm λw' hS hB x0=>⟨hS,?_⟩;exact nY hB x0 hg (sl:=[aT 0 0,aT 1 3,bL 6 3 0 7 1]) rfl rfl (by decide) (by decide) (λ_ hx=>hS.ext hx) (λ_ _ hx hc=>(hS.ext hx).chg hc hG) hk
 refine aJ.2 (aC (λe=>?_) λe30=>?_)
 ·subst e;have hf:dH 30=some (20480,[aT 0 0,aT 1 3,aT 2 6]):=rfl;rw [hf] at hk;refine iC hS.a4 fM rfl (iC hS.a7 fM rfl (iC hS.a8 fM rfl ?_));exact qR hB x0 hg (sl:=[aT 0 0,aT 1 3,aT 2 6]) rfl rfl (by decide) (by decide) hk
 refine aJ.2 (aC (λe=>?_) λe29=>?_)
 ·subst e;have hf:dH 29=some (22528,[aT 0 0,aT 1 3,aT 2 6]):=rfl;rw [hf] at hk;refine iC hS.a4 fM rfl (iC hS.a7 fM rfl (iC hS.a8 fM rfl ?_));exact qR hB x0 hg (sl:=[aT 0 0,aT 1 3,aT 2 6]) rfl rfl (by decide) (by decide) hk
 refine aJ.2 (aC (λe=>?_) λe32=>?_)
 ·subst e;have hf:dH 32=some (24576,[aT 0 0,aT 1 3,bL 6 5 0 124 4]):=rfl;rw [hf] at hk;refine aL.mk' (LE b4 b5 b6 b7 b8) (hS.ext D) ?_;refine yA (λ_ h=>h.a4) fM rfl (yA (λ_ h=>h.a7) fM rfl ?_);refine imm λw' hS hB x0=>⟨hS,?_⟩;exact nY hB x0 hg (sl:=[aT 0 0,aT 1 3,bL 6 5 0 124 4]) rfl rfl (by decide) (by decide) (λ_ hx=>hS.ext hx) (λ_ _ hx hc=>(hS.ext hx).chg hc hG) hk
 refine aJ.2 (aC (λe=>?_) λe31=>?_)
 ·subst e;have hf:dH 31=some (26624,[aT 0 0,aT 1 3,bL 6 5 0 124 4]):=rfl;rw [hf] at hk;refine aL.mk' (LE b4 b5 b6 b7 b8) (hS.ext D) ?_;refine yA (λ_ h=>h.a4) fM rfl (yA (λ_ h=>h.a7) fM rfl ?_);refine imm λw' hS hB x0=>⟨hS,?_⟩;exact nY hB x0 hg (sl:=[aT 0 0,aT 1 3,bL 6 5 0 124 4]) rfl rfl (by decide) (by decide) (λ_ hx=>hS.ext hx) (λ_ _ hx hc=>(hS.ext hx).chg hc hG) hk
 refine aJ.2 (aC (λe=>?_) λe34=>?_)
 ·subst e;have hf:dH 34=some (28672,[aT 0 0,aT 1 3,bL 6 5 0 31 1]):=rfl;rw [hf] at hk;refine aL.mk' (LE b4 b5 b6 b7 b8) (hS.ext D) ?_;refine yA (λ_ h=>h.a4) fM rfl (yA (λ_ h=>h.a7) fM rfl ?_);refine imm λw' hS hB x0=>⟨hS,?_⟩;exact nY hB x0 hg (sl:=[aT 0 0,aT 1 3,bL 6 5 0 31 1]) rfl rfl (by decide) (by decide) (λ_ hx=>hS.ext hx) (λ_ _ hx hc=>(hS.ext hx).chg hc hG) hk
 refine aJ.2 (aC (λe=>?_) λe33=>?_)
 ·subst e;have hf:dH 33=some (30720,[aT 0 0,aT 1 3,bL 6 5 0 31 1]):=rfl;rw [hf] at hk;refine aL.mk' (LE b4 b5 b6 b7 b8) (hS.ext D) ?_;refine yA (λ_ h=>h.a4) fM rfl (yA (λ_ h=>h.a7) fM rfl ?_);refine imm λw' hS hB x0=>⟨hS,?_⟩;exact nY hB x0 hg (sl:=[aT 0 0,aT 1 3,bL 6 5 0 31 1]) rfl rfl (by decide) (by decide) (λ_ hx=>hS.ext hx) (λ_ _ hx hc=>(hS.ext hx).chg hc hG) hk
 have hf:dH op=mQ op:=by unfold dH;simp only [n1,n2,e1,e2,e3,e4,e5,e6,e7,e30,e29,e32,e31,e34,e33,if_false]
 rw [hf] at hk;refine aRq λv w' hv hx=>?_;have hB:=hB.ext hx;cases hl:mQ op with
 | none=>
  rw [hl] at hv hk;have hv:v=_:=hv;subst hv;refine gR.2 (gQ.2 ?_);refine wR oB hB (l:=[i64 0,u16 0,bC]) rfl rfl rfl rfl λw4 hB2 hc=>?_;exact ⟨_,oF underlying157 rfl oB hB2 rfl,⟨_,rfl⟩,hk _ w4 rfl (hc.ext _ (x0.trans hx) hg)⟩
 | some r=>
  rw [hl] at hv hk;obtain ⟨sv,rfl,hsv⟩:=hv;refine gR.2 (gQ.2 ?_);refine wR oB hB (l:=[i64 op,u16 r.1,sv]) rfl rfl rfl (aHh (oQ hsv)) λw4 hB2 hc=>?_;exact ⟨_,oF underlying157 rfl oB hB2 rfl,⟨_,rfl⟩,hk _ w4 ⟨sv,rfl,aU (hc.ownRow hsv (by have:g < w16.heap.size:=hgl;exact this)) (by omega)⟩ (hc.ext _ (x0.trans hx) hg)⟩
end Go.Proofs.YtjcmcfidblhnnaaGreatDoor
namespace Go.Vc
section
variable {P:Program} {w:O} {K:Y->O->Prop} {S:O->Prop} {L:Y->Prop}
theorem wJ {d:Nat} {xs:Array Y}:∀ fs:List Field,(∀ f∈fs,∃ v,(part f.type xs f.offset).run P w=.ok v w/\(Op.equalIn d f.type v v).run P w=.ok true w)->(Op.eqFields d xs xs fs).run P w=.ok true w
 | [],_=>by simp [Op.eqFields]
 | f::fs,h=>by
  obtain ⟨v,h1,h2⟩:=h f (List.mem_cons_self ..);have ih:=wJ fs λg hg=>h g (List.mem_cons_of_mem _ hg);unfold Op.eqFields;split
  ·simp only [Sem.run_bind,h1,Result.andThen_ok,h2,Bool.not_true,Bool.false_eq_true,if_false];exact ih
  ·exact ih
theorem DR {t:TypeId} {k:IntKind} {xs:Array Y} {o:Nat} {v:Y} (ht:P.underlying t=some (.int k)) (hv:xs[o]?=some v):(part t xs o).run P w=.ok v w:=by
 simp [part,isAgg,run_underlying ht,hv]
structure QT (P:Program) (t:TypeId) (fs:List (TypeId × Nat)):Prop where
 ht:P.underlying t=some (.struct (P.fieldsOf t))
 hp:P.stoodInHeld t=false
 hm:P.eqGuardType P.depth t=false
 hf:(P.fieldsOf t).toList.map (λf=>(f.type,f.offset))=fs
theorem QT.refl {t:TypeId} {fs:List (TypeId × Nat)} (h:QT P t fs) {d:Nat} {xs:Array Y} (hx:∀ f∈fs,∃ v,(part f.1 xs f.2).run P w=.ok v w/\(Op.equalIn d f.1 v v).run P w=.ok true w):(Op.equalIn (d+1) t (.agg xs) (.agg xs)).run P w=.ok true w:=by
 rw [run_equalIn_struct w d t xs xs h.ht h.hp];refine wJ _ λf hf=>hx (f.type,f.offset) ?_;rw [<- h.hf];exact List.mem_map.2 ⟨f,hf,rfl⟩
theorem eqA {t:TypeId} {fs:List (TypeId × Nat)} (h:QT P t fs) {xs ys:Array Y} (he:xs=ys) {x y:Operand} (hx:∀ f∈fs,∃ v,(part f.1 xs f.2).run P w=.ok v w/\(Op.equalIn 9999 f.1 v v).run P w=.ok true w) (hk:K (.bool true) w) :
  V P (do eqGuard .eql t x y (.agg xs) (.agg ys);binOp .eql t (.agg xs) (.agg ys)) w K:=by
 subst he;refine V.ok ?_ hk;simp only [Sem.run_bind,run_eqGuard_agg w .eql t x y xs xs h.hm,Result.andThen_ok,run_eql_struct,h.refl hx]
end
end Go.Vc
namespace Go.Proofs.YtjcmcfidblhnnaaGreatDoor
open Tryz
open Go.Vc
variable {w:O} {K:Y->O->Prop}
def bEl:List (TypeId × Nat):=[(3,0),(3,1),(3,2),(3,3),(3,4),(3,5)]
theorem bBl:QT prog 83 bEl:=⟨by kernel_rfl,by kernel_rfl,by kernel_rfl,by kernel_rfl⟩
def iL.cells (i:iL):List Y:=[i64 i.op,i64 i.d,i64 i.n,i64 i.m,i64 i.imm,i64 i.cond]
theorem ND (i:iL) (d:Nat):∀ f∈bEl,∃ v,(part f.1 i.cells.toArray f.2).run prog w=.ok v w/\(Op.equalIn (d+1) f.1 v v).run prog w=.ok true w:=by
 intro f hf
 have key:∀ (o:Nat) (n:Int),i.cells.toArray[o]?=some (i64 n)->∃ v,(part 3 i.cells.toArray o).run prog w=.ok v w/\(Op.equalIn (d+1) 3 v v).run prog w=.ok true w:=λo n h=>
  ⟨_,DR underlying3 h,by rw [run_equalIn_int w d 3 _ _ _ _ underlying3];simp⟩
 simp only [bEl,List.mem_cons,List.not_mem_nil,or_false] at hf;rcases hf with rfl|rfl|rfl|rfl|rfl|rfl<;>exact key _ _ rfl
theorem bBx {i j:iL} (he:i=j) {x y:Operand} (hk:K (.bool true) w):V prog (do eqGuard .eql 83 x y (.agg i.cells.toArray) (.agg j.cells.toArray);binOp .eql 83 (.agg i.cells.toArray) (.agg j.cells.toArray)) w K:=
 eqA bBl (by rw [he]) (ND i 9998) hk
def WX (k:Int):Nat:=if k=0 then 1 else if k=1 then 2 else if k=2 then 3 else if k=3 then 4 else 5
theorem WW (i:iL) (k:Int):i.cells[WX k]?=some (i64 (i.part k)):=by
 unfold WX iL.part;by_cases h0:k=0
 ·simp [h0,iL.cells]
 by_cases h1:k=1
 ·simp [h1,iL.cells]
 by_cases h2:k=2
 ·simp [h2,iL.cells]
 by_cases h3:k=3
 ·simp [h3,iL.cells]
 simp [h0,h1,h2,h3,iL.cells]
theorem aHe {b:Nat} {k:Int} (hk:K (.pointer (some ⟨b,WX k,none⟩)) w):aB prog 104 #[.pointer (some ⟨b,0,none⟩),i64 k] w K:=by
 apply bAq;unfold SV;unfold WX at hk;refine aJ.2 (aC (λe=>?_) λe=>?_)
 ·rw [if_pos e] at hk;exact ⟨.inl ⟨_,rfl⟩,EW mI hk⟩
 rw [if_neg e] at hk;refine aJ.2 (aC (λe=>?_) λe=>?_)
 ·rw [if_pos e] at hk;exact ⟨.inl ⟨_,rfl⟩,EW rE hk⟩
 rw [if_neg e] at hk;refine aJ.2 (aC (λe=>?_) λe=>?_)
 ·rw [if_pos e] at hk;exact ⟨.inl ⟨_,rfl⟩,EW nL hk⟩
 rw [if_neg e] at hk;refine aJ.2 (aC (λe=>?_) λe=>?_)
 ·rw [if_pos e] at hk;exact ⟨.inl ⟨_,rfl⟩,EW mT hk⟩
 rw [if_neg e] at hk;exact ⟨.inl ⟨_,rfl⟩,EW rD hk⟩
theorem aFx {sl:List jX} {j:Nat} {s:jX} (h:sl[j]?=some s):((slC sl).drop (((j:Int)).toNat*6)).take 6=s.cells:=by
 induction sl generalizing j with
 | nil=>simp at h
 | cons x l ih=>
  cases j with
  | zero=>simp at h;subst h;simp [slC,jX.cells]
  | succ j=>
   have:=ih (j:=j) (by simpa using h);simp only [Int.toNat_natCast] at this ⊢;rw [<- this];have e:slC (x::l)=x.cells++slC l:=rfl;rw [e,show (j+1)*6=x.cells.length+j*6 from by simp [jX.cells];omega,List.drop_append,List.drop_eq_nil_of_le (by omega),List.nil_append,Nat.add_sub_cancel_left]
theorem aDz {sl:List jX} {k:Int} {j:Nat} {s:jX} (h:∀ q,q < j->∀ s,sl[q]?=some s->s.part≠k) (hs:sl[j]?=some s) (he:s.part=k):sl.find? (λs=>decide (s.part=k))=some s:=by
 induction sl generalizing j with
 | nil=>simp at hs
 | cons x l ih=>
  cases j with
  | zero=>simp at hs;subst hs;simp [he]
  | succ j=>
   have hx:x.part≠k:=h 0 (by omega) x rfl;rw [List.find?_cons,decide_eq_false hx];exact ih (j:=j) (λq hq s hs=>h (q+1) (by omega) s (by simpa using hs)) (by simpa using hs)
theorem LX {sl:List jX} {i:iL} {k op base:Int} {sv:Y} {B:Nat} (hs:w.ownsRow B 210 6 sv sl.length (slC sl)) (hl:sl.length<=100) (hst:∀ s∈sl,0 < s.step) (hk:∀ w',aG w w'->K (.bool (jW sl i k)) w') :
  aB prog 98 #[.agg #[i64 op,u16 base,sv],.agg i.cells.toArray,i64 k] w K:=by
 apply bGq;unfold ZD;refine bx λb3 w1 h3 x1=>?_;have h3:bF w1 b3 [i64 op,u16 base,sv]:=h3;refine bx λb4 w2 h4 x2=>?_;have h4:bF w2 b4 i.cells:=h4;refine aHe ⟨.inl ⟨_,rfl⟩,?_⟩;have x02:=x1.trans x2;have hp:=h4 _ _ (WW i k);rw [Nat.zero_add] at hp;obtain ⟨d,hd,ha⟩:=aE.ex;refine V.ok (jN hd ha hp) ?_;refine aV (h3.ext x2) eM iN rfl (gE IP (aA.of_own (x02.own hs)) ?_);refine ⟨λv w'=>∃ j:Nat,v=i64 j/\j<=sl.length/\aG w w'/\∀ q,q < j->∀ s,sl[q]?=some s->s.part≠k,λv _=>sl.length - (RowKit.intOf v).toNat,⟨0,rfl,Nat.zero_le _,x02,λq hq=>by omega⟩,?_⟩;rintro _ w3 ⟨j,rfl,hj,x3,hno⟩ _;refine aZ.2 (aC (λhlt=>?_) λhge=>?_)
 ·obtain ⟨s,hsj⟩:=bI (l:=sl) (j:=j) (by omega);refine vV IP fM (aA.of_own (x3.own hs)) (by omega) (by omega) (aFx hsj) rfl ?_;refine tH JE rfl rfl λw4 h9 x4=>?_;have h9:bF w4 w3.heap.size s.cells:=bO.boxed h9;have x04:=x3.trans x4;refine aV h9 iJ aE rfl (aJ.2 (aC (λhe=>?_) λhne=>?_))
  ·have hf:=aDz hno hsj he;have hpo:jW sl i k=(decide (s.least<=i.part k)&&decide (i.part k<=s.most)&&decide ((i.part k).tmod s.step=0)):=by unfold jW;rw [hf]
   rw [hpo] at hk;have hs0:=hst s (List.mem_of_getElem? hsj);refine aV h9 jA aE rfl (fK.2 ?_);by_cases c1:s.least<=i.part k
   ·simp only [show (i.part k>=s.least)=True from by simp [c1],decide_true,mD];refine aV h9 iZ aE rfl (uJ.2 ?_);by_cases c2:i.part k<=s.most
    ·simp only [c2,decide_true,bA,reduceIte,mD];refine aV h9 iI aE rfl (rm hs0 λc hc _ _=>aJ.2 ?_)
     try simp only [bA,reduceIte]
     subst hc;have:=hk w4 x04;simpa only [c1,c2,decide_true,Bool.true_and] using this
    ·simp only [c2,decide_false,bA,Bool.false_eq_true,reduceIte,lY];have:=hk w4 x04;simpa only [c1,c2,decide_true,decide_false,Bool.true_and,Bool.false_and] using this
   ·simp only [show (i.part k>=s.least)=False from by simp;omega,decide_false,lY,bA,Bool.false_eq_true,reduceIte];have:=hk w4 x04;simpa only [c1,decide_false,Bool.false_and] using this
  ·refine jS (by omega) ?_;refine ⟨⟨j+1,rfl,by omega,x04,λq hq t ht=>?_⟩,by simp only [aK];omega⟩;by_cases hqj:q=j
   ·subst hqj;rw [hsj] at ht;cases ht;exact hne
   ·exact hno q (by omega) t ht
 ·have hpo:jW sl i k=decide (i.part k=0):=by
   unfold jW;rw [List.find?_eq_none.2 λs hs=>?_];obtain ⟨q,hq⟩:=List.getElem?_of_mem hs;have:=(List.getElem?_eq_some_iff.1 hq).1;simpa using hno q (by omega) s hq
  rw [hpo] at hk;exact aJ.2 (hk w3 x3)
end Go.Proofs.YtjcmcfidblhnnaaGreatDoor
namespace Go.Vc
section
variable {P:Program} {w:O} {K:Y->O->Prop}
theorem xO {s f o ft bk:Nat} {cs:List Y} {u:Y} {b c:Bool} {cmp:Y->Sem Y} {R:Y->O->Prop} (hb:bF w bk cs) (hf:FA P s f o) (hl:L1 P ft) (hc:cs[o]?=some u) (hcmp:(cmp u).run P w=.ok (.bool c) w) (hk:R (.bool (b&&c)) w) :
  gd (.bool b) true (λK=>V P (Instr.fieldAt s (.pointer (some ⟨bk,0,none⟩)) f) w K) w λt1 w1=>gd (.bool b) true (λK=>V P (Instr.loadAt ft t1) w1 K) w1 λt2 w2=>gd (.bool b) true (λK=>V P (cmp t2) w2 K) w2 λt3 w3=>aH (.bool b) t3 (.bool false) λt4=>R t4 w3:=by
 cases b with
 | true=>
  rw [mD];obtain ⟨d,hd,ha⟩:=hl;refine V.ok (hf.ex w bk 0) ?_;rw [mD];refine V.ok (jN hd ha (hb _ _ hc)) ?_;rw [mD];refine V.ok hcmp (jL ?_);rw [if_pos rfl];exact hk
 | false=>
  rw [lY,lY,lY];exact jL (by rw [if_neg (by decide)];exact hk)
theorem bMi {s f o ft bk:Nat} {cs:List Y} {u m:Y} {b c:Bool} {cmp cmp2:Y->Sem Y} {R:Y->O->Prop} (hb:bF w bk cs) (hf:FA P s f o) (hl:L1 P ft) (hc:cs[o]?=some u) (hcmp:(cmp u).run P w=.ok m w) (hcmp2:(cmp2 m).run P w=.ok (.bool c) w) (hk:R (.bool (b&&c)) w) :
  gd (.bool b) true (λK=>V P (Instr.fieldAt s (.pointer (some ⟨bk,0,none⟩)) f) w K) w λt1 w1=>gd (.bool b) true (λK=>V P (Instr.loadAt ft t1) w1 K) w1 λt2 w2=>gd (.bool b) true (λK=>V P (cmp t2) w2 K) w2 λt3 w3=>gd (.bool b) true (λK=>V P (cmp2 t3) w3 K) w3 λt3 w3=>aH (.bool b) t3 (.bool false) λt4=>R t4 w3:=by
 cases b with
 | true=>
  rw [mD];obtain ⟨d,hd,ha⟩:=hl;refine V.ok (hf.ex w bk 0) ?_;rw [mD];refine V.ok (jN hd ha (hb _ _ hc)) ?_;rw [mD];refine V.ok hcmp ?_;rw [mD];refine V.ok hcmp2 (jL ?_);rw [if_pos rfl];exact hk
 | false=>
  rw [lY,lY,lY,lY];exact jL (by rw [if_neg (by decide)];exact hk)
end
end Go.Vc
namespace Go.Proofs.YtjcmcfidblhnnaaGreatDoor
open Tryz
open Go.Vc
variable {w:O} {K:Y->O->Prop}
theorem NW {op b:Int} {sl:List jX} (h:dH op=some (b,sl)):sl.length<=3/\∀ s∈sl,0 < s.step/\0<=s.part/\s.part<=4:=by
 unfold dH at h;by_cases c:12<=op/\op<=27
 ·rw [if_pos c] at h;cases h;exact ⟨by decide,by simp [aT]⟩
 rw [if_neg c] at h;clear c;by_cases c:8<=op/\op<=11
 ·rw [if_pos c] at h;cases h;exact ⟨by decide,by simp [aT,bL]⟩
 rw [if_neg c] at h;clear c;by_cases c:op=1
 ·rw [if_pos c] at h;cases h;exact ⟨by decide,by simp [aT,bL]⟩
 rw [if_neg c] at h;clear c;by_cases c:op=2
 ·rw [if_pos c] at h;cases h;exact ⟨by decide,by simp [aT,bL]⟩
 rw [if_neg c] at h;clear c;by_cases c:op=3
 ·rw [if_pos c] at h;cases h;exact ⟨by decide,by simp [aT,bL]⟩
 rw [if_neg c] at h;clear c;by_cases c:op=4
 ·rw [if_pos c] at h;cases h;exact ⟨by decide,by simp [aT]⟩
 rw [if_neg c] at h;clear c;by_cases c:op=5
 ·rw [if_pos c] at h;cases h;exact ⟨by decide,by simp [aT]⟩
 rw [if_neg c] at h;clear c;by_cases c:op=6
 ·rw [if_pos c] at h;cases h;exact ⟨by decide,by simp [aT,bL]⟩
 rw [if_neg c] at h;clear c;by_cases c:op=7
 ·rw [if_pos c] at h;cases h;exact ⟨by decide,by simp [aT,bL]⟩
 rw [if_neg c] at h;clear c;by_cases c:op=30
 ·rw [if_pos c] at h;cases h;exact ⟨by decide,by simp [aT]⟩
 rw [if_neg c] at h;clear c;by_cases c:op=29
 ·rw [if_pos c] at h;cases h;exact ⟨by decide,by simp [aT]⟩
 rw [if_neg c] at h;clear c;by_cases c:op=32
 ·rw [if_pos c] at h;cases h;exact ⟨by decide,by simp [aT,bL]⟩
 rw [if_neg c] at h;clear c;by_cases c:op=31
 ·rw [if_pos c] at h;cases h;exact ⟨by decide,by simp [aT,bL]⟩
 rw [if_neg c] at h;clear c;by_cases c:op=34
 ·rw [if_pos c] at h;cases h;exact ⟨by decide,by simp [aT,bL]⟩
 rw [if_neg c] at h;clear c;by_cases c:op=33
 ·rw [if_pos c] at h;cases h;exact ⟨by decide,by simp [aT,bL]⟩
 rw [if_neg c] at h;clear c;unfold mQ at h;by_cases c:op=36
 ·rw [if_pos c] at h;cases h;exact ⟨by decide,by simp [aT,bL]⟩
 rw [if_neg c] at h;clear c;by_cases c:op=35
 ·rw [if_pos c] at h;cases h;exact ⟨by decide,by simp [aT,bL]⟩
 rw [if_neg c] at h;clear c;by_cases c:op=37
 ·rw [if_pos c] at h;cases h;exact ⟨by decide,by simp [bL]⟩
 rw [if_neg c] at h;clear c;by_cases c:op=38
 ·rw [if_pos c] at h;cases h;exact ⟨by decide,by simp [bL]⟩
 rw [if_neg c] at h;clear c;by_cases c:op=39
 ·rw [if_pos c] at h;cases h;exact ⟨by decide,by simp [bL]⟩
 rw [if_neg c] at h;clear c;by_cases c:op=40
 ·rw [if_pos c] at h;cases h;exact ⟨by decide,by simp [bL]⟩
 rw [if_neg c] at h;clear c;by_cases c:op=41
 ·rw [if_pos c] at h;cases h;exact ⟨by decide,by simp [bL]⟩
 rw [if_neg c] at h;clear c;by_cases c:op=42
 ·rw [if_pos c] at h;cases h;exact ⟨by decide,by simp [bL]⟩
 rw [if_neg c] at h;clear c;by_cases c:op=44
 ·rw [if_pos c] at h;cases h;exact ⟨by decide,by simp [bL]⟩
 rw [if_neg c] at h;clear c;by_cases c:op=45
 ·rw [if_pos c] at h;cases h;exact ⟨by decide,by simp []⟩
 rw [if_neg c] at h;clear c;cases h
def rC (r:Option (Int × List jX)) (i:iL) (j:Nat):Bool:=match r with
 | some r=>(List.range j).all λk=>jW r.2 i (k:Int)
 | none=>false
theorem yK {r:Int × List jX} {i:iL} {j:Nat}:rC (some r) i (j+1)=(rC (some r) i j&&jW r.2 i (j:Int)):=by
 simp [rC,List.range_succ]
theorem DJ {i:iL} (h28:i.op=28->i.n=0/\i.imm=0/\i.cond=0) (h43:i.op=43->i.d=0/\i.n=0/\i.m=0/\i.cond=0) (hk:∀ w',aG w w'->K (.bool (dB i)) w'):aB prog 47 #[.agg i.cells.toArray] w K:=by
 apply bIo;unfold aAx;refine bx λb w1 hb x1=>?_;have hb:bF w1 b i.cells:=hb;have fi:∀ {R:Y->O->Prop} {f:Nat} {v:Y},FA prog 83 f f->i.cells[f]?=some v->R v w1->V prog (Instr.fieldAt 83 (.pointer (some ⟨b,0,none⟩)) f) w1 λq w2=>V prog (Instr.loadAt 3 q) w2 R:=λhf hv hr=>aV hb hf aE hv hr;refine fi mU rfl (aJ.2 (aC (λe=>?_) λe28=>?_))
 ·obtain ⟨z1,z2,z3⟩:=h28 e;refine iC hb qX rfl ?_;refine fi mI rfl (fi nL rfl ?_);refine lF qN [(0,i64 28),(1,i64 i.d),(3,i64 i.m)] rfl rfl ?_;refine bBx (i:=i) (j:=⟨28,i.d,0,i.m,0,0⟩) ?_ ?_
  ·cases i;simp only at e z1 z2 z3;subst e z1 z2 z3;rfl
  refine xO hb mI aE rfl yH ?_;refine xO hb mI aE rfl BA ?_;refine xO hb mI aE rfl wX ?_;refine xO hb nL aE rfl yH ?_;refine xO hb nL aE rfl BA ?_;have:=hk w1 x1;unfold dB at this;rw [if_pos e,decide_eq_true ⟨z1,z2,z3⟩] at this;exact this
 refine aJ.2 (aC (λe=>?_) λe43=>?_)
 ·obtain ⟨z1,z2,z3,z4⟩:=h43 e;refine iC hb qX rfl ?_;refine fi mT rfl ?_;refine lF qN [(0,i64 43),(4,i64 i.imm)] rfl rfl ?_;refine bBx (i:=i) (j:=⟨43,0,0,0,i.imm,0⟩) ?_ ?_
  ·cases i;simp only at e z1 z2 z3 z4;subst e z1 z2 z3 z4;rfl
  refine xO hb mT aE rfl yH ?_;refine xO hb mT aE rfl MA ?_;refine bMi hb mT aE rfl (aGq (by decide)) AB ?_;have:=hk w1 x1;unfold dB at this;rw [if_neg e28,if_pos e,decide_eq_true ⟨z1,z2,z3,z4⟩] at this;exact this
 refine fi mU rfl (aJh λv w2 hv x2=>?_)
 have hrp:dB i=rC (dH i.op) i 5:=by
  unfold dB rC;rw [if_neg e28,if_neg e43];cases dH i.op with
  | none=>rfl
  | some r=>simp [List.range_succ,Bool.and_assoc]
 rw [hrp] at hk
 obtain ⟨op,base,sv,sl,rfl,hsv,hsl,hst,hfs⟩:∃ (op base:Int) (sv:Y) (sl:List jX),v=.tuple #[.agg #[i64 op,u16 base,sv],.bool (dH i.op).isSome]/\w2.ownsRow w1.heap.size 210 6 sv sl.length (slC sl)/\sl.length<=100/\(∀ s∈sl,0 < s.step)/\∀ r,dH i.op=some r->r.2=sl:=by
  cases hf:dH i.op with
  | none=>
   rw [hf] at hv;have hv:v=_:=hv;exact ⟨0,0,bC,[],hv,World.ownsRow_nil _ _ _ _,by decide,λs hs=>(by cases hs),λr h=>(by cases h)⟩
  | some r=>
   rw [hf] at hv;obtain ⟨sv,h1,h2⟩:=hv;obtain ⟨b,sl⟩:=r;obtain ⟨f1,f2⟩:=NW hf;exact ⟨i.op,b,sv,sl,h1,h2,by omega,λs hs=>(f2 s hs).1,λr h=>by cases h;rfl⟩
 refine gR.2 (gQ.2 ?_);refine tH aGb rfl (aHh (oQ hsv)) λw3 h3 x3=>?_;have h3:bO w3 w2.heap.size [i64 op,u16 base,sv] 157:=h3;have x13:=x2.trans x3;refine ⟨λok v w'=>∃ j:Nat,v=i64 j/\j<=5/\ok=.bool (rC (dH i.op) i j)/\aG w3 w',λ_ v _=>5 - (RowKit.intOf v).toNat,⟨0,rfl,by decide,?_,aG.refl _⟩,?_⟩
 ·cases dH i.op<;>rfl
 rintro _ _ w4 ⟨j,rfl,hj,rfl,x4⟩ _;refine aZ.2 (aC (λhlt=>?_) λhge=>?_)
 ·have nx:∀ {c:Bool} {w'},rC (dH i.op) i (j+1)=c->aG w3 w'->V prog (binOp .add 3 (i64 j) (i64 1)) w' λt81 w65=>(∃ j:Nat,t81=i64 j/\j<=5/\Value.bool c=.bool (rC (dH i.op) i j)/\aG w3 w65)/\5 - (RowKit.intOf t81).toNat < 5 - (RowKit.intOf (i64 (j:Int))).toNat:=λhc hx=>by
   refine jS (by omega) ?_;exact ⟨⟨j+1,rfl,by omega,by rw [hc],hx⟩,by simp only [aK];omega⟩
  cases hp:rC (dH i.op) i j with
  | false=>
   simp only [lY,bA,Bool.false_eq_true,reduceIte];refine nx ?_ x4;cases hf:dH i.op with
   | none=>rfl
   | some r=>rw [hf] at hp;rw [yK,hp];rfl
  | true=>
   simp only [mD];refine iC (h3.ext x4).boxed bEb rfl (iC ((hb.ext x13).ext x4) qX rfl ?_);refine LX ((x3.trans x4).own hsv) hsl hst λw5 x5=>?_;simp only [bA,reduceIte];refine nx ?_ (x4.trans x5);cases hf:dH i.op with
   | none=>rw [hf] at hp;cases hp
   | some r=>
    rw [hf] at hp;rw [yK,hp,hfs r hf];rfl
 ·obtain rfl:j=5:=by omega
  exact hk w4 ((x1.trans x13).trans x4)
end Go.Proofs.YtjcmcfidblhnnaaGreatDoor
namespace Go.Vc
theorem zB {α:Type} {f:α->List Y} {sz:Nat} (hf:∀ x,(f x).length=sz):∀ {l:List α} {j:Nat} {x:α},l[j]?=some x->((l.flatMap f).drop (j*sz)).take sz=f x
 | [],_,_,h=>by simp at h
 | y::l,0,x,h=>by
  simp at h;subst h;rw [Nat.zero_mul,List.drop_zero,List.flatMap_cons,List.take_append_of_le_length (by rw [hf];exact Nat.le_refl _),List.take_of_length_le (by rw [hf];exact Nat.le_refl _)]
 | y::l,j+1,x,h=>by
  rw [<- zB hf (l:=l) (j:=j) (by simpa using h),List.flatMap_cons,show (j+1)*sz=(f y).length+j*sz from by rw [hf,Nat.add_mul];omega,List.drop_append,List.drop_eq_nil_of_le (by omega),List.nil_append,Nat.add_sub_cancel_left]
end Go.Vc
namespace Go.Proofs.YtjcmcfidblhnnaaGreatDoor
open Tryz
open Go.Vc
variable {w:O} {K:Y->O->Prop}
theorem aQv {i:iL} (h:i.op≠41/\i.op≠42/\i.op≠43/\i.op≠40) (hk:∀ w',aG w w'->K (.bool true) w'):aB prog 212 #[.agg i.cells.toArray] w K:=by
 apply aWf;unfold OY;obtain ⟨h1,h2,h3,h4⟩:=h;refine bx λb w1 hb x1=>?_;have hb:bF w1 b i.cells:=hb;refine aV hb mU aE rfl ?_;refine ⟨λv w'=>v=.bool false/\w'=w1,?_,?_⟩
 ·refine aJ.2 (aC (λe=>absurd e h1) λ_=>aJ.2 (aC (λe=>absurd e h2) λ_=>aJ.2 ⟨?_,rfl⟩));rw [decide_eq_false h3]
 ·rintro _ w2 ⟨rfl,rfl⟩ _;exact aM.2 (aJ.2 (aC (λe=>absurd e h4) λ_=>hk _ x1))
def bEj:List (TypeId × Nat):=[(3,0),(83,1),(3,7),(3,8),(3,9),(21,10)]
theorem bLf:QT prog 180 bEj:=⟨by kernel_rfl,by kernel_rfl,by kernel_rfl,by kernel_rfl⟩
theorem aHd {P:Program} {t n b:Nat} {z:Y} {d:TypeDesc} {xs:Array Y} {o:Nat} (ht:P.underlying t=some d) (hd:lZ d=true) (hi:cZ P t z n b):(part t xs o).run P w=.ok (.agg (xs.extract o (o+n))) w:=by
 simp [part,vJ ht,hd,gW hi]
def cO.ins:cO->iL
 | .one i=>i
 | _=>⟨0,0,0,0,0,0⟩
theorem aIn (x:cO):∀ f∈bEj,∃ v,(part f.1 x.cells.toArray f.2).run prog w=.ok v w/\(Op.equalIn 9999 f.1 v v).run prog w=.ok true w:=by
 intro f hf
 have key:∀ (o:Nat) (n:Int),x.cells.toArray[o]?=some (i64 n)->∃ v,(part 3 x.cells.toArray o).run prog w=.ok v w/\(Op.equalIn 9999 3 v v).run prog w=.ok true w:=λo n h=>
  ⟨_,DR underlying3 h,by rw [run_equalIn_int w 9998 3 _ _ _ _ underlying3];simp⟩
 have key2:∀ (o:Nat) (n:Int),x.cells.toArray[o]?=some (i32 n)->∃ v,(part 21 x.cells.toArray o).run prog w=.ok v w/\(Op.equalIn 9999 21 v v).run prog w=.ok true w:=λo n h=>
  ⟨_,DR underlying21 h,by rw [run_equalIn_int w 9998 21 _ _ _ _ underlying21];simp⟩
 simp only [bEj,List.mem_cons,List.not_mem_nil,or_false] at hf;rcases hf with rfl|rfl|rfl|rfl|rfl|rfl
 ·cases x<;>exact key _ _ rfl
 ·refine ⟨_,aHd underlying83 rfl BL,?_⟩;have e:x.cells.toArray.extract 1 (1+6)=x.ins.cells.toArray:=by cases x<;>rfl
  rw [e];exact bBl.refl (ND x.ins 9997)
 iterate 3
  ·cases x<;>exact key _ _ rfl
 ·cases x<;>exact key2 _ _ rfl
theorem YD {x:cO} {cs ds:Array Y} (hc:cs=x.cells.toArray) (hd:ds=x.cells.toArray) {a b:Operand} (hk:K (.bool true) w):V prog (do eqGuard .eql 180 a b (.agg cs) (.agg ds);binOp .eql 180 (.agg cs) (.agg ds)) w K:=by
 subst hc hd;exact eqA bLf rfl (aIn x) hk
theorem aHj {i:iL} (h:i.okT):(i.op=28->i.n=0/\i.imm=0/\i.cond=0)/\(i.op=43->i.d=0/\i.n=0/\i.m=0/\i.cond=0)/\i.op≠41/\i.op≠42/\i.op≠43/\i.op≠40:=by
 rcases h with ⟨h1,_,_,h7,h8,h9⟩|⟨h1,_⟩|⟨h1,_⟩|⟨h1,_⟩|⟨h1,_⟩|⟨h1,_⟩|⟨h1,_⟩
 ·exact ⟨λ_=>⟨h7,h8,h9⟩,λe=>by omega,by omega,by omega,by omega,by omega⟩
 all_goals exact ⟨λe=>by omega,λe=>by omega,by omega,by omega,by omega,by omega⟩
theorem aQk {x:cO} (h:x.okI) (hk:∀ w',aG w w'->K (.bool true) w'):aB prog 177 #[.agg x.cells.toArray] w K:=by
 apply aXp;unfold QD;refine bx λb w1 hb x1=>?_;have hb:bF w1 b x.cells:=hb;have no:∀ {a b:Int} {P Q:Prop},a≠b->Q->aI (.bool (decide (a=b))) P Q:=λh hq=>aC (λe=>absurd e h) λ_=>hq;have yes:∀ {a:Int} {P Q:Prop},P->aI (.bool (decide (a=a))) P Q:=λhp=>aC (λ_=>hp) λh=>absurd rfl h;cases x with
 | one i=>
  have hb:bF w1 b [i64 1,i64 i.op,i64 i.d,i64 i.n,i64 i.m,i64 i.imm,i64 i.cond,i64 0,i64 0,i64 0,i32 0]:=hb;have hi:i.okT:=h;obtain ⟨r1,r2,r3⟩:=aHj hi;refine aV hb bG aE rfl (aJ.2 (yes ?_));refine iC hb sU rfl ?_;refine EW eX (aIe hb qX rfl (l:=i.cells) rfl ?_);refine KK BO (XY i) ?_;refine YD (x:=.one i) rfl rfl ?_;refine mD.2 ?_;refine EW eX ?_;refine mD.2 ?_;refine aIe hb qX rfl (l:=i.cells) rfl ?_;refine mD.2 ?_;refine DJ r1 r2 λw2 x2=>jL ?_;rw [AE hi,if_pos rfl];refine mD.2 ?_;refine EW eX ?_;refine mD.2 ?_;refine aIe (hb.ext x2) qX rfl (l:=i.cells) rfl ?_;refine mD.2 ?_;refine aQv r3 λw3 x3=>jL ?_;rw [if_pos rfl];exact hk w3 ((x1.trans x2).trans x3)
 | place l=>
  have hb:bF w1 b [i64 2,i64 0,i64 0,i64 0,i64 0,i64 0,i64 0,i64 l,i64 0,i64 0,i32 0]:=hb;have hl:0<=l/\l<=2000:=h;refine aV hb bG aE rfl (aJ.2 (no (by decide) (aJ.2 (yes ?_))));refine iC hb sU rfl (aV hb cD aE rfl ?_);refine KK BO rfl (YD (x:=.place l) rfl rfl ?_);refine xO hb cD aE rfl yH (xO hb cD aE rfl MA ?_);rw [decide_eq_true hl.1,decide_eq_true hl.2];exact hk w1 x1
 | jump c l=>
  have hb:bF w1 b [i64 3,i64 0,i64 0,i64 0,i64 0,i64 0,i64 0,i64 l,i64 c,i64 0,i32 0]:=hb;obtain ⟨hl,hc⟩:(0<=l/\l<=2000)/\(0<=c/\c<=14):=h;refine aV hb bG aE rfl (aJ.2 (no (by decide) (aJ.2 (no (by decide) (aJ.2 (yes ?_))))));refine iC hb sU rfl (aV hb cD aE rfl (aV hb eJ aE rfl ?_));refine KK BO rfl (YD (x:=.jump c l) rfl rfl ?_);refine xO hb cD aE rfl yH (xO hb cD aE rfl MA ?_);refine xO hb eJ aE rfl yH (xO hb eJ aE rfl MA ?_);rw [decide_eq_true hl.1,decide_eq_true hl.2,decide_eq_true hc.1,decide_eq_true hc.2];exact hk w1 x1
 | load r n=>
  have hb:bF w1 b [i64 4,i64 0,i64 0,i64 0,i64 0,i64 0,i64 0,i64 0,i64 0,i64 r,i32 n]:=hb;obtain ⟨hr0,hr1⟩:0<=r/\r<=7:=h;refine aV hb bG aE rfl (aJ.2 (no (by decide) (aJ.2 (no (by decide) (aJ.2 (no (by decide) (aJ.2 (yes ?_))))))));refine iC hb sU rfl (aV hb eW aE rfl (aV hb fR kT rfl ?_));refine KK BO rfl (YD (x:=.load r n) rfl rfl ?_);refine xO hb eW aE rfl yH (xO hb eW aE rfl BA ?_);rw [show decide (r>=0)=true from decide_eq_true hr0,show decide (r < 8)=true from decide_eq_true (by omega)];exact hk w1 x1
theorem aQl {x:cO} (h:x.okI) (hk:∀ w',aG w w'->K (.bool false) w'):aB prog 176 #[.agg x.cells.toArray] w K:=by
 apply aXq;unfold QE;refine bx λb w1 hb x1=>?_;have hb:bF w1 b x.cells:=hb;refine iC hb sU x.len ?_;exact aQk h λw2 x2=>dO.2 (hk w2 (x1.trans x2))
def uF (w:O) (v:Y) (l:List cO):Prop:=aA w v 11 l.length (itC l)
theorem uF.ext {w':O} {v:Y} {l:List cO} (h:uF w v l) (hx:aG w w'):uF w' v l:=aA.ext h hx
theorem JW {l:List cO} {j:Nat} {x:cO} (h:l[j]?=some x):((itC l).drop (((j:Int)).toNat*11)).take 11=x.cells:=by
 rw [Int.toNat_natCast];exact zB cO.len h
theorem aRy {v:Y} {l:List cO} (hv:uF w v l) (hl:l.length<=1000000) (h:∀ x∈l,x.okI) (hk:∀ w',aG w w'->K (i64 (-1)) w'):aB prog 211 #[v,.func (.func 176) #[] #[]] w K:=by
 apply aWg;unfold OZ;refine gE xS hv ?_;refine ⟨λv w'=>∃ j:Nat,v=i64 j/\j<=l.length/\aG w w',λv _=>l.length - (RowKit.intOf v).toNat,⟨0,rfl,Nat.zero_le _,aG.refl _⟩,?_⟩;rintro _ w1 ⟨j,rfl,hj,x1⟩ _;refine aZ.2 (aC (λhlt=>?_) λhge=>hk w1 x1);obtain ⟨x,hx⟩:=bI (l:=l) (j:=j) (by omega);refine vV xS sU (hv.ext x1) (by omega) (by omega) (JW hx) x.len ?_;refine ⟨_,#[],rfl,aQl (h x (List.mem_of_getElem? hx)) λw2 x2=>aM.2 (bJ.2 ?_)⟩;rw [aQ (by omega),bK];exact ⟨⟨j+1,rfl,by omega,x1.trans x2⟩,by simp only [aK];omega⟩
theorem VB {v:Y} {l:List cO} (hv:uF w v l) (hl:l.length<=1000000) (h:∀ x∈l,x.okI) (hk:∀ w',aG w w'->K (.bool false) w'):aB prog 175 #[v,.func (.func 176) #[] #[]] w K:=by
 apply aXr;unfold QF;exact aRy hv hl h λw1 x1=>fK.2 (hk w1 x1)
def zH (l:List cO):List Y:=(List.range 2001).map λ(q:Nat)=>i64 ((((kH l).count (q:Int)):Nat):Int)
theorem zF (l:List cO):(zH l).length=2001:=by simp [zH]
theorem zG {l:List cO} {q:Nat} (h:q < 2001):(zH l)[q]?=some (i64 ((((kH l).count (q:Int)):Nat):Int)):=by
 simp only [zH,List.getElem?_map,List.getElem?_range h];rfl
theorem aJx:zH []=List.replicate 2001 (i64 0):=by
 apply List.ext_getElem?;intro q;by_cases h:q < 2001
 ·rw [zG h,List.getElem?_replicate_of_lt h];rfl
 ·rw [List.getElem?_eq_none (by rw [zF];omega),List.getElem?_eq_none (by rw [List.length_replicate];omega)]
theorem VD {l:List cO} {q:Nat} (h:q < 2001):(zH l).set q (i64 ((((kH l).count (q:Int)+1):Nat):Int))=zH (l++[.place q]):=by
 apply List.ext_getElem?;intro k;by_cases hk:k < 2001
 ·rw [List.getElem?_set,zG hk,zG hk,rP,List.count_append,show kH [cO.place (q:Int)]=[(q:Int)] from rfl];by_cases hq:q=k
  ·subst hq;rw [if_pos rfl,if_pos (by rw [zF];exact h),List.count_singleton_self]
  ·rw [if_neg hq,List.count_singleton,if_neg (by simp;omega)];rfl
 ·rw [List.getElem?_eq_none (by rw [List.length_set,zF];omega),List.getElem?_eq_none (by rw [zF];omega)]
theorem xK {l:List cO} {x:cO} (h:x.pl=[]):zH (l++[x])=zH l:=by
 unfold zH;rw [rP,show kH [x]=[] from by simp [kH,h],List.append_nil]
theorem vK {l:List cO} {j:Nat} {x:cO} (h:l[j]?=some x):l.take (j+1)=l.take j++[x]:=by
 rw [List.take_add_one,h];rfl
theorem aEi {l:List cO} (h:uK l) {q:Nat} (hq:(q:Int)∈kH l):(kH l).count (q:Int)=1:=h.nd.count.trans (if_pos hq)
theorem bCy {v:Y} {l:List cO} (hv:uF w v l) (h:uK l) (hk:∀ w',aG w w'->K (.bool true) w'):aB prog 120 #[v] w K:=by
 apply aZy;unfold SJ;have hl:=h.len;refine gE xS hv (jF.2 ?_);rw [decide_eq_false (by omega)];refine pD.2 (pD.2 ?_);refine VB hv (by omega) h.ok λw1 x1=>jL ?_;rw [if_neg (by decide)];refine aM.2 ?_;refine zU bEo λw2 hB x2=>?_
 have hB:bO w2 w1.heap.size (zH []) 263:=by
  rw [aJx];exact hB
 have x02:=x1.trans x2;have s2:=x1.size;generalize hg:w1.heap.size=g at hB s2;refine gE xS (hv.ext x02) ?_;refine ⟨λv w'=>∃ j:Nat,v=i64 j/\j<=l.length/\aG w w'/\bO w' g (zH (l.take j)) 263,λv _=>l.length - (RowKit.intOf v).toNat,⟨0,rfl,Nat.zero_le _,x02,by simpa using hB⟩,?_⟩;rintro _ w3 ⟨j,rfl,hj,x3,hB3⟩ _;refine aZ.2 (aC (λhlt=>?_) λhge=>?_)
 ·obtain ⟨x,hx⟩:=bI (l:=l) (j:=j) (by omega);have hox:=h.ok x (List.mem_of_getElem? hx);refine vV xS sU (hv.ext x3) (by omega) (by omega) (JW hx) x.len ?_;refine tH TH (by simpa [Value.cells] using x.len) (by simpa [Value.cells] using tV x) λw4 h5 x4=>?_;have h5:bO w4 w3.heap.size x.cells 180:=h5;have x04:=x3.trans x4;have hB4:=hB3.ext x4
  have nx:∀ {w'},aG w w'->bO w' g (zH (l.take (j+1))) 263->V prog (binOp .add 3 (i64 j) (i64 1)) w' λt w5=>(∃ j:Nat,t=i64 j/\j<=l.length/\aG w w5/\bO w5 g (zH (l.take j)) 263)/\l.length - (RowKit.intOf t).toNat < l.length - (RowKit.intOf (i64 (j:Int))).toNat:=λhx hb=>by
   refine jS (by omega) ?_;exact ⟨⟨j+1,rfl,by omega,hx,hb⟩,by simp only [aK];omega⟩
  cases x with
  | place q=>
   have h5:bO w4 w3.heap.size [i64 2,i64 0,i64 0,i64 0,i64 0,i64 0,i64 0,i64 q,i64 0,i64 0,i32 0] 180:=h5;obtain ⟨q,rfl⟩:∃ n:Nat,q=n:=⟨q.toNat,by have:0<=q/\q<=2000:=hox;omega⟩;have hq:q < 2001:=by have:0<=(q:Int)/\(q:Int)<=2000:=hox;omega
   refine aV h5.boxed bG aE rfl (aJ.2 (aC (λ_=>?_) λe=>absurd rfl e));refine aV h5.boxed cD aE rfl ?_;refine V.ok (WS underlying263 bT (by omega) (by omega)) ?_;obtain ⟨d,hd,ha⟩:=aE.ex;have hc:=hB4.cell q;rw [zG hq] at hc
   have hcnt:(kH (l.take j)).count (q:Int)<=6000:=by
    have h1:=(List.Sublist.count_le (q:Int) (l₁:=kH (l.take j)) (l₂:=kH l) (by
     conv=>rhs;rw [<- List.take_append_drop j l,rP]
     exact List.sublist_append_left _ _))
    have h2:=(List.nodup_iff_count.1 h.nd) (q:Int);omega
   refine V.ok (jN hd ha (v:=i64 ((((kH (l.take j)).count (q:Int)):Nat):Int)) (by simpa using hc)) (bJ.2 ?_);rw [aQ (by omega)];refine V.ok (WS underlying263 bT (by omega) (by omega)) ?_;refine U.ok (nF bT rfl (by simpa using hc) (by simpa using hB4.frozen q)) ?_;have hs:=hB4.set q (i64 ((((kH (l.take j)).count (q:Int)+1):Nat):Int));rw [VD hq,<- vK hx] at hs;have e1:((0+((q:Int)).toNat:Nat))=q:=by simp
   rw [e1];exact nx (x04.setCell (by omega) _) (by push_cast at hs ⊢;exact hs)
  | one i=>
   refine aV h5.boxed bG aE rfl (aJ.2 (aC (λe=>absurd e (by decide)) λ_=>?_));exact nx x04 (by rw [vK hx,xK rfl];exact hB4)
  | jump c q=>
   refine aV h5.boxed bG aE rfl (aJ.2 (aC (λe=>absurd e (by decide)) λ_=>?_));exact nx x04 (by rw [vK hx,xK rfl];exact hB4)
  | load r n=>
   refine aV h5.boxed bG aE rfl (aJ.2 (aC (λe=>absurd e (by decide)) λ_=>?_));exact nx x04 (by rw [vK hx,xK rfl];exact hB4)
 ·have e:l.take j=l:=List.take_of_length_le (by omega);rw [e] at hB3;refine gE xS (hv.ext x3) ?_;refine ⟨λv w'=>∃ j:Nat,v=i64 j/\j<=l.length/\aG w3 w',λv _=>l.length - (RowKit.intOf v).toNat,⟨0,rfl,Nat.zero_le _,aG.refl _⟩,?_⟩;rintro _ w4 ⟨k,rfl,hkl,x4⟩ _;have x04:=x3.trans x4;refine aZ.2 (aC (λhlt=>?_) λhge=>hk w4 x04);obtain ⟨x,hx⟩:=bI (l:=l) (j:=k) (by omega);have hxm:=List.mem_of_getElem? hx;have hox:=h.ok x hxm;refine vV xS sU (hv.ext x04) (by omega) (by omega) (JW hx) x.len ?_;refine tH TH (by simpa [Value.cells] using x.len) (by simpa [Value.cells] using tV x) λw5 h7 x5=>?_;have h7:bO w5 w4.heap.size x.cells 180:=h7;have hB5:=(hB3.ext x4).ext x5
  have nx:V prog (binOp .add 3 (i64 k) (i64 1)) w5 λt w6=>(∃ j:Nat,t=i64 j/\j<=l.length/\aG w3 w6)/\l.length - (RowKit.intOf t).toNat < l.length - (RowKit.intOf (i64 (k:Int))).toNat:=by
   refine jS (by omega) ?_;exact ⟨⟨k+1,rfl,by omega,x4.trans x5⟩,by simp only [aK];omega⟩
  have lbl:∀ {q:Int} {R:Y->O->Prop},x.cells[7]?=some (i64 q)->q∈kH l->0<=q/\q<=2000->R (.bool false) w5 ->
    gd (.bool true) true (λK=>V prog (Instr.fieldAt 180 (.pointer (some ⟨w4.heap.size,0,none⟩)) 2) w5 K) w5 λt46 w40=>gd (.bool true) true (λK=>V prog (Instr.loadAt 3 t46) w40 K) w40 λt47 w41=>gd (.bool true) true (λK=>V prog (Instr.indexAt 263 (.pointer (some ⟨g,0,none⟩)) t47) w41 K) w41 λt48 w42=>gd (.bool true) true (λK=>V prog (Instr.loadAt 3 t48) w42 K) w42 λt49 w43=>gd (.bool true) true (λK=>V prog (do eqGuard .neq 3 (.tmp 49) (.const (i64 1)) t49 (i64 1);binOp .neq 3 t49 (i64 1)) w43 K) w43 λt50 w44=>aH (.bool true) t50 (.bool false) λt51=>R t51 w44:=by
   intro q R hc hq hr hR;obtain ⟨q,rfl⟩:∃ n:Nat,q=n:=⟨q.toNat,by omega⟩;obtain ⟨d,hd,ha⟩:=aE.ex;refine mD.2 ?_;refine V.ok (cD.ex w5 _ 0) ?_;refine mD.2 ?_;refine V.ok (jN hd ha (h7.boxed _ _ hc)) ?_;refine mD.2 ?_;refine V.ok (WS underlying263 bT (by omega) (by omega)) ?_;refine mD.2 ?_;have hcc:=hB5.cell q;rw [zG (by omega),aEi h hq] at hcc;refine V.ok (jN hd ha (v:=i64 1) (by simpa using hcc)) ?_;refine mD.2 ?_;refine cL.2 (jL ?_);rw [if_pos rfl];exact hR
  cases x with
  | one i=>
   refine aV h7.boxed bG aE rfl (aJ.2 ?_);simp only [show decide ((1:Int)=2)=false from rfl,pD];refine aV h7.boxed bG aE rfl (aJ.2 ?_);simp only [show decide ((1:Int)=3)=false from rfl,bA,Bool.false_eq_true,reduceIte,lY,aM];exact nx
  | load r n=>
   refine aV h7.boxed bG aE rfl (aJ.2 ?_);simp only [show decide ((4:Int)=2)=false from rfl,pD];refine aV h7.boxed bG aE rfl (aJ.2 ?_);simp only [show decide ((4:Int)=3)=false from rfl,bA,Bool.false_eq_true,reduceIte,lY,aM];exact nx
  | place q=>
   have hq:q∈kH l:=List.mem_flatMap.2 ⟨_,hxm,List.mem_singleton.2 rfl⟩;refine aV h7.boxed bG aE rfl (aJ.2 ?_);rw [show decide ((2:Int)=2)=true from rfl];refine uH.2 (uH.2 (uH.2 ?_));refine jL ?_;rw [if_pos rfl];exact lbl rfl hq hox (aM.2 nx)
  | jump c q=>
   have hq:q∈kH l:=h.jl q (List.mem_flatMap.2 ⟨_,hxm,List.mem_singleton.2 rfl⟩);refine aV h7.boxed bG aE rfl (aJ.2 ?_);simp only [show decide ((3:Int)=2)=false from rfl,pD];refine aV h7.boxed bG aE rfl (aJ.2 ?_);rw [show decide ((3:Int)=3)=true from rfl];refine jL ?_;rw [if_neg (by decide)];exact lbl rfl hq hox.1 (aM.2 nx)
end Go.Proofs.YtjcmcfidblhnnaaGreatDoor
namespace Go.Proofs.YtjcmcfidblhnnaaGreatDoor
open Tryz
open Go.Vc
variable {f:List Nat} {applet d:Int} {R k:Nat}
def iL.size (i:iL):Nat:=if i.op=43 then 4 else 2
def jY (l:List iL):Nat:=(l.map iL.size).sum
def qW (reg u:Int):Nat->List iL
 | 0=>[]
 | k+1=>⟨1,reg,0,reg,8,0⟩::(if u / 256 ^ k % 256 > 0 then [⟨10,reg,0,0,u / 256 ^ k % 256,0⟩] else [])++qW reg u k
def tF (u:Int):Nat:=if u / 16777216≠0 then 3 else if u / 65536≠0 then 2 else if u / 256≠0 then 1 else 0
def tC (reg n:Int):List iL:=let u:=n % 4294967296;⟨8,reg,0,0,u / 256 ^ tF u,0⟩::qW reg u (tF u)
def pC (f:Nat) (a b:Int):List iL:=[⟨if f > 0 then 43 else 42,0,0,0,b - a - 4,0⟩]
def HV (c:Int):Int:=if c % 2=0 then c+1 else c - 1
def mZ (c:Int) (f:Nat) (a b:Int):List iL:=
 if c=14 then pC f a b else match f with
  | 0=>[⟨41,0,0,0,b - a - 4,c⟩]
  | g+1=>⟨41,0,0,0,(if g > 0 then 4 else 2) - 2,HV c⟩::pC g (a+2) b
def uG (c:Int):Nat:=if c=14 then 1 else 2
def cO.size (x:cO) (f:Nat):Nat:=
 match x with
 | .one i=>i.size
 | .place _=>0
 | .jump _ _=>2+2*f
 | .load r n=>jY (tC r n)
def tI (l:List cO) (f:List Nat) (k:Nat):Nat:=((List.zipWith cO.size l f).take k).sum
def yT (l:List cO) (f:List Nat) (q:Int):Nat->Int
 | 0=>-1
 | k+1=>match l[k]? with
  | some (.place q')=>if q'=q then (tI l f k:Int) else yT l f q k
  | _=>yT l f q k
def EA (l:List cO) (f:List Nat) (q:Int):Int:=yT l f q l.length
def jH (l:List cO) (f:List Nat) (k:Nat):Bool:=
 match l[k]? with
 | some (.jump c q)=>(mZ c (f.getD k 0) (tI l f k) (EA l f q)).all dB
 | _=>true
def sK (l:List cO) (f:List Nat):List Nat:=(List.range f.length).map λk=>if jH l f k then f.getD k 0 else f.getD k 0+1
structure AV (l:List cO) (f:List Nat):Prop where
 len:f.length=l.length
 jump:∀ k c q,l[k]?=some (.jump c q)->f.getD k 0<=uG c
 other:∀ k,(∀ c q,l[k]?≠some (.jump c q))->f.getD k 0=0
theorem TE (l:List iL):jY l % 2=0:=by
 induction l with
 | nil=>rfl
 | cons x l ih=>
  have h:x.size % 2=0:=by unfold iL.size;split<;>rfl
  unfold jY at *;rw [List.map_cons,List.sum_cons];omega
theorem aCq (x:cO) (f:Nat):x.size f % 2=0:=by
 cases x with
 | one i=>show i.size % 2=0;unfold iL.size;split<;>rfl
 | place l=>rfl
 | jump c l=>show (2+2*f) % 2=0;omega
 | load r n=>exact TE _
theorem LK:∀ l:List Nat,(∀ x∈l,x % 2=0)->l.sum % 2=0
 | [],_=>rfl
 | x::l,h=>by
  have:=LK l λy hy=>h y (List.mem_cons_of_mem _ hy);have:=h x List.mem_cons_self;rw [List.sum_cons];omega
theorem JP:∀ {l:List cO} {f:List Nat} {y:Nat},y∈List.zipWith cO.size l f->∃ x∈l,∃ g∈f,y=cO.size x g
 | [],_,_,h=>by simp at h
 | _::_,[],_,h=>by simp at h
 | x::l,g::f,y,h=>by
  rw [List.zipWith_cons_cons] at h;rcases List.mem_cons.1 h with h|h
  ·exact ⟨x,List.mem_cons_self,g,List.mem_cons_self,h⟩
  ·obtain ⟨x',h1,g',h2,h3⟩:=JP h;exact ⟨x',List.mem_cons_of_mem _ h1,g',List.mem_cons_of_mem _ h2,h3⟩
theorem OG (l:List cO) (f:List Nat) (k:Nat):tI l f k % 2=0:=LK _ λy hy=>by
 obtain ⟨x,_,g,_,rfl⟩:=JP (List.mem_of_mem_take hy);exact aCq x g
theorem DY (r u:Int):∀ k,jY (qW r u k)<=4*k
 | 0=>Nat.le_refl _
 | k+1=>by
  have ih:=DY r u k;unfold qW;split<;>simp [jY,iL.size] at*<;> omega
theorem NN (u:Int):tF u<=3:=by unfold tF;split;omega;split;omega;split<;>omega
theorem HF (r n:Int):jY (tC r n)<=14:=by
 have h1:=DY r (n % 4294967296) (tF (n % 4294967296));have h2:=NN (n % 4294967296);simp [tC,jY,iL.size] at *;omega
theorem aHr (c:Int):uG c<=2:=by unfold uG;split<;>omega
theorem AV.le2 {l:List cO} (h:AV l f) (k:Nat):f.getD k 0<=2:=by
 cases hk:l[k]? with
 | none=>rw [h.other k λc q=>(by rw [hk];exact nofun)];omega
 | some x=>
  by_cases hx:∃ c q,x=.jump c q
  ·obtain ⟨c,q,rfl⟩:=hx;exact Nat.le_trans (h.jump k c q hk) (aHr c)
  ·rw [h.other k λc q=>(by rw [hk];intro he;injection he with he;exact hx ⟨c,q,he⟩)];omega
theorem aQg (x:cO) {f:Nat} (h:f<=2):x.size f<=14:=by
 cases x with
 | one i=>show i.size<=14;unfold iL.size;split<;>omega
 | place l=>exact Nat.zero_le _
 | jump c l=>show 2+2*f<=14;omega
 | load r n=>exact HF r n
theorem AV.mem2 {l:List cO} (h:AV l f):∀ g∈f,g<=2:=λg hg=>by
 obtain ⟨k,hk,rfl⟩:=List.getElem_of_mem hg;have:=h.le2 k
 rwa [List.getD_eq_getElem?_getD,List.getElem?_eq_getElem hk] at this
theorem LJ:∀ l:List Nat,(∀ x∈l,x<=14)->l.sum<=14*l.length
 | [],_=>Nat.le_refl _
 | x::l,h=>by
  have:=LJ l λy hy=>h y (List.mem_cons_of_mem _ hy);have:=h x List.mem_cons_self;rw [List.sum_cons,List.length_cons];omega
theorem AV.at_le {l:List cO} (h:AV l f) (k:Nat):tI l f k<=14*l.length:=by
 refine Nat.le_trans (LJ _ λy hy=>?_) ?_
 ·obtain ⟨x,_,g,hg,rfl⟩:=JP (List.mem_of_mem_take hy);exact aQg x (h.mem2 g hg)
 ·rw [List.length_take,List.length_zipWith];omega
theorem aIf {l:List cO} (h:AV l f) {q:Int} (hq:q∈kH l):0<=EA l f q/\EA l f q<=14*l.length/\EA l f q % 2=0:=by
 obtain ⟨x,hx,hq⟩:=List.mem_flatMap.1 hq;obtain ⟨k,hk,rfl⟩:=List.getElem_of_mem hx
 have hx:l[k]?=some (.place q):=by
  rw [List.getElem?_eq_getElem hk];cases hc:l[k] with
  | place p=>rw [hc] at hq;simp only [cO.pl,List.mem_singleton] at hq;rw [hq]
  | _=>rw [hc] at hq;cases hq
 have key:∀ j,k < j->0<=yT l f q j/\yT l f q j<=14*l.length/\yT l f q j % 2=0:=λj=>by
  induction j with
  | zero=>omega
  | succ j ih=>
   intro hj;have ha:=h.at_le j;have hb:=OG l f j;unfold yT;by_cases hjk:k=j
   ·subst hjk;rw [hx];simp only [if_true];omega
   ·have ih:=ih (by omega);split
    ·split
     ·omega
     ·exact ih
    ·exact ih
 exact key _ hk
theorem LW (h0:-16777216<=d) (h1:d<=16777214) (h2:d % 2=0):dB ⟨43,0,0,0,d,0⟩=true:=by
 have:d.tmod 2=0:=Int.tmod_eq_zero_of_dvd (Int.dvd_of_emod_eq_zero h2);simp [dB,h0,h1,this]
theorem aGi {c:Int} (h0:-256<=d) (h1:d<=254) (h2:d % 2=0) (h3:0<=c/\c<=13):dB ⟨41,0,0,0,d,c⟩=true:=by
 have e:d.tmod 2=0:=Int.tmod_eq_zero_of_dvd (Int.dvd_of_emod_eq_zero h2);have hf:dH 41=some (0xd000,[bL 0 8 (-256) 254 2,⟨4,8,4,0,13,1⟩]):=rfl;unfold dB;rw [if_neg (by dsimp only;decide),if_neg (by dsimp only;decide)];dsimp only;rw [hf];have a0:=cB (sl:=[bL 0 8 (-256) 254 2,⟨4,8,4,0,13,1⟩]) (i:=⟨41,0,0,0,d,c⟩) (k:=0) rfl rfl;have a1:=cB (sl:=[bL 0 8 (-256) 254 2,⟨4,8,4,0,13,1⟩]) (i:=⟨41,0,0,0,d,c⟩) (k:=1) rfl rfl;have a2:=cB (sl:=[bL 0 8 (-256) 254 2,⟨4,8,4,0,13,1⟩]) (i:=⟨41,0,0,0,d,c⟩) (k:=2) rfl rfl;have a3:=eD (sl:=[bL 0 8 (-256) 254 2,⟨4,8,4,0,13,1⟩]) (i:=⟨41,0,0,0,d,c⟩) (k:=3) (s:=bL 0 8 (-256) 254 2) rfl h0 h1 e;have a4:=eD (sl:=[bL 0 8 (-256) 254 2,⟨4,8,4,0,13,1⟩]) (i:=⟨41,0,0,0,d,c⟩) (k:=4) (s:=⟨4,8,4,0,13,1⟩) rfl h3.1 h3.2 (Int.tmod_one _);dsimp only;rw [a0,a1,a2,a3,a4];rfl
theorem TJ {l:List cO} (hl:uK l) (h:AV l f) {c q:Int} (hk:l[k]?=some (.jump c q)) (hf:f.getD k 0=uG c):jH l f k=true:=by
 have h1:=h.at_le k;have h2:=OG l f k;have hm:cO.jump c q∈l:=List.mem_of_getElem? hk;have hq:q∈tU l:=List.mem_flatMap.2 ⟨_,hm,List.mem_singleton.2 rfl⟩;obtain ⟨h3,h4,h5⟩:=aIf h (hl.jl q hq);have h6:=hl.len;obtain ⟨-,hc0,hc1⟩:cO.okI (.jump c q):=hl.ok _ hm;unfold jH;rw [hk];dsimp only;rw [hf];unfold mZ uG;by_cases hc:c=14
 ·simp only [hc,if_true];simp only [pC,List.all_cons,List.all_nil,Bool.and_true];exact LW (by omega) (by omega) (by omega)
 ·simp only [hc,if_false,pC,List.all_cons,List.all_nil,Bool.and_true,Bool.and_eq_true];refine ⟨aGi (by simp) (by simp) (by simp) ?_,LW (by omega) (by omega) (by omega)⟩;unfold HV;split<;>omega
theorem nK (l:List cO) (f:List Nat):(sK l f).length=f.length:=by simp [sK]
theorem pO (l:List cO) (f:List Nat) (hk:k < f.length):(sK l f).getD k 0=if jH l f k then f.getD k 0 else f.getD k 0+1:=by
 rw [List.getD_eq_getElem?_getD,sK,List.getElem?_map,List.getElem?_range hk];rfl
theorem AV.grow {l:List cO} (hl:uK l) (h:AV l f):AV l (sK l f):=by
 refine ⟨by rw [nK,h.len],λk c q hk=>?_,λk hk=>?_⟩
 ·have hlt:k < f.length:=by rw [h.len];exact (List.getElem?_eq_some_iff.1 hk).1
  rw [pO l f hlt];have h1:=h.jump k c q hk;split
  ·exact h1
  ·rename_i hr
   by_cases he:f.getD k 0=uG c
   ·exact absurd (TJ hl h hk he) hr
   ·omega
 ·by_cases hlt:k < f.length
  ·rw [pO l f hlt]
   have h1:jH l f k=true:=by
    unfold jH;split
    ·rename_i c q he;exact absurd he (hk c q)
    ·rfl
   rw [h1,if_pos rfl];exact h.other k hk
  ·rw [List.getD_eq_getElem?_getD,List.getElem?_eq_none (by rw [nK];omega)];rfl
def MV (f:List Nat):Nat:=(f.map λg=>3 - g).sum
theorem IZ:∀ (a b:List Nat),a.length=b.length->(∀ k,a.getD k 0<=b.getD k 0)->(∃ k,k < a.length/\a.getD k 0 < b.getD k 0)->a.sum < b.sum
 | [],[],_,_,h=>by obtain ⟨k,h,_⟩:=h;cases h
 | [],_::_,h,_,_=>by cases h
 | _::_,[],h,_,_=>by cases h
 | x::a,y::b,hl,hle,⟨k,hk,hlt⟩=>by
  have h0:x<=y:=hle 0;rw [List.sum_cons,List.sum_cons];have hl':a.length=b.length:=by simpa using hl
  have hle':∀ k,a.getD k 0<=b.getD k 0:=λk=>hle (k+1)
  have sle:∀ (a b:List Nat),a.length=b.length->(∀ k,a.getD k 0<=b.getD k 0)->a.sum<=b.sum:=λa=>by
   induction a with
   | nil=>intro b _ _;exact Nat.zero_le _
   | cons x a ih=>
    intro b hb hh;cases b with
    | nil=>cases hb
    | cons y b=>
     have:=ih b (by simpa using hb) λk=>hh (k+1);have:x<=y:=hh 0;rw [List.sum_cons,List.sum_cons];omega
  cases k with
  | zero=>
   have h1:x < y:=hlt;have:=sle a b hl' hle';omega
  | succ k=>
   have:=IZ a b hl' hle' ⟨k,by simpa using hk,hlt⟩;omega
theorem aIb {l:List cO} (hl:uK l) (h:AV l f) (hg:∃ k,k < l.length/\jH l f k=false):MV (sK l f) < MV f:=by
 have get:∀ (f:List Nat) k,k < f.length->(f.map λg=>3 - g).getD k 0=3 - f.getD k 0:=λf k hk=>by
  rw [List.getD_eq_getElem?_getD,List.getElem?_map,List.getD_eq_getElem?_getD,List.getElem?_eq_getElem hk];rfl
 refine IZ _ _ (by simp [nK]) (λk=>?_) ?_
 ·by_cases hk:k < f.length
  ·rw [get _ k (by rw [nK];exact hk),get f k hk,pO l f hk];split<;>omega
  ·rw [List.getD_eq_getElem?_getD,List.getElem?_eq_none (by simp [nK];omega)];exact Nat.zero_le _
 ·obtain ⟨k,hk,hr⟩:=hg;rw [<- h.len] at hk;refine ⟨k,by simpa [nK] using hk,?_⟩;rw [get _ k (by rw [nK];exact hk),get f k hk,pO l f hk,hr];have:=(h.grow hl).le2 k;rw [pO l f hk,hr] at this;simp only [Bool.false_eq_true,if_false] at *;omega
def cO.top:cO->Nat
 | .one _=>2
 | .place _=>0
 | .jump _ _=>6
 | .load _ _=>14
def oL (l:List cO):Nat:=(l.map cO.top).sum
theorem qH (a b:List cO):oL (a++b)=oL a+oL b:=by unfold oL;rw [List.map_append,List.sum_append]
theorem zW (x:cO) (l:List cO):oL (x::l)=x.top+oL l:=by unfold oL;rw [List.map_cons,List.sum_cons]
theorem aHi {i:iL} (h:i.okT):i.size=2:=by
 unfold iL.size;rw [if_neg];rcases h with h|h|h|h|h|h|h<;>omega
theorem aRc {x:cO} {f:Nat} (h:x.okI) (hf:f<=2):x.size f<=x.top:=by
 cases x with
 | one i=>exact Nat.le_of_eq (aHi h)
 | place l=>exact Nat.le_refl _
 | jump c l=>show 2+2*f<=6;omega
 | load r n=>exact HF r n
theorem VT:∀ (l:List cO) (f:List Nat),(∀ x∈l,x.okI)->(∀ g∈f,g<=2)->∀ k,((List.zipWith cO.size l f).take k).sum<=oL l
 | _,_,_,_,0=>by rw [List.take_zero];exact Nat.zero_le _
 | [],_,_,_,k+1=>by simp
 | _::_,[],_,_,k+1=>by simp
 | x::l,g::f,h,hf,k+1=>by
  have ih:=VT l f (λy hy=>h y (List.mem_cons_of_mem _ hy)) (λy hy=>hf y (List.mem_cons_of_mem _ hy)) k;have:=aRc (h x List.mem_cons_self) (hf g List.mem_cons_self);rw [List.zipWith_cons_cons,List.take_succ_cons,List.sum_cons,zW];omega
theorem AV.at_top {l:List cO} (hl:uK l) (h:AV l f) (k:Nat):tI l f k<=oL l:=VT l f hl.ok h.mem2 k
theorem CX:∀ l:List cO,(∀ x∈l,∃ i,x=.one i)->oL l=2*l.length
 | [],_=>rfl
 | x::l,h=>by
  have ih:=CX l λy hy=>h y (List.mem_cons_of_mem _ hy);obtain ⟨i,rfl⟩:=h x List.mem_cons_self;rw [zW,ih,List.length_cons];show 2+_=_;omega
theorem aSh (of:List Int) (reg r:Int):∃ i,eLd of reg r=.one i:=by unfold eLd;by_cases h:of.getD r.toNat 0 < 16<;>simp only [h,if_true,if_false]<;>exact ⟨_,rfl⟩
theorem YF (of:List Int) (r reg:Int):∃ i,eSt of r reg=.one i:=by unfold eSt;by_cases h:of.getD r.toNat 0 < 16<;>simp only [h,if_true,if_false]<;>exact ⟨_,rfl⟩
theorem aJq (of:List Int) (l:List Int):oL (jU of l)=2*l.length:=by
 rw [CX]
 ·simp [jU]
 ·intro x hx;simp only [jU,List.mem_map] at hx;obtain ⟨k,-,rfl⟩:=hx;exact aSh _ _ _
theorem aJs (of:List Int) (n:aD):oL (vW of n)<=2:=by
 unfold vW;split
 ·obtain ⟨i,h⟩:=YF of n.df 0;rw [h];exact Nat.le_refl _
 ·exact Nat.zero_le _
theorem aJu (op:Int):oL (oZ op)<=24:=by
 unfold oZ
 repeat' split
 all_goals simp [oL,cO.top,iP,pQ,jK,rW,rX,lR]
theorem aSg (op:Int):oL (eUn op)<=6:=by
 unfold eUn
 repeat' split
 all_goals simp [oL,cO.top,iP,jK,rW,rX]
theorem aEe {of:List Int} {N tl:Nat} {n:aD} (hn:pV n k R N):oL (pH of N applet tl n k)<=36:=by
 have h5:=hn.us5;have hl:=aJq of n.us;have hd:=aJs of n;unfold pH;rw [qH];have hc:oL lC=10:=rfl;have ht:∀ l,oL (nC l)=12:=λ_=>rfl;cases n with
 | bin op d a b=>
  have hb:=aJu op;have hu:(aD.bin op d a b).us.length=2:=rfl;dsimp only;rw [qH];omega
 | un op d a=>have hb:=aSg op;dsimp only;rw [qH];omega
 | choose d c a b=>dsimp only;rw [qH,hc];omega
 | tick=>dsimp only;rw [ht];omega
 | const d v=>have e:oL [cO.load 0 v]=14:=rfl;dsimp only;rw [e];omega
 | goto t=>have e:oL [cO.jump 14 t]=6:=rfl;dsimp only;rw [e];omega
 | branch c t=>have e:oL [jK 9 0 0,.jump 1 t]=8:=rfl;dsimp only;rw [qH,e];omega
 | getField d f=>have e:oL [uA applet,.one ⟨31,0,1,0,4*f,0⟩]=16:=rfl;dsimp only;rw [e];omega
 | putField f s=>have e:oL [uA applet,.one ⟨32,0,1,0,4*f,0⟩]=16:=rfl;dsimp only;rw [qH,e];omega
 | _=>first
  | (dsimp only;omega)
  | (have e:oL [cO.one ⟨44,0,0,0,(tl:Int)+1,0⟩]=2:=rfl;dsimp only;rw [qH,e];omega)
theorem AM {p:fU} {of:List Int} {R N:Nat} {applet:Int} (hv:lA p) (hR:p.regs=R) (hN:p.nodes.length=N):∀ k,k<=N->oL (gN p of applet k).1<=8+36*k
 | 0,_=>by
  have hp1:=hv.p1;have hp2:=hv.p2;have hp3:=hv.p3;rw [CX]
  ·simp [gN];omega
  ·intro x hx;simp only [gN,List.mem_map] at hx;obtain ⟨k,-,rfl⟩:=hx;exact YF _ _ _
 | k+1,hk=>by
  have ih:=AM (of:=of) (applet:=applet) hv hR hN k (by omega);obtain ⟨hpk,hrk⟩:=hv.at (k:=k) (by omega);rw [hR,hN] at hrk;have hn:=aEe (of:=of) (applet:=applet) (tl:=(gN p of applet k).2.length) hrk;have e1:(gN p of applet (k+1)).1=(gN p of applet k).1++.place k::pH of N applet (gN p of applet k).2.length (p.at' k) k:=by rw [<- hN];rfl
  rw [e1,qH,zW];show _+(0+_)<=_;omega
theorem aEc {p:fU} {of:List Int} (hv:lA p) (hR:p.regs=R):oL (nB p of applet)<=16384:=by
 have:=AM (of:=of) (applet:=applet) hv hR rfl p.nodes.length (Nat.le_refl _);have:=hv.l2;unfold nB;omega
end Go.Proofs.YtjcmcfidblhnnaaGreatDoor
namespace Go.Proofs.YtjcmcfidblhnnaaGreatDoor
open Tryz
open Go.Vc Go.Tc
theorem HI (i:iA) (m:jR) (st:Go.Tc.St) (r:List Bool):∀ k,(aW i m st r k).1.length<=m.locals.length+2*k
 | 0=>by simp [aW]
 | k+1=>by
  have ih:=HI i m st r k;unfold aW;dsimp only;split
  ·have:(iH i m (m.ins k) (st.s k).length).toList.length<=1:=by cases iH i m (m.ins k) (st.s k).length<;>simp
   rw [List.length_append,List.length_cons];omega
  ·exact Nat.le_trans ih (by omega)
theorem aDq (i:iA) (m:jR) (st:Go.Tc.St) (r:List Bool):(lS i m st r).length<=m.locals.length+2*m.code.length:=by
 have:=HI i m st r m.code.length;unfold lS;dsimp only;rw [List.length_map];exact this
theorem aDp {p:fU} {of:List Int} {R L C:Nat} {applet:Int} (hv:lA p) (hR:p.regs=R) (hl:p.nodes.length<=L+2*C) (hL:L<=10):oL (nB p of applet)+4<=512+96*C:=by
 have:=AM (of:=of) (applet:=applet) hv hR rfl p.nodes.length (Nat.le_refl _);unfold nB;omega
end Go.Proofs.YtjcmcfidblhnnaaGreatDoor
namespace Go.Proofs.YtjcmcfidblhnnaaGreatDoor
open Tryz
open Go.Vc
variable {r:Int × List jX} {d n:Int} {a f k:Nat}
def iL.set (i:iL) (k v:Int):iL:=if k=0 then { i with d:=v } else if k=1 then { i with n:=v } else if k=2 then { i with m:=v } else if k=3 then { i with imm:=v } else { i with cond:=v }
def TO (h:Nat) (s:jX) (n:Int):Nat:=h ||| (((n.tdiv s.step) % ((2 ^ s.bits.toNat:Nat):Int)).toNat <<< s.shift.toNat)
def BT (r:Int × List jX) (i:iL):Nat:=r.2.foldl (λh s=>TO h s (i.part s.part)) r.1.toNat
def bBp (s:jX):Nat:=(2 ^ s.bits.toNat - 1) <<< s.shift.toNat
def aGn (h:Nat) (x:iL × Nat) (s:jX):iL × Nat:=
 let n:Int:=(((h &&& bBp s) >>> s.shift.toNat:Nat):Int)*s.step
 let g:Int:=s.step*((2 ^ s.bits.toNat:Nat):Int)
 (x.1.set s.part (if n > s.most then n - g else if n < s.least then n+g else n),x.2 &&& (65535 - bBp s))
def bNj (h:Nat):Int:=if h >>> 7=0xb000 >>> 7 then 37 else if h >>> 7=0xb080 >>> 7 then 38 else if h >>> 9=0xb400 >>> 9 then 39 else if h >>> 9=0xbc00 >>> 9 then 40 else 45
def opN (h:Nat):Int:=
 let f:=h >>> 11
 if f<=2 then 1+f else if f=3 then 4+((h >>> 9 &&& 3:Nat):Int) else if f<=7 then 8+((f:Int) - 4) else if f=8 then 12+((h >>> 6 &&& 15:Nat):Int)
 else if f=10 then 30 else if f=11 then 29 else if f=12 then 32 else if f=13 then 31 else if f=14 then 34 else if f=15 then 33 else if f=18 then 36 else if f=19 then 35
 else if f=22\/f=23 then bNj h else if f=26\/f=27 then (if h >>> 8=0xdf then 44 else 41) else if f=28 then 42 else 0
def iL.eqB (a b:iL):Bool:=decide (a.op=b.op)&&decide (a.d=b.d)&&decide (a.n=b.n)&&decide (a.m=b.m)&&decide (a.imm=b.imm)&&decide (a.cond=b.cond)
theorem iL.of_eqB {a b:iL} (h:a.eqB b=true):a=b:=by
 obtain ⟨a1,a2,a3,a4,a5,a6⟩:=a;obtain ⟨b1,b2,b3,b4,b5,b6⟩:=b;simp only [iL.eqB,Bool.and_eq_true,decide_eq_true_eq] at h;obtain ⟨⟨⟨⟨⟨h1,h2⟩,h3⟩,h4⟩,h5⟩,h6⟩:=h;rw [h1,h2,h3,h4,h5,h6]
def vC (r:Int × List jX) (i:iL):Bool:=
 let h:=BT r i
 let x:=r.2.foldl (aGn h) (⟨i.op,0,0,0,0,0⟩,h)
 decide (h < 65536)&&decide (h >>> 11≠30)&&decide (h >>> 8≠70)&&decide (opN h=i.op)&&decide (x.2=r.1.toNat)&&x.1.eqB i
structure bJy (r:Int × List jX) (i:iL):Prop where
 lt:BT r i < 65536
 bl:BT r i >>> 11≠30
 mov:BT r i >>> 8≠70
 op:opN (BT r i)=i.op
 read:r.2.foldl (aGn (BT r i)) (⟨i.op,0,0,0,0,0⟩,BT r i)=(i,r.1.toNat)
theorem bJy.of {i:iL} (h:vC r i=true):bJy r i:=by
 simp only [vC,Bool.and_eq_true,decide_eq_true_eq] at h;obtain ⟨⟨⟨⟨⟨h1,h2⟩,h3⟩,h4⟩,h5⟩,h6⟩:=h;exact ⟨h1,h2,h3,h4,Prod.ext (iL.of_eqB h6) h5⟩
def GG (n:Nat) (f:Nat->Bool):Bool:=(List.range n).all f
def AR (n m:Nat) (f:Nat->Nat->Bool):Bool:=GG n λa=>GG m (f a)
theorem oR {n:Nat} {f:Nat->Bool} (h:GG n f=true) (hk:k < n):f k=true:=List.all_eq_true.1 h k (List.mem_range.2 hk)
theorem kC {n m:Nat} {f:Nat->Nat->Bool} (h:AR n m f=true) {b:Nat} (ha:a < n) (hb:b < m):f a b=true:=oR (oR h ha) hb
theorem c4:(AR 8 8 λa b=>AR 2 8 λo c=>vC (0x1800+512*(o:Int),[aT 0 0,aT 1 3,aT 2 6]) ⟨4+o,a,b,c,0,0⟩)=true:=by kernel_rfl
theorem c8:(AR 4 8 λo a=>GG 256 λb=>vC (0x2000+o*2048,[aT 0 8,bL 0 8 0 255 1]) ⟨8+o,a,0,0,b,0⟩)=true:=by kernel_rfl
theorem c12:(AR 8 8 λa b=>GG 16 λo=>vC (0x4000+o*64,[aT 0 0,aT 2 3]) ⟨12+o,a,0,b,0,0⟩)=true:=by kernel_rfl
theorem c31:(AR 8 8 λa b=>AR 2 32 λo c=>vC (0x6800 - 0x800*(o:Int),[aT 0 0,aT 1 3,bL 6 5 0 124 4]) ⟨31+o,a,b,0,4*c,0⟩)=true:=by kernel_rfl
theorem c35:(AR 8 256 λa c=>GG 2 λo=>vC (0x9800 - 0x800*(o:Int),[aT 0 8,bL 0 8 0 1020 4]) ⟨35+o,a,0,0,4*c,0⟩)=true:=by kernel_rfl
theorem c44:(GG 256 λc=>vC (0xdf00,[bL 0 8 0 255 1]) ⟨44,0,0,0,c,0⟩)=true:=by kernel_rfl
theorem c1:(AR 8 8 λa b=>GG 32 λc=>vC (0,[aT 0 0,aT 2 3,bL 6 5 0 31 1]) ⟨1,a,0,b,c,0⟩)=true:=by kernel_rfl
theorem c41:(AR 256 14 λa c=>vC (0xd000,[bL 0 8 (-256) 254 2,⟨4,8,4,0,13,1⟩]) ⟨41,0,0,0,2*(a:Int) - 256,c⟩)=true:=by kernel_rfl
theorem c42:(GG 2048 λa=>vC (0xe000,[bL 0 11 (-2048) 2046 2]) ⟨42,0,0,0,2*(a:Int) - 2048,0⟩)=true:=by kernel_rfl
theorem kB {sl:List jX} {i:iL} {k:Int} {s:jX} (h:jW sl i k=true) (hf:sl.find? (λs=>decide (s.part=k))=some s):s.least<=i.part k/\i.part k<=s.most/\(i.part k).tmod s.step=0:=by
 unfold jW at h;rw [hf] at h;simpa [and_assoc] using h
theorem gF {sl:List jX} {i:iL} {k:Int} (h:jW sl i k=true) (hf:sl.find? (λs=>decide (s.part=k))=none):i.part k=0:=by
 unfold jW at h;rw [hf] at h;simpa using h
theorem kS {i:iL} (h:dB i=true) (hf:dH i.op=some r) (h1:i.op≠28) (h2:i.op≠43):jW r.2 i 0=true/\jW r.2 i 1=true/\jW r.2 i 2=true/\jW r.2 i 3=true/\jW r.2 i 4=true:=by
 unfold dB at h;rw [if_neg h1,if_neg h2,hf] at h;simpa [and_assoc] using h
theorem kX {a:Int} (h:0<=a):∃ k:Nat,a=k:=⟨a.toNat,by omega⟩
def vH (op:Int):Prop:=op=1\/op=4\/op=5\/(8<=op/\op<=27)\/op=31\/op=32\/op=35\/op=36\/op=41\/op=42\/op=44
theorem YT {i:iL} (h:dB i=true) (ho:vH i.op):∃ r,dH i.op=some r/\bJy r i:=by
 obtain ⟨op,d,n,m,imm,cond⟩:=i;dsimp only at ho ⊢
 have three:∀ b sl,dH op=some (b,sl)->sl=[aT 0 0,aT 1 3,aT 2 6]->op≠28->op≠43->∃ a1 a2 a3:Nat,(a1 < 8/\a2 < 8/\a3 < 8)/\d=a1/\n=a2/\m=a3/\imm=0/\cond=0:=λb sl hf hs e1 e2=>by
  subst hs;obtain ⟨p0,p1,p2,p3,p4⟩:=kS h hf e1 e2;have q0:0<=d/\d<=7/\d.tmod 1=0:=kB p0 (s:=aT 0 0) rfl;have q1:0<=n/\n<=7/\n.tmod 1=0:=kB p1 (s:=aT 1 3) rfl;have q2:0<=m/\m<=7/\m.tmod 1=0:=kB p2 (s:=aT 2 6) rfl;have q3:imm=0:=gF p3 rfl;have q4:cond=0:=gF p4 rfl;obtain ⟨a1,rfl⟩:=kX q0.1;obtain ⟨a2,rfl⟩:=kX q1.1;obtain ⟨a3,rfl⟩:=kX q2.1;exact ⟨a1,a2,a3,⟨by omega,by omega,by omega⟩,rfl,rfl,rfl,q3,q4⟩
 have mem:∀ b sl,dH op=some (b,sl)->sl=[aT 0 0,aT 1 3,bL 6 5 0 124 4]->op≠28->op≠43->∃ a1 a2 a3:Nat,(a1 < 8/\a2 < 8/\a3 < 32)/\d=a1/\n=a2/\m=0/\imm=4*(a3:Int)/\cond=0:=λb sl hf hs e1 e2=>by
  subst hs;obtain ⟨p0,p1,p2,p3,p4⟩:=kS h hf e1 e2;have q0:0<=d/\d<=7/\d.tmod 1=0:=kB p0 (s:=aT 0 0) rfl;have q1:0<=n/\n<=7/\n.tmod 1=0:=kB p1 (s:=aT 1 3) rfl;have q3:0<=imm/\imm<=124/\imm.tmod 4=0:=kB p3 (s:=bL 6 5 0 124 4) rfl;have q2:m=0:=gF p2 rfl;have q4:cond=0:=gF p4 rfl;obtain ⟨a1,rfl⟩:=kX q0.1;obtain ⟨a2,rfl⟩:=kX q1.1;have hm:=Int.dvd_of_tmod_eq_zero q3.2.2;exact ⟨a1,a2,(imm / 4).toNat,⟨by omega,by omega,by omega⟩,rfl,rfl,q2,by omega,q4⟩
 have stk:∀ b sl,dH op=some (b,sl)->sl=[aT 0 8,bL 0 8 0 1020 4]->op≠28->op≠43->∃ a1 a3:Nat,(a1 < 8/\a3 < 256)/\d=a1/\n=0/\m=0/\imm=4*(a3:Int)/\cond=0:=λb sl hf hs e1 e2=>by
  subst hs;obtain ⟨p0,p1,p2,p3,p4⟩:=kS h hf e1 e2;have q0:0<=d/\d<=7/\d.tmod 1=0:=kB p0 (s:=aT 0 8) rfl;have q3:0<=imm/\imm<=1020/\imm.tmod 4=0:=kB p3 (s:=bL 0 8 0 1020 4) rfl;have q1:n=0:=gF p1 rfl;have q2:m=0:=gF p2 rfl;have q4:cond=0:=gF p4 rfl;obtain ⟨a1,rfl⟩:=kX q0.1;have hm:=Int.dvd_of_tmod_eq_zero q3.2.2;exact ⟨a1,(imm / 4).toNat,⟨by omega,by omega⟩,rfl,q1,q2,by omega,q4⟩
 rcases ho with rfl|rfl|rfl|⟨g1,g2⟩|rfl|rfl|rfl|rfl|rfl|rfl|rfl
 ·have hf:dH 1=some (0,[aT 0 0,aT 2 3,bL 6 5 0 31 1]):=rfl;refine ⟨_,hf,?_⟩;obtain ⟨p0,p1,p2,p3,p4⟩:=kS h hf (by dsimp only;decide) (by dsimp only;decide);have q0:0<=d/\d<=7/\d.tmod 1=0:=kB p0 (s:=aT 0 0) rfl;have q2:0<=m/\m<=7/\m.tmod 1=0:=kB p2 (s:=aT 2 3) rfl;have q3:0<=imm/\imm<=31/\imm.tmod 1=0:=kB p3 (s:=bL 6 5 0 31 1) rfl;have q1:n=0:=gF p1 rfl;have q4:cond=0:=gF p4 rfl;obtain ⟨a1,rfl⟩:=kX q0.1;obtain ⟨a2,rfl⟩:=kX q2.1;obtain ⟨a3,rfl⟩:=kX q3.1;subst q1 q4;exact .of (oR (kC c1 (a:=a1) (b:=a2) (by omega) (by omega)) (k:=a3) (by omega))
 ·obtain ⟨a1,a2,a3,⟨k1,k2,k3⟩,rfl,rfl,rfl,rfl,rfl⟩:=three _ _ rfl rfl (by decide) (by decide);exact ⟨_,rfl,.of (kC (kC c4 k1 k2) (a:=0) (b:=a3) (by decide) k3)⟩
 ·obtain ⟨a1,a2,a3,⟨k1,k2,k3⟩,rfl,rfl,rfl,rfl,rfl⟩:=three _ _ rfl rfl (by decide) (by decide);exact ⟨_,rfl,.of (kC (kC c4 k1 k2) (a:=1) (b:=a3) (by decide) k3)⟩
 ·by_cases g3:op<=11
  ·have hf:dH op=some (0x2000+(op - 8)*2048,[aT 0 8,bL 0 8 0 255 1]):=by unfold dH;rw [if_neg (by omega),if_pos ⟨g1,g3⟩]
   refine ⟨_,hf,?_⟩;obtain ⟨p0,p1,p2,p3,p4⟩:=kS h hf (by dsimp only;omega) (by dsimp only;omega);have q0:0<=d/\d<=7/\d.tmod 1=0:=kB p0 (s:=aT 0 8) rfl;have q3:0<=imm/\imm<=255/\imm.tmod 1=0:=kB p3 (s:=bL 0 8 0 255 1) rfl;have q1:n=0:=gF p1 rfl;have q2:m=0:=gF p2 rfl;have q4:cond=0:=gF p4 rfl;obtain ⟨a1,rfl⟩:=kX q0.1;obtain ⟨a3,rfl⟩:=kX q3.1;subst q1 q2 q4;obtain ⟨o,rfl⟩:∃ o:Nat,op=8+o:=⟨(op - 8).toNat,by omega⟩;have:=oR (kC c8 (a:=o) (b:=a1) (by omega) (by omega)) (k:=a3) (by omega);rw [show (8+(o:Int) - 8)=o from by omega];exact .of this
  ·have hf:dH op=some (0x4000+(op - 12)*64,[aT 0 0,aT 2 3]):=by unfold dH;rw [if_pos ⟨by omega,g2⟩]
   refine ⟨_,hf,?_⟩;by_cases g4:op=28
   ·omega
   obtain ⟨p0,p1,p2,p3,p4⟩:=kS h hf g4 (by dsimp only;omega);have q0:0<=d/\d<=7/\d.tmod 1=0:=kB p0 (s:=aT 0 0) rfl;have q2:0<=m/\m<=7/\m.tmod 1=0:=kB p2 (s:=aT 2 3) rfl;have q1:n=0:=gF p1 rfl;have q3:imm=0:=gF p3 rfl;have q4:cond=0:=gF p4 rfl;obtain ⟨a1,rfl⟩:=kX q0.1;obtain ⟨a2,rfl⟩:=kX q2.1;subst q1 q3 q4;obtain ⟨o,rfl⟩:∃ o:Nat,op=12+o:=⟨(op - 12).toNat,by omega⟩;have:=oR (kC c12 (a:=a1) (b:=a2) (by omega) (by omega)) (k:=o) (by omega);rw [show (12+(o:Int) - 12)=o from by omega];exact .of this
 ·obtain ⟨a1,a2,a3,⟨k1,k2,k3⟩,rfl,rfl,rfl,rfl,rfl⟩:=mem _ _ rfl rfl (by decide) (by decide);exact ⟨_,rfl,.of (kC (kC c31 k1 k2) (a:=0) (b:=a3) (by decide) k3)⟩
 ·obtain ⟨a1,a2,a3,⟨k1,k2,k3⟩,rfl,rfl,rfl,rfl,rfl⟩:=mem _ _ rfl rfl (by decide) (by decide);exact ⟨_,rfl,.of (kC (kC c31 k1 k2) (a:=1) (b:=a3) (by decide) k3)⟩
 ·obtain ⟨a1,a3,⟨k1,k3⟩,rfl,rfl,rfl,rfl,rfl⟩:=stk _ _ rfl rfl (by decide) (by decide);exact ⟨_,rfl,.of (oR (kC c35 k1 k3) (k:=0) (by decide))⟩
 ·obtain ⟨a1,a3,⟨k1,k3⟩,rfl,rfl,rfl,rfl,rfl⟩:=stk _ _ rfl rfl (by decide) (by decide);exact ⟨_,rfl,.of (oR (kC c35 k1 k3) (k:=1) (by decide))⟩
 ·have hf:dH 41=some (0xd000,[bL 0 8 (-256) 254 2,⟨4,8,4,0,13,1⟩]):=rfl;refine ⟨_,hf,?_⟩;obtain ⟨p0,p1,p2,p3,p4⟩:=kS h hf (by dsimp only;decide) (by dsimp only;decide);have q3:(-256)<=imm/\imm<=254/\imm.tmod 2=0:=kB p3 (s:=bL 0 8 (-256) 254 2) rfl;have q4:0<=cond/\cond<=13/\cond.tmod 1=0:=kB p4 (s:=⟨4,8,4,0,13,1⟩) rfl;have q0:d=0:=gF p0 rfl;have q1:n=0:=gF p1 rfl;have q2:m=0:=gF p2 rfl;subst q0 q1 q2;obtain ⟨a4,rfl⟩:=kX q4.1;have hm:=Int.dvd_of_tmod_eq_zero q3.2.2;obtain ⟨a3,rfl⟩:∃ a:Nat,imm=2*(a:Int) - 256:=⟨((imm+256) / 2).toNat,by omega⟩;exact .of (kC c41 (a:=a3) (b:=a4) (by omega) (by omega))
 ·have hf:dH 42=some (0xe000,[bL 0 11 (-2048) 2046 2]):=rfl;refine ⟨_,hf,?_⟩;obtain ⟨p0,p1,p2,p3,p4⟩:=kS h hf (by dsimp only;decide) (by dsimp only;decide);have q3:(-2048)<=imm/\imm<=2046/\imm.tmod 2=0:=kB p3 (s:=bL 0 11 (-2048) 2046 2) rfl;have q0:d=0:=gF p0 rfl;have q1:n=0:=gF p1 rfl;have q2:m=0:=gF p2 rfl;have q4:cond=0:=gF p4 rfl;subst q0 q1 q2 q4;have hm:=Int.dvd_of_tmod_eq_zero q3.2.2;obtain ⟨a3,rfl⟩:∃ a:Nat,imm=2*(a:Int) - 2048:=⟨((imm+2048) / 2).toNat,by omega⟩;exact .of (oR c42 (k:=a3) (by omega))
 ·have hf:dH 44=some (0xdf00,[bL 0 8 0 255 1]):=rfl;refine ⟨_,hf,?_⟩;obtain ⟨p0,p1,p2,p3,p4⟩:=kS h hf (by dsimp only;decide) (by dsimp only;decide);have q3:0<=imm/\imm<=255/\imm.tmod 1=0:=kB p3 (s:=bL 0 8 0 255 1) rfl;have q0:d=0:=gF p0 rfl;have q1:n=0:=gF p1 rfl;have q2:m=0:=gF p2 rfl;have q4:cond=0:=gF p4 rfl;subst q0 q1 q2 q4;obtain ⟨a3,rfl⟩:=kX q3.1;exact .of (oR c44 (k:=a3) (by omega))
def TV (d m:Int):Nat:=0x4600 ||| (d.toNat >>> 3 <<< 7) ||| (m.toNat <<< 3) ||| (d.toNat &&& 7)
def bDq (d m:Nat):Bool:=
 let h:=TV d m
 decide (h < 65536)&&decide (h >>> 11≠30)&&decide (h >>> 8=70)&&decide (((h >>> 7 &&& 1) <<< 3 ||| (h &&& 7))=d)&&decide ((h >>> 3 &&& 15)=m)
theorem c28:AR 15 15 bDq=true:=by kernel_rfl
def cO.codeK (x:cO) (f:Nat) (a:Int) (b:Int->Int):List iL:=
 match x with
 | .one i=>[i]
 | .place _=>[]
 | .jump c q=>mZ c f a (b q)
 | .load r n=>tC r n
def pF (l:List cO) (f:List Nat):Nat->List iL
 | 0=>[]
 | k+1=>pF l f k++match l[k]? with
  | some x=>x.codeK (f.getD k 0) (tI l f k) (EA l f)
  | none=>[]
theorem GP (a b:List iL):jY (a++b)=jY a+jY b:=by unfold jY;rw [List.map_append,List.sum_append]
theorem FG (f:Nat) (a b:Int):jY (pC f a b)=if f > 0 then 4 else 2:=by
 unfold pC jY iL.size;by_cases h:f > 0<;>simp [h]
theorem UD {c:Int} (h:f<=uG c) (a b:Int):jY (mZ c f a b)=2+2*f:=by
 unfold uG at h;unfold mZ;by_cases hc:c=14
 ·rw [if_pos hc] at h;rw [if_pos hc,FG];split<;>omega
 ·rw [if_neg hc] at h;rw [if_neg hc];cases f with
  | zero=>rfl
  | succ g=>
   dsimp only;rw [show ∀ x:iL,x::pC g (a+2) b=[x]++pC g (a+2) b from λ_=>rfl,GP,FG];simp only [jY,List.map_cons,List.map_nil,List.sum_cons,List.sum_nil,iL.size];by_cases hg:g > 0
   ·have:g=1:=by omega
    subst this;rfl
   ·have:g=0:=by omega
    subst this;rfl
theorem VC {x:cO} (h:∀ c q,x=.jump c q->f<=uG c) (a:Int) (b:Int->Int):jY (x.codeK f a b)=x.size f:=by
 cases x with
 | one i=>show jY [i]=i.size;simp [jY]
 | place l=>rfl
 | jump c q=>exact UD (h c q rfl) _ _
 | load r n=>rfl
theorem zL {l:List cO} {f:List Nat} (hf:f.length=l.length) {x:cO} (hx:l[k]?=some x):tI l f (k+1)=tI l f k+x.size (f.getD k 0):=by
 have hk:k < l.length:=(List.getElem?_eq_some_iff.1 hx).1;unfold tI;rw [List.take_add_one,List.sum_append]
 congr 1
 rw [List.getElem?_zipWith,hx,List.getD_eq_getElem?_getD,List.getElem?_eq_getElem (by omega:k < f.length)];simp
theorem IB {l:List cO} {f:List Nat} (h:AV l f):∀ k,k<=l.length->jY (pF l f k)=tI l f k
 | 0,_=>by simp [pF,tI,jY]
 | k+1,hk=>by
  have ih:=IB h k (by omega);have hx:l[k]?=some l[k]:=List.getElem?_eq_getElem (by omega);unfold pF;rw [GP,ih,hx,zL h.len hx];dsimp only;rw [VC];intro c q he;exact h.jump k c q (by rw [hx,he])
theorem DI {op:Int} (ho:8<=op/\op<=11) (hd:AC d) (hn:0<=n/\n<=255):dB ⟨op,d,0,0,n,0⟩=true:=AE (.inr (.inr (.inl ⟨ho,hd,rfl,rfl,hn,rfl⟩)))
theorem aCw {m:Int} (hd:AC d) (hm:AC m):dB ⟨1,d,0,m,8,0⟩=true:=by
 have hf:dH 1=some (0,[aT 0 0,aT 2 3,bL 6 5 0 31 1]):=rfl;unfold dB;rw [if_neg (by dsimp only;decide),if_neg (by dsimp only;decide)];dsimp only;rw [hf];have a0:=eD (sl:=[aT 0 0,aT 2 3,bL 6 5 0 31 1]) (i:=⟨1,d,0,m,8,0⟩) (k:=0) (s:=aT 0 0) rfl hd.1 hd.2 (Int.tmod_one _);have a1:=cB (sl:=[aT 0 0,aT 2 3,bL 6 5 0 31 1]) (i:=⟨1,d,0,m,8,0⟩) (k:=1) rfl rfl;have a2:=eD (sl:=[aT 0 0,aT 2 3,bL 6 5 0 31 1]) (i:=⟨1,d,0,m,8,0⟩) (k:=2) (s:=aT 2 3) rfl hm.1 hm.2 (Int.tmod_one _);have a3:=eD (sl:=[aT 0 0,aT 2 3,bL 6 5 0 31 1]) (i:=⟨1,d,0,m,8,0⟩) (k:=3) (s:=bL 6 5 0 31 1) rfl (show (0:Int)<=8 by decide) (show (8:Int)<=31 by decide) (Int.tmod_one _);have a4:=cB (sl:=[aT 0 0,aT 2 3,bL 6 5 0 31 1]) (i:=⟨1,d,0,m,8,0⟩) (k:=4) rfl rfl;dsimp only;rw [a0,a1,a2,a3,a4];rfl
theorem BC {r u:Int} (hr:AC r):∀ k,∀ i∈qW r u k,dB i=true
 | 0,i,h=>by cases h
 | k+1,i,h=>by
  unfold qW at h;rw [List.mem_append] at h;rcases h with h|h
  ·rcases List.mem_cons.1 h with rfl|h
   ·exact aCw hr hr
   ·split at h
    ·rw [List.mem_singleton] at h;subst h;exact DI (by decide) hr ⟨by omega,by omega⟩
    ·cases h
  ·exact BC hr k i h
theorem aDw {u:Int} (h0:0<=u) (h1:u < 4294967296):0<=u / 256 ^ tF u/\u / 256 ^ tF u<=255:=by
 unfold tF;split
 ·simp only [show (256:Int) ^ 3=16777216 from rfl];omega
 ·split
  ·simp only [show (256:Int) ^ 2=65536 from rfl];omega
  ·split
   ·simp only [show (256:Int) ^ 1=256 from rfl];omega
   ·simp only [show (256:Int) ^ 0=1 from rfl];omega
theorem MR {r:Int} (hr:AC r):∀ i∈tC r n,dB i=true:=λi h=>by
 unfold tC at h;rcases List.mem_cons.1 h with rfl|h
 ·exact DI (by decide) hr (aDw (by omega) (by omega))
 ·exact BC hr _ i h
theorem FH {l:List cO} {f:List Nat} (hl:uK l) (hr:∀ k,k < l.length->jH l f k=true):∀ k,k<=l.length->∀ i∈pF l f k,dB i=true
 | 0,_,i,h=>by cases h
 | k+1,hk,i,h=>by
  have hx:l[k]?=some l[k]:=List.getElem?_eq_getElem (by omega);unfold pF at h;rw [hx,List.mem_append] at h;rcases h with h|h
  ·exact FH hl hr k (by omega) i h
  ·have ho:l[k].okI:=hl.ok _ (List.getElem_mem (by omega));have hk':=hr k (by omega);unfold jH at hk';rw [hx] at hk';dsimp only at h;generalize l[k]=x at *;cases x with
   | one j=>
    rw [List.mem_singleton.1 h];exact AE ho
   | place q=>cases h
   | jump c q=>exact List.all_eq_true.1 hk' i h
   | load r n=>exact MR ho i h
def aEp (s x:Nat):Nat:=0xf000 ||| (s <<< 10) ||| x
def aEo (j k y:Nat):Nat:=0xd000 ||| (j <<< 13) ||| (k <<< 11) ||| y
def KL (imm:Int) (b:Nat):Nat:=((imm / ((2 ^ b:Nat):Int)) % 2).toNat
def blN (imm:Int):List Nat:=
 let s:=if imm < 0 then 1 else 0
 [aEp s ((imm / 4096) % 1024).toNat,aEo (1 - (KL imm 23 ^^^ s)) (1 - (KL imm 22 ^^^ s)) ((imm / 2) % 2048).toNat]
def GC (i:iL):List Nat:=
 if i.op=28 then [TV i.d i.m] else if i.op=43 then blN i.imm else match dH i.op with
  | some r=>[BT r i]
  | none=>[]
def bDp (h:Nat):iL:=⟨28,(((h >>> 7 &&& 1) <<< 3 ||| (h &&& 7):Nat):Int),0,((h >>> 3 &&& 15:Nat):Int),0,0⟩
def aEh:List Nat->Option Nat
 | []=>none
 | h::l=>
  if h >>> 11=30 then match l with
   | []=>none
   | b::_=>if b &&& 0xd000=0xd000 then some 2 else none
  else if h >>> 8=70 then if dB (bDp h) then some 1 else none
  else match dH (opN h) with
   | some r=>let x:=r.2.foldl (aGn h) (⟨opN h,0,0,0,0,0⟩,h);if x.2=r.1.toNat/\dB x.1=true then some 1 else none
   | none=>none
theorem cHi:(AR 2 1024 λs x=>decide (aEp s x >>> 11=30)&&decide (aEp s x < 65536))=true:=by kernel_rfl
theorem cLo:(AR 2 2 λj k=>GG 2048 λy=>decide (aEo j k y &&& 0xd000=0xd000)&&decide (aEo j k y < 65536))=true:=by kernel_rfl
theorem zZ {i:iL} (h:dB i=true) (ho:i.op=28):∃ a b:Nat,a < 15/\b < 15/\i=⟨28,a,0,b,0,0⟩:=by
 obtain ⟨op,d,n,m,imm,cond⟩:=i;dsimp only at ho;subst ho;simp only [dB,if_true,Bool.and_eq_true,decide_eq_true_eq] at h;obtain ⟨⟨⟨⟨⟨⟨rfl,rfl,rfl⟩,h2⟩,h3⟩,h4⟩,h5⟩,h6⟩:=h;obtain ⟨a,rfl⟩:=kX h2;obtain ⟨b,rfl⟩:=kX h5;exact ⟨a,b,by omega,by omega,rfl⟩
theorem VU {b:Nat} (_:a < 2) (_:b < 2):1 - (a ^^^ b) < 2:=by omega
theorem VA {i:iL} (h:dB i=true) (ho:vH i.op\/i.op=28\/i.op=43) (l:List Nat):aEh (GC i++l)=some (GC i).length/\(∀ x∈GC i,x < 65536)/\(GC i).length*2=(if i.op=43 then 4 else 2):=by
 rcases ho with ho|ho|ho
 ·have e1:i.op≠28:=by unfold vH at ho;intro he;rw [he] at ho;omega
  have e2:i.op≠43:=by unfold vH at ho;intro he;rw [he] at ho;omega
  obtain ⟨r,hf,hb⟩:=YT h ho;have e:GC i=[BT r i]:=by unfold GC;rw [if_neg e1,if_neg e2,hf]
  rw [e,if_neg e2];refine ⟨?_,λx hx=>(by rw [List.mem_singleton.1 hx];exact hb.lt),rfl⟩;rw [List.singleton_append];unfold aEh;dsimp only;rw [if_neg hb.bl,if_neg hb.mov,hb.op,hf];dsimp only;rw [hb.read];exact if_pos ⟨rfl,h⟩
 ·obtain ⟨a,b,ha,hb,rfl⟩:=zZ h ho;have e:GC ⟨28,a,0,b,0,0⟩=[TV a b]:=rfl;have hc:=kC c28 ha hb;simp only [bDq,Bool.and_eq_true,decide_eq_true_eq] at hc;obtain ⟨⟨⟨⟨h1,h2⟩,h3⟩,h4⟩,h5⟩:=hc;rw [e];refine ⟨?_,λx hx=>(by rw [List.mem_singleton.1 hx];exact h1),rfl⟩;rw [List.singleton_append];unfold aEh;dsimp only;have em:bDp (TV a b)=⟨28,a,0,b,0,0⟩:=by unfold bDp;rw [h4,h5]
  rw [if_neg h2,if_pos h3,em,if_pos h];rfl
 ·have e:GC i=blN i.imm:=by unfold GC;rw [if_neg (by omega),if_pos ho]
  have hs:(if i.imm < 0 then 1 else 0:Nat) < 2:=by split<;>omega
  have b1:KL i.imm 23 < 2:=by unfold KL;omega
  have b2:KL i.imm 22 < 2:=by unfold KL;omega
  have g1:=kC cHi hs (b:=((i.imm / 4096) % 1024).toNat) (by omega);have g2:=oR (kC cLo (VU b1 hs) (VU b2 hs)) (k:=((i.imm / 2) % 2048).toNat) (by omega);simp only [Bool.and_eq_true,decide_eq_true_eq] at g1 g2;rw [e,if_pos ho];refine ⟨?_,λx hx=>?_,rfl⟩
  ·show aEh (_::_::l)=some 2;unfold aEh;dsimp only;rw [if_pos g1.1];rw [if_pos g2.1]
  ·unfold blN at hx;rcases List.mem_cons.1 hx with rfl|hx
   ·exact g1.2
   ·rw [List.mem_singleton.1 hx];exact g2.2
def zT (l:List iL):List Nat:=l.flatMap GC
def zS (op:Int):Prop:=vH op\/op=28\/op=43
theorem bDg {i:iL} (h:i.okT):zS i.op:=by
 unfold zS vH;rcases h with ⟨h,_⟩|⟨h,_⟩|⟨h,_⟩|⟨h,_⟩|⟨h,_⟩|⟨h,_⟩|⟨h,_⟩<;>omega
theorem MS {r u:Int}:∀ k,∀ i∈qW r u k,zS i.op
 | 0,i,h=>by cases h
 | k+1,i,h=>by
  unfold qW at h;rw [List.mem_append] at h;rcases h with h|h
  ·rcases List.mem_cons.1 h with rfl|h
   ·exact .inl (.inl rfl)
   ·split at h
    ·rw [List.mem_singleton] at h;subst h;exact .inl (by unfold vH;dsimp only;omega)
    ·cases h
  ·exact MS k i h
theorem OD {a b:Int}:∀ i∈pC f a b,zS i.op:=λi h=>by
 unfold pC at h;rw [List.mem_singleton] at h;subst h;dsimp only;split
 ·exact .inr (.inr rfl)
 ·exact .inl (by unfold vH;omega)
theorem aIl {c:Int} {a b:Int}:∀ i∈mZ c f a b,zS i.op:=λi h=>by
 unfold mZ at h;have h41:zS 41:=.inl (by unfold vH;omega);split at h
 ·exact OD i h
 ·split at h
  ·rw [List.mem_singleton] at h;subst h;exact h41
  ·rcases List.mem_cons.1 h with rfl|h
   ·exact h41
   ·exact OD i h
theorem YV {l:List cO} {f:List Nat} (hl:∀ x∈l,x.okI):∀ k,k<=l.length->∀ i∈pF l f k,zS i.op
 | 0,_,i,h=>by cases h
 | k+1,hk,i,h=>by
  have hx:l[k]?=some l[k]:=List.getElem?_eq_getElem (by omega);unfold pF at h;rw [hx,List.mem_append] at h;rcases h with h|h
  ·exact YV hl k (by omega) i h
  ·have ho:l[k].okI:=hl _ (List.getElem_mem (by omega));dsimp only at h;generalize l[k]=x at *;cases x with
   | one j=>rw [List.mem_singleton.1 h];exact bDg ho
   | place q=>cases h
   | jump c q=>exact aIl i h
   | load r n=>
    have h:i∈tC r n:=h;unfold tC at h;rcases List.mem_cons.1 h with rfl|h
    ·exact .inl (by unfold vH;dsimp only;omega)
    ·exact MS _ i h
def ZB (l:List iL):Prop:=∀ i∈l,dB i=true/\zS i.op
theorem XS:∀ {l:List iL},ZB l->(zT l).length*2=jY l
 | [],_=>rfl
 | i::l,h=>by
  have ih:=XS (l:=l) λj hj=>h j (List.mem_cons_of_mem _ hj);obtain ⟨h1,h2⟩:=h i List.mem_cons_self;have:=(VA h1 h2 []).2.2;unfold zT at *;rw [List.flatMap_cons,List.length_append];show _=jY (i::l);unfold jY iL.size at *;rw [List.map_cons,List.sum_cons];split at this<;>split<;>omega
theorem bEv {l:List iL} (h:ZB l):∀ x∈zT l,x < 65536:=λx hx=>by
 obtain ⟨i,hi,hx⟩:=List.mem_flatMap.1 hx;obtain ⟨h1,h2⟩:=h i hi;exact (VA h1 h2 []).2.1 x hx
inductive IK:List Nat->Prop where
 | nil:IK []
 | cons {l:List Nat} {n:Nat} (h:aEh l=some n) (h1:1<=n) (h2:n<=l.length) (t:IK (l.drop n)):IK l
theorem HS:∀ {l:List iL},ZB l->IK (zT l)
 | [],_=>.nil
 | i::l,h=>by
  have ih:=HS (l:=l) λj hj=>h j (List.mem_cons_of_mem _ hj);obtain ⟨h1,h2⟩:=h i List.mem_cons_self;obtain ⟨g1,-,g3⟩:=VA h1 h2 (zT l);have e:zT (i::l)=GC i++zT l:=by unfold zT;rw [List.flatMap_cons]
  rw [e];refine .cons g1 (by split at g3<;>omega) (by rw [List.length_append];omega) ?_;rw [List.drop_left];exact ih
theorem IC {l:List cO} {f:List Nat} (hl:uK l) (hr:∀ k,k < l.length->jH l f k=true):ZB (pF l f l.length):=λi hi=>⟨FH hl hr _ (Nat.le_refl _) i hi,YV hl.ok _ (Nat.le_refl _) i hi⟩
theorem OH {l:List cO} {f:List Nat} (hl:uK l) (h:AV l f) (hr:∀ k,k < l.length->jH l f k=true):IK (zT (pF l f l.length))/\(∀ x∈zT (pF l f l.length),x < 65536)/\(zT (pF l f l.length)).length*2=tI l f l.length/\(zT (pF l f l.length)).length*2<=oL l:=by
 have hg:=IC hl hr;have h1:=XS hg;have h2:=IB h l.length (Nat.le_refl _);have h3:=h.at_top hl l.length;exact ⟨HS hg,bEv hg,by omega,by omega⟩
theorem WC (h:a < 65536):(BitVec.ofInt 16 (a:Int)).toNat=a:=by rw [BitVec.toNat_ofInt];omega
theorem aFh (h:a < 65536):IntKind.u16.wrap (a:Int)=a:=by
 have e:((a:Int) % (2 ^ 16:Int))=a:=by omega
 unfold IntKind.wrap;simp only [show IntKind.u16.bits=16 from rfl,show IntKind.u16.signed=false from rfl,e,Bool.false_and,Bool.false_eq_true,if_false]
theorem bNi {b:Nat} (ha:a < 65536) (hb:b < 65536):IntKind.u16.wrap (((BitVec.ofInt 16 (a:Int) ||| BitVec.ofInt 16 (b:Int)).toNat:Nat):Int)=((a ||| b:Nat):Int):=by
 rw [BitVec.toNat_or,WC ha,WC hb];exact aFh (Nat.or_lt_two_pow (n:=16) ha hb)
theorem bKu {s:Nat} (h:a*2 ^ s < 65536) (hs:s<=16):IntKind.u16.wrap ((a:Int)*2 ^ (min s 16))=((a <<< s:Nat):Int):=by
 rw [Nat.min_eq_left hs,Nat.shiftLeft_eq];have:=aFh h
 push_cast at this
 push_cast
 exact this
theorem aHy {b:Nat} (hb:b<=32):IntKind.i64.wrap (((BitVec.ofInt 64 n &&& BitVec.ofInt 64 ((2 ^ b - 1:Nat):Int)).toNat:Nat):Int)=n % ((2 ^ b:Nat):Int):=by
 have hp:(2:Nat) ^ b<=4294967296:=Nat.pow_le_pow_right (n:=2) (by decide) hb;have h0:0 < (2:Nat) ^ b:=Nat.pow_pos (by decide);have e1:(BitVec.ofInt 64 ((2 ^ b - 1:Nat):Int)).toNat=2 ^ b - 1:=by rw [BitVec.toNat_ofInt];omega
 rw [BitVec.toNat_and,e1,Nat.and_two_pow_sub_one_eq_mod,BitVec.toNat_ofInt]
 have e2:(((n % ((2 ^ 64:Nat):Int)).toNat % 2 ^ b:Nat):Int)=n % ((2 ^ b:Nat):Int):=by
  have h1:0<=n % ((2 ^ 64:Nat):Int):=Int.emod_nonneg _ (by decide);rw [Int.natCast_emod,Int.toNat_of_nonneg h1];refine Int.emod_emod_of_dvd _ ?_;exact Int.natCast_dvd_natCast.2 (Nat.pow_dvd_pow 2 (by omega))
 rw [e2];have h2:0<=n % ((2 ^ b:Nat):Int):=Int.emod_nonneg _ (by omega);have h3:n % ((2 ^ b:Nat):Int) < ((2 ^ b:Nat):Int):=Int.emod_lt_of_pos _ (by omega);exact aQ (by omega)
end Go.Proofs.YtjcmcfidblhnnaaGreatDoor
