/- Package place: all of some registers meet one another. -/
import Derived.Test.YtjcmcfidblhnnaaGreatDoorFg
import Derived.Deep.AppendLies
import Derived.Great.FillDense
import Derived.Great.BuildSlice
import Derived.Laws.StructEq
set_option maxHeartbeats 4000000
namespace Go.Proofs.YtjcmcfidblhnnaaGreatDoor
open Tryz
open Go.Vc
variable {w w' w0:O} {B R g0 i r sg ub:Nat} {ov pv:Y} {m:Mx} {sb:List Bool} {p:fN} {o ord:List Int} {slots:Int}
theorem bEm {lv:Y} {gs:List Nat} {l:List Bool} (hR:R<=40) (hgl:gs.length=R) (hl:l.length=R) (hu:Ru w0 w ub g0 sg ov gs R m sb)
  (ha:w.ownsRow B 4 1 lv R (l.map Value.bool)) (hgB:∀ k,lv.ownBlock=some k->¬ k∈gs) :
  aC prog 83 #[.pointer (some ⟨ub,0,none⟩),lv] w λ_ w'=>(∃ m',Ru w0 w' ub g0 sg ov gs R m' sb/\∀ a b,a < R->b < R->(m' a b=true↔m a b=true\/(a≠b/\l[a]?=some true/\l[b]?=some true)))/\Fr (λi=>i∈gs) w w':=by
 apply bFk;unfold YS;refine fQ hY (aA.of_own ha) ?_
 refine ⟨λv w'=>∃ (i:Nat) (m1:Mx),v=i64 i/\i<=R/\Ru w0 w' ub g0 sg ov gs R m1 sb/\Fr (λi=>i∈gs) w w'/\∀ a b,a < R->b < R->(m1 a b=true↔m a b=true\/(a < i/\a≠b/\l[a]?=some true/\l[b]?=some true)),λv _=>R - (RowKit.intOf v).toNat,
  ⟨0,m,rfl,Nat.zero_le _,hu,Fr.refl _ _,λa b _ _=>by simp⟩,?_⟩
 rintro _ w1 ⟨i,m1,rfl,hi,hu1,hk1,hm1⟩ _;refine aW.2 (aB (λhlt=>?_) λhge=>?_)
 ·have hi':i < R:=by omega
  have ha1:=hk1.own ha hgB;obtain ⟨p,hp⟩:=bE (l:=l) (j:=i) (by omega);obtain ⟨g,hg⟩:=bE (l:=gs) (j:=i) (by omega);refine JN hY oM ha1 (by omega) (by omega) (MS hp) ?_;refine fQ hY (aA.of_own ha1) ?_
  refine ⟨λv w'=>∃ (j:Nat) (m2:Mx),v=i64 j/\j<=R/\Ru w0 w' ub g0 sg ov gs R m2 sb/\Fr (λi=>i∈gs) w w'/\∀ a b,a < R->b < R->(m2 a b=true↔m1 a b=true\/(a=i/\b < j/\a≠b/\l[a]?=some true/\l[b]?=some true)),λv _=>R - (RowKit.intOf v).toNat,
   ⟨0,m1,rfl,Nat.zero_le _,hu1,hk1,λa b _ _=>by simp⟩,?_⟩
  rintro _ w2 ⟨j,m2,rfl,hj,hu2,hk2,hm2⟩ _;refine aW.2 (aB (λhjl=>?_) λhjg=>?_)
  ·have hj':j < R:=by omega
   have ha2:=hk2.own ha hgB;obtain ⟨q,hq⟩:=bE (l:=l) (j:=j) (by omega);refine JN hY oM ha2 (by omega) (by omega) (MS hq) ?_
   have stay:¬ (i≠j/\l[i]?=some true/\l[j]?=some true)->V prog (binOp .add 3 (i64 j) (Value.int IntKind.i64 1)) w2 λt40 w24=>(∃ (j:Nat) (m2:Mx),t40=i64 j/\j<=R/\Ru w0 w24 ub g0 sg ov gs R m2 sb/\Fr (λi=>i∈gs) w w24/\∀ a b,a < R->b < R->(m2 a b=true↔m1 a b=true\/(a=i/\b < j/\a≠b/\l[a]?=some true/\l[b]?=some true)))/\R - (RowKit.intOf t40).toNat < R - (RowKit.intOf (i64 (j:Int))).toNat:=by
    intro hn;refine kQ (by omega) ?_;refine ⟨⟨j+1,m2,rfl,by omega,hu2,hk2,λa b h1 h2=>?_⟩,by simp only [aL];omega⟩;rw [hm2 a b h1 h2];constructor
    ·rintro (h|⟨h3,h4,h5⟩)
     ·exact .inl h
     ·exact .inr ⟨h3,by omega,h5⟩
    ·rintro (h|⟨h3,h4,h5⟩)
     ·exact .inl h
     ·by_cases hbj:b=j
      ·subst h3 hbj;exact absurd h5 hn
      ·exact .inr ⟨h3,by omega,h5⟩
   cases p with
   | false=>
    simp only [lG,aV,Bool.false_eq_true,reduceIte,aP];exact stay λh=>by rw [hp] at h;cases h.2.1
   | true=>
    simp only [lO,aV,reduceIte];cases q with
    | false=>
     simp only [lG,Bool.false_eq_true,reduceIte,aP];exact stay λh=>by rw [hq] at h;cases h.2.2
    | true=>
     simp only [lO,reduceIte];refine cH.2 ?_
     try simp only [aV,reduceIte]
     refine aB (λhne=>?_) λheq=>?_
     ·refine ⟨.inl ⟨_,rfl⟩,?_⟩;refine bC hu2.u.boxed dT gZ rfl ?_;refine lV rS oL (hu2.out.slice (n:=R) (by simpa using hgl) (by unfold maxLen;omega)) (by omega) (by omega) (by simp [hg]:(gs.map (sl R))[((i:Nat):Int).toNat]?=some (sl R g)) ?_;refine VI hY kS (hu2.rows i g hg) (by simp [gR]) (by omega) (by omega) rfl ?_;refine kQ (by omega) ?_;have hij:i≠j:=λh=>hne (by rw [h]);refine ⟨⟨j+1,sU m2 i j true,rfl,by omega,hu2.setRow hg j true,hk2.set (List.mem_of_getElem? hg),λa b h1 h2=>?_⟩,by simp only [aL];omega⟩;have hm:=hm2 a b h1 h2;by_cases hab:a=i/\b=j
      ·obtain ⟨rfl,rfl⟩:=hab;simp [sU,hp,hq,hij]
      ·have:sU m2 i j true a b=m2 a b:=by unfold sU;rw [if_neg hab]
       rw [this,hm];constructor
       ·rintro (h|⟨h3,h4,h5⟩)
        ·exact .inl h
        ·exact .inr ⟨h3,by omega,h5⟩
       ·rintro (h|⟨h3,h4,h5⟩)
        ·exact .inl h
        ·exact .inr ⟨h3,by have:b≠j:=λh=>hab ⟨h3,h⟩;omega,h5⟩
     ·exact stay fun h => h.1 (by have : (i : Int) = j := by simpa using heq
                                  omega)
  ·have hjR:j=R:=by omega
   subst hjR;refine kQ (by omega) ?_;refine ⟨⟨i+1,m2,rfl,by omega,hu2,hk2,λa b h1 h2=>?_⟩,by simp only [aL];omega⟩;rw [hm2 a b h1 h2,hm1 a b h1 h2];constructor
   ·rintro ((h|⟨h3,h4⟩)|⟨h3,_,h5⟩)
    ·exact .inl h
    ·exact .inr ⟨by omega,h4⟩
    ·exact .inr ⟨by omega,h5⟩
   ·rintro (h|⟨h3,h4⟩)
    ·exact .inl (.inl h)
    ·by_cases hai:a=i
     ·exact .inr ⟨hai,h2,h4⟩
     ·exact .inl (.inr ⟨by omega,h4⟩)
 ·have hiR:i=R:=by omega
  subst hiR;refine ⟨⟨m1,hu1,λa b h1 h2=>?_⟩,hk1⟩;rw [hm1 a b h1 h2];simp [h1]
def qH (x slots:Int):Prop:=x=5\/x=6\/(16<=x/\x < 16+slots)
def KL (p:fN) (k r:Nat):Prop:=oB p k r\/(r:Int)=(p.at' k).df
def KK (p:fN) (r:Nat):Prop:=uV p (oB p) 0 r\/(r:Int) < p.params
def FP (S:Nat->Prop) (R:Nat) (of:List Int):Prop:=∀ (r s:Nat),s < r->r < R->S r->S s->of[r]?≠of[s]?
structure pD (p:fN) (R:Nat) (of:List Int) (slots:Int):Prop where
 len:of.length=R
 s0:0<=slots
 s1:slots<=40
 val:∀ (r:Nat) (x:Int),of[r]?=some x->qH x slots
 sets:∀ k,k < p.nodes.length->FP (KL p k) R of
 slot:∀ k,k < p.nodes.length->(p.at' k).leavesB=false->∀ (r:Nat) (x:Int),oB p k r->(r:Int)≠(p.at' k).df->of[r]?=some x->16<=x
 start:FP (KK p) R of
theorem aBd {k:Nat} (hm:∀ r,r < R->(m k r=true↔oB p k r)) (_:(p.at' k).df < R):∀ r,r < R->((wZ (mV m k R) (p.at' k).df)[r]?=some true↔KL p k r):=by
 intro r hr;unfold wZ KL;split
 ·rename_i h0
  by_cases he:(p.at' k).df.toNat=r
  ·rw [he,List.getElem?_set_self (by rw [gR];exact hr)];simp;right;omega
  ·rw [List.getElem?_set_ne he,lW hr];simp only [Option.some.injEq];rw [hm r hr];constructor
   ·exact .inl
   ·rintro (h|h)
    ·exact h
    ·omega
 ·rename_i h0
  rw [lW hr];simp only [Option.some.injEq];rw [hm r hr];constructor
  ·exact .inl
  ·rintro (h|h)
   ·exact h
   ·omega
def rJ (o:List Int) (r:Int):List Int:=if 0<=r/\r ∉ o then o++[r] else o
def fB (o l:List Int):List Int:=l.foldl rJ o
theorem uQ (o l:List Int) (r:Int):fB o (l++[r])=rJ (fB o l) r:=by simp [fB]
theorem aJd (o:List Int) (r:Int):(rJ o r).length<=o.length+1:=by unfold rJ;split<;>simp
theorem tI (o l:List Int):(fB o l).length<=o.length+l.length:=by
 induction l generalizing o with
 | nil=>simp [fB]
 | cons a l ih=>
  have:=ih (rJ o a);have h1:=aJd o a;simp only [fB,List.foldl_cons,List.length_cons] at this ⊢;omega
def xG (R:Nat) (o:List Int):List Bool:=(List.range R).map λr=>decide (((r:Nat):Int)∈o)
theorem qP (R:Nat) (o:List Int):(xG R o).length=R:=by simp [xG]
theorem zE (h:r < R):(xG R o)[r]?=some (decide ((r:Int)∈o)):=by simp [xG,h]
theorem aBq (h:r < R) (hn:(r:Int) ∉ o):(xG R o).set r true=xG R (rJ o r):=by
 apply List.ext_getElem?;intro j;by_cases hj:j < R
 ·rw [zE hj];by_cases hr:r=j
  ·subst hr;rw [List.getElem?_set_self (by rw [qP];exact h)];simp [rJ,hn]
  ·rw [List.getElem?_set_ne hr,zE hj]
   have:((j:Int)∈rJ o r)↔(j:Int)∈o:=by
    unfold rJ;rw [if_pos ⟨by omega,hn⟩];simp;omega
   simp only [this]
 ·rw [List.getElem?_eq_none (by simp [qP];omega),List.getElem?_eq_none (by rw [qP];omega)]
theorem aBp (R:Nat):(xG R []).map Value.bool=List.replicate R (.bool false):=by
 apply List.ext_getElem?;intro j;by_cases hj:j < R
 ·simp [xG,hj]
 ·rw [List.getElem?_eq_none (by simp [qP];omega),List.getElem?_eq_none (by simp;omega)]
structure RC where
 ub:Nat
 g0:Nat
 sg:Nat
 sx:Nat
 sn:Nat
 R:Nat
 L:Nat
 B:Nat
 gs:List Nat
def Mu (c:RC) (ov:Y) (i:Nat):Prop:=i=c.ub\/i=c.g0\/i=c.sg\/i=c.sx\/i=c.sn\/i∈c.gs\/ov.ownBlock=some i
structure Rx (w0 w:O) (c:RC) (ov:Y) (m:Mx) (sb:List Bool) (ord:List Int):Prop where
 ru:Ru w0 w c.ub c.g0 c.sg ov c.gs c.R m sb
 box:bO w c.sx [sl c.R c.sn] 95
 seen:bO w c.sn ((xG c.R ord).map Value.bool) 4
 ov:w.ownsRow c.B 3 1 ov ord.length (ord.map i64)
 lim:c.ub < c.L/\c.g0 < c.L/\c.sg < c.L/\∀ g∈c.gs,g < c.L
 ord':w0.heap.size<=c.L/\c.L<=c.sn/\c.sn < c.sx/\c.sx < c.B/\c.B<=w.heap.size
structure Mv (c:RC) (ov:Y) (w:O) (ov':Y) (w':O):Prop where
 fr:Fr (Mu c ov) w w'
 own:∀ k,ov'.ownBlock=some k->ov.ownBlock=some k\/w.heap.size<=k
theorem Mv.refl (c:RC) (ov:Y) (w:O):Mv c ov w ov w:=⟨Fr.refl _ _,λ_ h=>.inl h⟩
theorem Mv.trans {c:RC} {a b d:Y} {w1 w2 w3:O} (h:Mv c a w1 b w2) (k:Mv c b w2 d w3):Mv c a w1 d w3:=by
 refine ⟨h.fr.trans k.fr λi hi hm=>?_,λi hi=>?_⟩
 ·unfold Mu at hm ⊢;rcases hm with h1|h1|h1|h1|h1|h1|h1
  all_goals try (simp only [h1,true_or,or_true];done)
  rcases h.own i h1 with h2|h2
  ·simp only [h2,or_true]
  ·omega
 ·rcases k.own i hi with h1|h1
  ·exact h.own i h1
  ·exact .inr (Nat.le_trans h.fr.size h1)
theorem Mv.of_ext {c:RC} {ov:Y} {w w':O} (h:aE w w'):Mv c ov w ov w':=⟨Fr.of_ext h,λ_ h=>.inl h⟩
theorem Mv.far {c:RC} {a b:Y} (h:Mv c a w b w') (hi:i < w.heap.size) (hn:¬ Mu c a i):¬ Mu c b i:=by
 intro hm;refine hn ?_;unfold Mu at hm ⊢;rcases hm with h1|h1|h1|h1|h1|h1|h1
 all_goals try (simp only [h1,true_or,or_true];done)
 rcases h.own i h1 with h2|h2
 ·simp only [h2,or_true]
 ·omega
theorem Rx.lo {w0 w:O} {c:RC} {ov:Y} {m:Mx} {sb:List Bool} {ord:List Int} (h:Rx w0 w c ov m sb ord):∀ i,Mu c ov i->w0.heap.size<=i:=by
 have h1:=h.ord';have h2:=h.ru.lo;intro i hm;unfold Mu at hm;rcases hm with rfl|rfl|rfl|rfl|rfl|hm|hm
 ·exact h2.1
 ·exact h2.2.1
 ·exact h2.2.2.1
 iterate 2
  ·omega
 ·exact h2.2.2.2 i hm
 ·have:=(h.ov.lt i hm).1;omega
theorem Rx.hi {c:RC} (h:Rx w0 w c ov m sb ord):∀ i,Mu c ov i->i < w.heap.size:=by
 have h1:=h.ord';have h2:=h.lim;intro i hm;unfold Mu at hm;rcases hm with rfl|rfl|rfl|rfl|rfl|hm|hm
 iterate 5
  ·omega
 ·have:=h2.2.2.2 i hm;omega
 ·exact (h.ov.lt i hm).2
theorem Rx.fr {c:RC} (h:Rx w0 w c ov m sb ord) {S:Nat->Prop} (hf:Fr S w w') (hS:∀ i,Mu c ov i->¬ S i) (hx:aE w0 w'):Rx w0 w' c ov m sb ord:=by
 have m1:∀ {i},Mu c ov i->¬ S i:=λh=>hS _ h
 refine ⟨⟨hx,hf.blk h.ru.u (m1 (.inl rfl)),hf.blk h.ru.out (m1 (.inr (.inl rfl))),hf.blk h.ru.slot (m1 (.inr (.inr (.inl rfl)))),λk g hk=>hf.blk (h.ru.rows k g hk) (m1 (.inr (.inr (.inr (.inr (.inr (.inl (List.mem_of_getElem? hk)))))))),h.ru.lo,h.ru.ne,h.ru.nd⟩,
  hf.blk h.box (m1 (.inr (.inr (.inr (.inl rfl))))),hf.blk h.seen (m1 (.inr (.inr (.inr (.inr (.inl rfl)))))),hf.own h.ov λk hk=>m1 (.inr (.inr (.inr (.inr (.inr (.inr hk)))))),h.lim,?_⟩
 have:=h.ord';have:=hf.size;omega
theorem Rx.ext {c:RC} (h:Rx w0 w c ov m sb ord) (hx:aE w w'):Rx w0 w' c ov m sb ord:=
 h.fr (S:=λ_=>False) (Fr.of_ext hx) (λ_ _ h=>h) (h.ru.x.trans hx)
theorem UR {c:RC} {r:Int} (h:Rx w0 w c ov m sb ord) (hr:r < c.R) (hR:c.R<=40) (hl:ord.length<=1000) :
  rD prog (.func (.func 82) #[] #[.pointer (some ⟨c.sx,0,none⟩),.pointer (some ⟨c.ub,0,none⟩)]) #[i64 r] w λ_ w'=>∃ ov',Rx w0 w' c ov' m sb (rJ ord r)/\Mv c ov w ov' w':=by
 refine ⟨_,_,rfl,?_⟩;refine bFl (t0:=i64 r) (t1:=.pointer (some ⟨c.sx,0,none⟩)) (t2:=.pointer (some ⟨c.ub,0,none⟩)) ?_;unfold YT;have stay:rJ ord r=ord->∃ ov',Rx w0 w c ov' m sb (rJ ord r)/\Mv c ov w ov' w:=λhe=>⟨ov,by rw [he];exact h,Mv.refl _ _ _⟩;have hs0:=h.seen.slice (n:=c.R) (by simp [qP]) (by unfold maxLen;omega);refine kO.2 ?_;by_cases h0:r>=0
 ·simp only [h0,lO,aV,reduceIte,decide_true];obtain ⟨k,rfl⟩:∃ k:Nat,r=k:=⟨r.toNat,by omega⟩;have hk:k < c.R:=by omega
  refine ldV oL h.box ?_;refine lV hY oM hs0 (by omega) (by omega) (MS (zE hk)) ?_;by_cases hin:(k:Int)∈ord
  ·simp only [hin,dC,aP,Bool.not_true,decide_true];exact stay (by simp [rJ,hin])
  ·simp only [hin,dC,bJ,Bool.not_false,decide_false];refine ldV oL h.box ?_;refine VI hY kS h.seen (by simp [qP]) (by omega) (by omega) rfl ?_;have hne:=h.ru.ne;have hlim:=h.lim;have hord:=h.ord';have hlo:=h.ru.lo;have hsn:c.sn < w.heap.size:=h.seen.lt;have f1:Fr (λi=>i=c.sn) w (w.setCell ⟨c.sn,(k:Int).toNat,none⟩ (.bool true)):=Fr.of_set rfl;have hov1:=f1.own h.ov λi hi=>by have:=(h.ov.lt i hi).1;omega
   refine bC (f1.blk h.ru.u (by omega)).boxed dR bF rfl ?_;refine jX bB [i64 (k:Int)] rfl rfl (by simp) rfl λv2 w2 ho2 x2=>?_;have hov2:=x2.own hov1;have hsz2:w.heap.size<=w2.heap.size:=by have:=x2.size;have:=f1.size;omega
   refine apL bB hov2 ho2 (by simp) (by simp [bY]) (by omega) (by unfold maxLen;omega) (by omega) λg cap w3 ho3 hg3 hlies=>?_;have f2:Fr (λi=>i=c.sn) w w2:=f1.trans (Fr.of_ext (S:=λi=>i=c.sn) x2) λ_ _ h=>h;have f3:Fr (λi=>i=c.sn\/ov.ownBlock=some i) w w3:=f2.or (Fr.of_grown (S:=λi=>ov.ownBlock=some i) hg3 λk hk=>hk);have far:∀ i,i < c.B->ov.ownBlock≠some i:=λi hi he=>by have:=(h.ov.lt i he).1;omega
   have hu3:=f3.blk h.ru.u (λh=>h.elim (by omega) (far c.ub (by omega)));refine FS dR mO hu3 rfl (by simp) rfl ?_;have f4:Fr (λi=>(i=c.sn\/ov.ownBlock=some i)\/i=c.ub) w (w3.setCell ⟨c.ub,2,none⟩ (.slice (some ⟨g,0,none⟩) (ord.length+1) cap)):=f3.or (Fr.of_set rfl);have f34:Fr (λi=>i=c.ub) w3 (w3.setCell ⟨c.ub,2,none⟩ (.slice (some ⟨g,0,none⟩) (ord.length+1) cap)):=Fr.of_set rfl
   have f14:Fr (λi=>ov.ownBlock=some i\/i=c.ub) (w.setCell ⟨c.sn,(k:Int).toNat,none⟩ (.bool true)) (w3.setCell ⟨c.ub,2,none⟩ (.slice (some ⟨g,0,none⟩) (ord.length+1) cap)):=
    ((Fr.of_ext (S:=λ_=>False) x2).or (Fr.of_grown (S:=λi=>ov.ownBlock=some i) hg3 λk hk=>hk)).or f34 |>.mono λi hi=>by
     rcases hi with (hi|hi)|hi
     ·exact hi.elim
     ·exact .inl hi
     ·exact .inr hi
   have keep:∀ {i},i < c.B->i≠c.sn->i≠c.ub->¬ ((i=c.sn\/ov.ownBlock=some i)\/i=c.ub):=λ{i} h1 h2 h3 h4=>by
    rcases h4 with (h4|h4)|h4
    ·exact h2 h4
    ·exact far i h1 h4
    ·exact h3 h4
   have hord':rJ ord (k:Int)=ord++[(k:Int)]:=by simp [rJ,hin]
   have hMu:Fr (Mu c ov) w (w3.setCell ⟨c.ub,2,none⟩ (.slice (some ⟨g,0,none⟩) (ord.length+1) cap)):=f4.mono λi hi=>by
    unfold Mu;rcases hi with (hi|hi)|hi<;>simp only [hi,true_or,or_true]
   refine ⟨.slice (some ⟨g,0,none⟩) (ord.length+1) cap,⟨⟨hMu.ext h.ru.x h.lo,?_,f4.blk h.ru.out (keep (by omega) (by omega) (by omega)),f4.blk h.ru.slot (keep (by omega) (by omega) (by omega)),λq g' hq=>f4.blk (h.ru.rows q g' hq) (by have:=hlim.2.2.2 g' (List.mem_of_getElem? hq);have:=hne.2.2.2 g' (List.mem_of_getElem? hq);exact keep (by omega) (by omega) (by omega)),h.ru.lo,h.ru.ne,h.ru.nd⟩,
    f4.blk h.box (keep (by omega) (by omega) (by omega)),?_,?_,hlim,by have:=f4.size;omega⟩,hMu,λi hi=>?_⟩
   ·exact hu3.set 2 _
   ·rw [<- aBq hk hin,<- nW];have:=f14.blk (h.seen.set k (.bool true)) (λh=>h.elim (far c.sn (by omega)) (by omega));simpa using this
   ·rw [hord'];have:=f34.own ho3 λi hi hu=>by have:=(ho3.lt i hi).1;omega
    simpa using this
   ·have:g=i:=by simpa [Value.ownBlock] using hi
    subst this;rcases hlies with h1|h1
    ·exact .inl h1
    ·exact .inr (by omega)
 ·simp only [h0,lG,aV,aP,reduceIte,Bool.false_eq_true,decide_false];exact stay (by simp [rJ];omega)
theorem Rx.setSlot {w0 w:O} {c:RC} {ov:Y} {m:Mx} {sb:List Bool} {ord:List Int} (h:Rx w0 w c ov m sb ord) (r:Nat) (v:Bool):Rx w0 (w.setCell ⟨c.sg,r,none⟩ (.bool v)) c ov m (sb.set r v) ord:=by
 have f:Fr (λi=>i=c.sg) w (w.setCell ⟨c.sg,r,none⟩ (.bool v)):=Fr.of_set rfl;have h1:=h.ord';have h2:=h.lim;refine ⟨h.ru.setSlot r v,f.blk h.box (by omega),f.blk h.seen (by omega),f.own h.ov λk hk he=>?_,h.lim,by have:=f.size;omega⟩;have:=(h.ov.lt k hk).1;omega
theorem Mv.set {c:RC} {ov ov':Y} {w w':O} (h:Mv c ov w ov' w') (r:Nat) (v:Y):Mv c ov w ov' (w'.setCell ⟨c.sg,r,none⟩ v):=⟨h.fr.set (.inr (.inr (.inl rfl))),h.own⟩
def qR (n:Nat):List Int:=(List.range n).map λr=>((r:Nat):Int)
theorem GC (n:Nat):qR (n+1)=qR n++[((n:Nat):Int)]:=by simp [qR,List.range_succ]
theorem xC (n:Nat):(qR n).length=n:=by simp [qR]
theorem aDt (hp:pQ w pv p) (hv:kT p) (hR:p.regs=R) :
  aC prog 81 #[pv] w λr w'=>(∃ l:List Bool,l.length=R/\w'.ownsRow w.heap.size 4 1 r R (l.map .bool)/\∀ r < R,(l[r]?=some true↔uV p (oB p) 0 r))/\aE w w':=by
 have hp0:=hp;obtain ⟨ns,rfl,hns,hargs⟩:=hp;have hns0:=hns;obtain ⟨vs,hs,hvs⟩:=hns;have hl1:=hv.l1;have hl2:=hv.l2;have hr1:=hv.r1;have hr2:=hv.r2;obtain ⟨hpt,hrt⟩:=hv.at (k:=0) (by omega);obtain ⟨u,hu,hnu⟩:=hvs 0 _ hpt;apply bFm;unfold YU;refine bx λb w1 hb x1=>?_;refine iF hb qG rfl ?_;refine (uN (p:=p) (hp0.ext x1) hv).mono λr w2 ⟨hr,x2⟩=>?_;subst hr;refine dC.2 (aP.2 ?_);have hb2:=hb.ext x2;have X2:=x1.trans x2;refine aK.mk' (λw'=>aE w2 w') (aE.refl _).drew ?_;refine jG (λw' hw=>hb2.ext hw) eI lF rfl ?_;refine oE oX DQ (hs.ext X2) (λ_ h=>h) (by omega) (by omega) (by simpa using hu) ?_;refine yA (λw' hw=>hb2.ext hw) qG rfl ?_;refine (aDm (hp0.ext (X2.trans (aE.refl _).drew)) hv hR).mono λmv w3 ⟨⟨m,hm,ham⟩,x3⟩=>?_;have x3':aE w2 w3:=aE.trans (aE.refl _).drew x3;refine ⟨x3',λw'=>aE w3 w',λw' h=>x3'.trans h,aE.refl _,?_⟩;obtain ⟨cs,hcs,hrow⟩:=hm.row hl2 (by omega);obtain ⟨rv,hrv,hrb⟩:=hrow 0 (by omega);refine oE rS oL hcs (λ_ h=>h) (by omega) (by omega) (by simpa using hrv) ?_;have hdf:(p.at' 0).df < R:=by rcases hrt.d with h|h<;>omega
 have hus:∀ r∈(p.at' 0).us,0<=r/\r < ((mV m 0 R).length:Int):=λr hr=>by have:=hrt.u r hr;rw [gR];omega
 refine (NH (hnu.ext (X2.trans x3')) hrb (hargs _ (List.mem_of_getElem? hpt)) (by rw [gR];omega) (by rw [gR];exact hdf) hus).mono λav w4 ⟨hav,x4⟩=>?_;refine ⟨x4,λw'=>aE w3 w',λ_ h=>h,x4,⟨⟨_,?_,(aU (by rw [gR] at hav;exact hav) (X2.trans x3').size),λr hr=>?_⟩,(X2.trans x3').trans x4⟩⟩
 ·rw [wS,gR]
 ·rw [FB (by rw [gR];exact hr) (λx hx=>(hus x hx).1)];rw [List.getD_eq_getElem?_getD,lW hr];simp only [Option.getD_some,Option.some.injEq,Bool.or_eq_true,Bool.and_eq_true,decide_eq_true_eq];unfold uV;rw [ham 0 r (by omega) hr]
theorem XW {c:RC} {lv:Y} {l:List Bool} (h:Rx w0 w c ov m sb ord) (hR:c.R<=40) (hgl:c.gs.length=c.R) (hl:l.length=c.R)
  (ha:w.ownsRow B 4 1 lv c.R (l.map Value.bool)) (hn:∀ k,lv.ownBlock=some k->¬ Mu c ov k) :
  aC prog 83 #[.pointer (some ⟨c.ub,0,none⟩),lv] w λ_ w'=>(∃ m',Rx w0 w' c ov m' sb ord/\∀ a b,a < c.R->b < c.R->(m' a b=true↔m a b=true\/(a≠b/\l[a]?=some true/\l[b]?=some true)))/\Fr (λi=>i∈c.gs) w w':=by
 refine (bEm hR hgl hl h.ru ha λk hk hg=>hn k hk (.inr (.inr (.inr (.inr (.inr (.inl hg))))))).mono λr w' ⟨⟨m',hru,hm⟩,hf⟩=>⟨⟨m',⟨hru,hf.blk h.box ?_,hf.blk h.seen ?_,hf.own h.ov λk hk hg=>?_,h.lim,?_⟩,hm⟩,hf⟩
 iterate 2
  ·intro hg;have:=h.lim.2.2.2 _ hg;have:=h.ord';omega
 ·have:=h.lim.2.2.2 _ hg;have:=h.ord';have:=(h.ov.lt k hk).1;omega
 ·have:=h.ord';have:=hf.size;omega
def Laid (w2:O) (R:Nat) (t3:Y) (w:O):Prop:=∃ ub g0 sg,t3=.pointer (some ⟨ub,0,none⟩)/\aE w2 w/\bO w ub [sl R g0,sl R sg,.slice none 0 0] 141/\bO w g0 (List.replicate R (.slice none 0 0)) 95/\bO w sg (List.replicate R (.bool false)) 4 /\
 w2.heap.size<=ub/\w2.heap.size<=g0/\w2.heap.size<=sg/\ub≠g0/\ub≠sg/\g0≠sg
theorem vD {w2:O} (hx:aE w2 w) (hu:bO w ub [.slice none 0 0,.slice none 0 0,.slice none 0 0] 141) (hm:bO w g0 (List.replicate R (.slice none 0 0)) 95) (hs:bO w sg (List.replicate R (.bool false)) 4)
  (h1:w2.heap.size<=ub) (h2:w2.heap.size<=g0) (h3:w2.heap.size<=sg) (h4:ub≠g0) (h5:ub≠sg) (h6:g0≠sg) :
  U prog (Instr.storeAt 141 (.pointer (some ⟨ub,0,none⟩)) (.agg #[sl R g0,sl R sg,.slice none 0 0])) w λ_ w'=>Laid w2 R (.pointer (some ⟨ub,0,none⟩)) w':=
 yW qD hu (l:=[sl R g0,sl R sg,.slice none 0 0]) rfl rfl rfl rfl λ_ hu' hc=>⟨ub,g0,sg,rfl,hc.ext w2 hx h1,hu',hc.other (Ne.symm h4) hm,hc.other (Ne.symm h5) hs,h1,h2,h3,h4,h5,h6⟩
def yS (p:fN) (a b:Nat):Prop:=a≠b/\((KK p a/\KK p b)\/∃ k,k < p.nodes.length/\KL p k a/\KL p k b)
def CD (p:fN) (r:Nat):Prop:=∃ k,k < p.nodes.length/\(p.at' k).leavesB=false/\oB p k r/\(r:Int)≠(p.at' k).df
def qC (p:fN) (R:Nat):List Int:=qR p.params.toNat++p.nodes.map aJ.df++qR R
def bEq (p:fN) (R:Nat) (r:Y) (w:O):Prop:=∃ g0 sg ov m sb,r=.agg #[sl R g0,sl R sg,ov]/\yT w (sl R g0) R R m/\gF w (sl R sg) sb/\sb.length=R/\aN w ov (fB [] (qC p R)) /\
 (∀ a b,a < R->b < R->(m a b=true↔yS p a b))/\∀ r,r < R->(sb[r]?=some true↔CD p r)
theorem CT (hp:pQ w pv p) (hv:kT p) (hR:p.regs=R) :
  aC prog 40 #[pv] w λr w'=>bEq p R r w'/\aE w w':=by
 have hp0:=hp;obtain ⟨ns,rfl,hns,hargs⟩:=hp;obtain ⟨vs,hs,hvs⟩:=hns;have hl1:=hv.l1;have hl2:=hv.l2;have hr1:=hv.r1;have hr2:=hv.r2;have hp1:=hv.p1;have hp2:=hv.p2;have hp3:=hv.p3;apply bGx;unfold aAc;refine bx λb w1 hb x1=>?_;refine zA qD λw2 hz x2=>?_;have hb2:=hb.ext x2;have X12:=x1.trans x2;refine ⟨Laid w2 R,?_,?_⟩
 rotate_left
 ·rintro _ w25 ⟨ub,g0,sg,rfl,x25,hu25,hg25,hs25,l1,l2,l3,n1,n2,n3⟩ _;refine bC (hb2.ext x25) gK aG rfl ?_;rw [hR];have hu25':=hu25.lt;have hg25':=hg25.lt;have hs25':=hs25.lt
  refine ⟨λv w'=>∃ gs:List Nat,v=i64 gs.length/\gs.length<=R/\aE w2 w'/\bO w' ub [sl R g0,sl R sg,.slice none 0 0] 141/\bO w' sg (List.replicate R (.bool false)) 4/\(∀ g∈gs,w2.heap.size<=g/\g < w'.heap.size/\g≠ub/\g≠g0/\g≠sg)/\gs.Nodup /\
    bO w' g0 (gs.map (sl R)++List.replicate (R - gs.length) (.slice none 0 0)) 95/\∀ g∈gs,bO w' g (List.replicate R (.bool false)) 4,
   λv _=>R - (RowKit.intOf v).toNat,⟨[],rfl,Nat.zero_le _,x25,hu25,hs25,by simp,List.nodup_nil,by simpa using hg25,by simp⟩,?_⟩
  rintro _ w4 ⟨gs,rfl,hle,x4,hu4,hs4,hgg,hnd,ho4,hrows4⟩ _;have hu4':=hu4.lt;have hs4':=hs4.lt;have ho4':=ho4.lt;refine aW.2 (aB (λhlt=>?_) λhge=>?_)
  ·have D4:aE w4 w4.drew:=(aE.refl _).drew;refine aK.mk' (λw'=>aE w4 w') D4 ?_;refine jG (λw' hw=>(hu4.ext hw).boxed) dT gZ rfl ?_;refine jG (λw' hw=>hb2.ext (x4.trans hw)) gK aG rfl ?_;refine xU hR underlying95 kS rfl (n:=R) (by omega) (by omega) λw5 hrow x5 hsz5=>?_;have x45:=D4.trans x5;have hz4:w4.drew.heap.size=w4.heap.size:=rfl;rw [hz4] at hrow hsz5;refine ⟨x45,?_⟩;refine aD.ok (λw' _=>aFo (by omega) (by omega)) ?_;rw [Int.toNat_natCast];refine KZ rL (ho4.ext x45) (by simp;omega) rfl ?_;refine kQ (by omega) ?_;have hset:=(ho4.ext x45).set gs.length (sl R w4.heap.size);rw [LD R _ gs R (by omega)] at hset;have hx45:=x45.size;refine ⟨⟨gs++[w4.heap.size],by simp,by simp;omega,(x4.trans x45).setCell l2 _,(hu4.ext x45).other n1,(hs4.ext x45).other (Ne.symm n3),?_,?_,hset,?_⟩,by simp only [aL];omega⟩
   ·intro g hg;simp only [World.size_setCell];rcases List.mem_append.1 hg with h|h
    ·have:=hgg g h;omega
    ·have:g=w4.heap.size:=by simpa using h
     have:=x4.size;omega
   ·refine List.nodup_append.2 ⟨hnd,by simp,?_⟩;intro a ha c hc;have:c=w4.heap.size:=by simpa using hc
    have:=hgg a ha;omega
   ·intro g hg;rcases List.mem_append.1 hg with h|h
    ·exact ((hrows4 g h).ext x45).other (by have:=hgg g h;omega)
    ·have he:g=w4.heap.size:=by simpa using h
     subst he;exact hrow.other (by omega)
  have hgl:gs.length=R:=by omega
  rw [hgl,Nat.sub_self] at ho4;simp only [List.replicate_zero,List.append_nil] at ho4;refine iF (hb2.ext x4) qG rfl ?_;refine (aDt (hp0.ext (X12.trans x4)) hv hR).mono λav w5 ⟨⟨l,hll,hlo,hla⟩,x5⟩=>?_;have x25':=x4.trans x5;refine bC (hb2.ext x25') gK aG rfl ?_;refine xU hR underlying95 kS rfl (n:=R) (by omega) (by omega) λw6 hsn x6 hsz6=>?_;refine rX bIo rfl rfl λw7 hsx x7=>?_;refine fnK ?_;have x57:=x6.trans x7;have x27:=x25'.trans x57;have hsx':=hsx.lt;have hx7:=x7.size;have hx5:=x5.size;have hx4:=x4.size;have hc:∃ c:RC,c=⟨ub,g0,sg,w6.heap.size,w5.heap.size,R,w4.heap.size,w7.heap.size,gs⟩:=⟨_,rfl⟩;obtain ⟨c,hc⟩:=hc
  have hRx:Rx w2 w7 c (.slice none 0 0) (λ_ _=>false) (List.replicate R false) []:=by
   subst hc
   refine ⟨⟨x27,(hu4.ext x5).ext x57,(ho4.ext x5).ext x57,by simpa using (hs4.ext x5).ext x57,λk g hk=>by rw [CW];exact ((hrows4 g (List.mem_of_getElem? hk)).ext x5).ext x57,⟨l1,l2,l3,λg hg=>(hgg g hg).1⟩,⟨n1,n2,n3,λg hg=>(hgg g hg).2.2⟩,hnd⟩,
    hsx,by rw [aBp];exact hsn.ext x7,⟨rfl,.inl ⟨rfl,rfl⟩⟩,⟨hu4',ho4',hs4',λg hg=>(hgg g hg).2.1⟩,⟨hx4,hx5,by show w5.heap.size < w6.heap.size;omega,by show w6.heap.size < w7.heap.size;omega,Nat.le_refl _⟩⟩
  have hcub:c.ub=ub:=by rw [hc]
  have hcsx:c.sx=w6.heap.size:=by rw [hc]
  have hcg0:c.g0=g0:=by rw [hc]
  have hcsg:c.sg=sg:=by rw [hc]
  have hcgs:c.gs=gs:=by rw [hc]
  have hcR:c.R=R:=by rw [hc]
  have hav:∀ k,av.ownBlock=some k->¬ Mu c (.slice none 0 0) k:=by
   intro k hk hm;have hlt:=hlo.lt k hk;have h1:=hRx.ord';have h2:=hRx.lim;subst hc;simp only at h1 h2;unfold Mu at hm;rcases hm with h|h|h|h|h|h|h
   iterate 3
    ·omega
   iterate 2
    ·simp only at h;omega
   ·have:=h2.2.2.2 k h;omega
   ·cases h
  have hlo7:=x57.own hlo;rw [<- hcub,<- hcsx];clear hu4 hs4 ho4 hrows4 hgg hu25 hg25 hs25 hsn hsx;have hb7:∀ {w'},aE w2 w'->aY w' b _:=λh=>hb2.ext h;refine bC (hb7 x27) kY aG rfl ?_
  refine ⟨λv w'=>∃ (r:Nat) (ov:Y) (l':List Bool),v=i64 r/\(r:Int)<=p.params/\Rx w2 w' c ov (λ_ _=>false) (List.replicate R false) (fB [] (qR r))/\l'.length=R/\w'.ownsRow w4.heap.size 4 1 av R (l'.map .bool) /\
    (∀ s,s < R->(l'[s]?=some true↔(uV p (oB p) 0 s\/s < r)))/\∀ k,av.ownBlock=some k->¬ Mu c ov k,
   λv _=>p.params.toNat - (RowKit.intOf v).toNat,⟨0,_,l,rfl,hp1,hRx,hll,hlo7,λs hs=>by rw [hla s hs];simp,hav⟩,?_⟩
  rintro _ w8 ⟨r,ov,l',rfl,hr,hRx8,hll',hlo8,hla',hav8⟩ _;have hordlen:=tI [] (qR r);rw [xC] at hordlen;refine aW.2 (aB (λhlt=>?_) λhge2=>?_)
  ·refine stO hY kS hlo8 (by omega) (by omega) rfl λw9 ho9 hg9=>?_;rw [nW] at ho9;have hx9:aE w2 w9:=hRx8.ru.x.grown hg9 λk hk=>by have:=(hlo8.lt k hk).1;omega
   have hRx9:=hRx8.fr (S:=λi=>av.ownBlock=some i) (Fr.of_grown hg9 λk hk=>hk) (λi hi hk=>hav8 i hk hi) hx9;refine (UR hRx9 (r:=(r:Int)) (by rw [hcR];omega) (by rw [hcR];omega) (by simp at hordlen;omega)).mono λ_ w10 ⟨ov',hRx10,hmv⟩=>?_;refine kQ (by omega) ?_;refine ⟨⟨r+1,ov',l'.set r true,rfl,by omega,by rw [GC,uQ];exact hRx10,by simp [hll'],hmv.fr.own ho9 hav8,λs hs=>?_,λk hk=>hmv.far (ho9.lt k hk).2 (hav8 k hk)⟩,by simp only [aL];omega⟩;by_cases hsr:r=s
   ·subst hsr;rw [List.getElem?_set_self (by omega)];simp
   ·rw [List.getElem?_set_ne hsr,hla' s hs];constructor<;>(rintro (h|h)<;>first|exact .inl h|exact .inr (by omega))
  have hrp:(r:Int)=p.params:=by omega
  have hset:∀ s,s < R->(l'[s]?=some true↔KK p s):=λs hs=>by
   rw [hla' s hs];unfold KK;constructor<;>(rintro (h|h)<;>first|exact .inl h|exact .inr (by omega))
  refine (XW (l:=l') hRx8 (by rw [hcR];omega) (by rw [hcgs,hcR];exact hgl) (by rw [hcR];exact hll') (by rw [hcR];exact hlo8) hav8).mono λ_ w9 ⟨⟨m1,hRx9,hm1⟩,_⟩=>?_;refine iF (hb7 hRx9.ru.x) qG rfl ?_;refine (EX (hp0.ext (X12.trans hRx9.ru.x)) hv hR).mono λbv w10 ⟨⟨mB,hmB,hal⟩,x10⟩=>?_;have hhi:=hRx9.hi;have hRx10:=hRx9.ext x10;rw [show r=p.params.toNat by omega] at hRx10;obtain ⟨g0',gs',rfl,hgl',hout',hrows',hlo0',hlog'⟩:=hmB
  have keepB:∀ {ov' w'},Mv c ov w10 ov' w'->bO w' g0' (gs'.map (sl R)) 95/\∀ (k g:Nat),gs'[k]?=some g->bO w' g ((mV mB k R).map Value.bool) 4:=λ{ov' w'} h=>
   ⟨h.fr.blk hout' λhi=>by have:=hhi _ hi;omega,λk g hk=>h.fr.blk (hrows' k g hk) λhi=>by have:=hhi _ hi;have:=hlog' g (List.mem_of_getElem? hk);omega⟩
  refine fQ rS (hout'.slice (n:=p.nodes.length) (by simpa using hgl') (by unfold maxLen;omega)) ?_
  refine ⟨λv w'=>∃ (k:Nat) (ov':Y) (m':Mx) (sb':List Bool),v=i64 k/\k<=p.nodes.length/\Rx w2 w' c ov' m' sb' (fB [] (qR p.params.toNat++(p.nodes.take k).map aJ.df))/\Mv c ov w10 ov' w'/\sb'.length=R /\
    (∀ a b,a < R->b < R->(m' a b=true↔a≠b/\((KK p a/\KK p b)\/∃ q,q < k/\KL p q a/\KL p q b))) /\
    (∀ s,s < R->(sb'[s]?=some true↔∃ q,q < k/\(p.at' q).leavesB=false/\oB p q s/\(s:Int)≠(p.at' q).df)),
   λv _=>p.nodes.length - (RowKit.intOf v).toNat,⟨0,ov,m1,_,rfl,Nat.zero_le _,by simpa using hRx10,Mv.refl _ _ _,by simp,λa b ha hb=>?_,λs hs=>by rw [List.getElem?_replicate_of_lt hs];simp⟩,?_⟩
  ·rw [hm1 a b (by omega) (by omega),hset a ha,hset b hb];simp
  rintro _ w11 ⟨k,ov1,m2,sb2,rfl,hk,hRx11,hmv11,hsbl,hm2,hsb2⟩ _;refine aW.2 (aB (λhlt=>?_) λhge3=>?_)
  ·have hk':k < p.nodes.length:=by omega
   obtain ⟨hat,hrt⟩:=hv.at hk';obtain ⟨nv,hnv,hni⟩:=hvs k _ hat;obtain ⟨g',hg'⟩:=bE (l:=gs') (j:=k) (by omega);have hdf:(p.at' k).df < R:=by rcases hrt.d with h|h<;>omega
   refine lV rS oL ((keepB hmv11).1.slice (n:=p.nodes.length) (by simpa using hgl') (by unfold maxLen;omega)) (by omega) (by omega) (by simp [hg']:(gs'.map (sl R))[((k:Nat):Int).toNat]?=some (sl R g')) ?_;have hX11:=hRx11.ru.x;refine bC (hb7 hX11) eI lF rfl ?_;refine lV oX DQ (hs.ext (X12.trans hX11)) (by omega) (by omega) (by simpa using hnv) ?_;refine (KC (hni.ext (X12.trans hX11))).mono λdv w12 ⟨hd,x12⟩=>?_;subst hd;have hRx12:=hRx11.ext x12
   have hol:(fB [] (qR p.params.toNat++(p.nodes.take k).map aJ.df)).length<=1000:=by
    have:=tI [] (qR p.params.toNat++(p.nodes.take k).map aJ.df);simp only [List.length_append,List.length_map,List.length_take,xC,List.length_nil] at this;omega
   refine (UR hRx12 (r:=(p.at' k).df) (by rw [hcR];exact hdf) (by rw [hcR];omega) hol).mono λ_ w13 ⟨ov2,hRx13,hmv13⟩=>?_;have hmv13':=(hmv11.trans (Mv.of_ext x12)).trans hmv13
   have hordk:rJ (fB [] (qR p.params.toNat++(p.nodes.take k).map aJ.df)) (p.at' k).df=fB [] (qR p.params.toNat++(p.nodes.take (k+1)).map aJ.df):=by
    rw [<- uQ,List.append_assoc,List.take_add_one,hat];simp
   rw [hordk] at hRx13;have hrow13:=(keepB hmv13').2 k g' hg'
   have hrl13:gF w13 (sl R g') (mV mB k R):=by
    have:=hrow13.slice (n:=R) (by simp [gR]) (by unfold maxLen;omega);unfold gF;rw [gR];exact this
   refine (aOu hrl13 (by rw [gR];omega) (by rw [gR];exact hdf)).mono λwv w14 ⟨hwo,x14⟩=>?_;rw [gR] at hwo;have hRx14:=hRx13.ext x14;have hhi13:=hRx13.hi;have hwl:(wZ (mV mB k R) (p.at' k).df).length=R:=by rw [aBe,gR]
   refine (XW (l:=wZ (mV mB k R) (p.at' k).df) hRx14 (by rw [hcR];omega) (by rw [hcgs,hcR];exact hgl) (by rw [hcR];exact hwl) (by rw [hcR];exact hwo) (λi hi hm=>by have:=hhi13 i hm;have:=(hwo.lt i hi).1;omega)).mono λ_ w15 ⟨⟨m3,hRx15,hm3⟩,hf15⟩=>?_;have hmv15:Mv c ov w10 ov2 w15:=(hmv13'.trans (Mv.of_ext x14)).trans ⟨hf15.mono λi hi=>.inr (.inr (.inr (.inr (.inr (.inl hi))))),λ_ h=>.inl h⟩;have hwset:=aBd (p:=p) (R:=R) (k:=k) (m:=mB) (λr hr=>hal k r hk' hr) hdf
   have hm3':∀ a b,a < R->b < R->(m3 a b=true↔a≠b/\((KK p a/\KK p b)\/∃ q,q < k+1/\KL p q a/\KL p q b)):=by
    intro a b ha hb;rw [hm3 a b (by omega) (by omega),hm2 a b ha hb,hwset a ha,hwset b hb];constructor
    ·rintro (⟨h1,h2|⟨q,h3,h4⟩⟩|⟨h1,h2⟩)
     ·exact ⟨h1,.inl h2⟩
     ·exact ⟨h1,.inr ⟨q,by omega,h4⟩⟩
     ·exact ⟨h1,.inr ⟨k,by omega,h2⟩⟩
    ·rintro ⟨h1,h2|⟨q,h3,h4⟩⟩
     ·exact .inl ⟨h1,.inl h2⟩
     ·by_cases hqk:q=k
      ·subst hqk;exact .inr ⟨h1,h4⟩
      ·exact .inl ⟨h1,.inr ⟨q,by omega,h4⟩⟩
   have hsl15:∀ {ov' w'},Mv c ov w10 ov' w'->aA w' (sl R g') 1 R ((mV mB k R).map Value.bool):=λh=>((keepB h).2 k g' hg').slice (n:=R) (by simp [gR]) (by unfold maxLen;omega);refine fQ hY (hsl15 hmv15) ?_
   refine ⟨λv w'=>∃ (r:Nat) (sb':List Bool),v=i64 r/\r<=R/\Rx w2 w' c ov2 m3 sb' (fB [] (qR p.params.toNat++(p.nodes.take (k+1)).map aJ.df))/\Mv c ov w10 ov2 w'/\sb'.length=R /\
     (∀ s,s < R->(sb'[s]?=some true↔(sb2[s]?=some true\/(s < r/\(p.at' k).leavesB=false/\oB p k s/\(s:Int)≠(p.at' k).df)))),
    λv _=>R - (RowKit.intOf v).toNat,⟨0,sb2,rfl,Nat.zero_le _,hRx15,hmv15,hsbl,λs hs=>by simp⟩,?_⟩
   rintro _ w16 ⟨r2,sb3,rfl,hr2,hRx16,hmv16,hsb3l,hsb3⟩ _;refine aW.2 (aB (λhlt5=>?_) λhge5=>?_)
   ·have hr2':r2 < R:=by omega
    refine lV hY oM (hsl15 hmv16) (by omega) (by omega) (MS (lW hr2')) ?_;obtain ⟨sv,hsv⟩:=bE (l:=sb3) (j:=r2) (by omega);have D16:aE w16 w16.drew:=(aE.refl _).drew;have hRx17:=hRx16.ext D16;have hss:aA w16.drew (.slice (some ⟨c.sg,0,none⟩) c.R c.R) 1 c.R (sb3.map Value.bool):=hRx17.ru.slot.slice (by simp;omega) (by unfold maxLen;omega)
    have fin:∀ nv:Bool,(nv=true↔(sv=true\/((p.at' k).leavesB=false/\oB p k r2/\(r2:Int)≠(p.at' k).df))) ->
      aD prog (λw'=>w'=w16.drew) (Instr.indexAt 95 (.slice (some ⟨c.sg,0,none⟩) c.R c.R) (i64 (r2:Int))) λt106=>U prog (Instr.storeAt 4 t106 (.bool nv)) w16.drew λ_ w73=>V prog (binOp .add 3 (i64 (r2:Int)) (Value.int IntKind.i64 1)) w73 λt107 w74=>
       (∃ (r:Nat) (sb':List Bool),t107=i64 r/\r<=R/\Rx w2 w74 c ov2 m3 sb' (fB [] (qR p.params.toNat++(p.nodes.take (k+1)).map aJ.df))/\Mv c ov w10 ov2 w74/\sb'.length=R/\(∀ s,s < R->(sb'[s]?=some true↔(sb2[s]?=some true\/(s < r/\(p.at' k).leavesB=false/\oB p k s/\(s:Int)≠(p.at' k).df)))))/\R - (RowKit.intOf t107).toNat < R - (RowKit.intOf (i64 (r2:Int))).toNat:=by
     intro nv hnv;refine aD.ok (λw' _=>VQ (by omega) (by omega)) ?_;rw [Int.toNat_natCast];refine KZ kS hRx17.ru.slot (by simp;omega) rfl ?_;refine kQ (by omega) ?_;refine ⟨⟨r2+1,sb3.set r2 nv,rfl,by omega,hRx17.setSlot r2 nv,(hmv16.trans (Mv.of_ext D16)).set r2 _,by simp [hsb3l],λs hs=>?_⟩,by simp only [aL];omega⟩;by_cases hsr:r2=s
     ·subst hsr;rw [List.getElem?_set_self (by omega)];simp only [Option.some.injEq];have h3:=hsb3 r2 hs;rw [hsv] at h3;simp only [Option.some.injEq] at h3;rw [hnv,h3];constructor
      ·rintro ((h|h)|h)
       ·exact .inl h
       ·omega
       ·exact .inr ⟨by omega,h⟩
      ·rintro (h|⟨_,h⟩)
       ·exact .inl (.inl h)
       ·exact .inr h
     ·rw [List.getElem?_set_ne hsr,hsb3 s hs];constructor
      iterate 2
       ·rintro (h|⟨h1,h2⟩)
        ·exact .inl h
        ·exact .inr ⟨by omega,h2⟩
    have hal':=hal k r2 hk' hr2';refine aK.mk' (λw'=>w'=w16.drew) rfl ?_;refine jG (λw' hw=>hw▸hRx17.ru.u.boxed) dS oL rfl ?_;refine jG (λw' hw=>hw▸hRx17.ru.u.boxed) dS oL rfl ?_;refine oE hY oM hss (λw' hw=>hw▸aE.refl _) (by omega) (by omega) (MS hsv) ?_;cases hsb:sv with
    | true=>
     simp only [rA,TY,HP,aV,reduceIte];refine ⟨trivial,?_⟩;exact fin true (by simp [hsb])
    | false=>
     by_cases hmk:mB k r2=true
     ·simp only [hmk,WV,WW,aV,reduceIte,Bool.false_eq_true];refine aD.ok (λw' _=>zJ) ?_;by_cases hrd:(r2:Int)≠(p.at' k).df
      ·simp only [hrd,ne_eq,not_false_eq_true,lO,WV,aV,reduceIte,decide_true];refine (aCo (hni.ext (X12.trans hRx17.ru.x))).mono λrv w' ⟨h1,h2⟩=>?_;subst h1;subst h2;refine ⟨rfl,?_⟩;refine aD.ok (λ_ _=>xK) ?_;exact fin (!(p.at' k).leavesB) (by cases hlb:(p.at' k).leavesB<;>simp [hsb,hal'.1 hmk,hrd])
      ·simp only [hrd,lG,JY,aV,reduceIte,Bool.false_eq_true,decide_false];refine ⟨trivial,?_⟩;exact fin false (by simp [hsb];intro _ _;simpa using hrd)
     ·simp only [hmk,lG,WW,JY,aV,reduceIte,Bool.false_eq_true];refine ⟨trivial,?_⟩;exact fin false (by simp [hsb];intro _ h;exact absurd (hal'.2 h) hmk)
   ·refine kQ (by omega) ?_;refine ⟨⟨k+1,ov2,m3,sb3,rfl,by omega,hRx16,hmv16,hsb3l,hm3',λs hs=>?_⟩,by simp only [aL];omega⟩;rw [hsb3 s hs,hsb2 s hs];constructor
    ·rintro (⟨q,h1,h2⟩|⟨h1,h2⟩)
     ·exact ⟨q,by omega,h2⟩
     ·exact ⟨k,by omega,h2⟩
    ·rintro ⟨q,h1,h2⟩;by_cases hqk:q=k
     ·subst hqk;exact .inr ⟨by omega,h2⟩
     ·exact .inl ⟨q,by omega,h2⟩
  ·have hkN:k=p.nodes.length:=by omega
   subst hkN;rw [List.take_of_length_le (Nat.le_refl _)] at hRx11;refine bC (hb7 hRx11.ru.x) gK aG rfl ?_;rw [hR]
   refine ⟨λv w'=>∃ (r:Nat) (ov':Y),v=i64 r/\r<=R/\Rx w2 w' c ov' m2 sb2 (fB [] (qR p.params.toNat++p.nodes.map aJ.df++qR r)),
    λv _=>R - (RowKit.intOf v).toNat,⟨0,ov1,rfl,Nat.zero_le _,by simpa [qR] using hRx11⟩,?_⟩
   rintro _ w12 ⟨r3,ov3,rfl,hr3,hRx12⟩ _;refine aW.2 (aB (λhlt6=>?_) λhge6=>?_)
   ·have hol:(fB [] (qR p.params.toNat++p.nodes.map aJ.df++qR r3)).length<=1000:=by
     have:=tI [] (qR p.params.toNat++p.nodes.map aJ.df++qR r3);simp only [List.length_append,List.length_map,xC,List.length_nil] at this;omega
    refine (UR hRx12 (r:=(r3:Int)) (by rw [hcR];omega) (by rw [hcR];omega) hol).mono λ_ w13 ⟨ov4,hRx13,_⟩=>?_;refine kQ (by omega) ?_;exact ⟨⟨r3+1,ov4,rfl,by omega,by rw [GC,<- List.append_assoc,uQ];exact hRx13⟩,by simp only [aL];omega⟩
   ·have hrR:r3=R:=by omega
    subst hrR;refine iF hRx12.ru.u.boxed TH rfl ?_;have hX:=hRx12.ru.x;have hzl:=hz.lt;have hlo12:=hRx12.lo;have hov3:=hRx12.ov;refine yW qD (hz.ext hX) (l:=[.slice (some ⟨c.g0,0,none⟩) c.R c.R,.slice (some ⟨c.sg,0,none⟩) c.R c.R,ov3]) rfl rfl rfl (by have:=nU hov3;simp only [List.all_cons,List.all_nil,this,Bool.and_true];rfl) λw' h' hch=>?_;refine ⟨_,nS underlying141 rfl qD h' rfl,⟨_,rfl⟩,⟨c.g0,c.sg,ov3,m2,sb2,by rw [hcR];rfl,⟨c.g0,c.gs,rfl,by rw [hcgs];exact hgl,?_,?_⟩,?_,hsbl,?_,?_,?_⟩,hch.ext w (X12.trans hX) x1.size⟩
    ·have:=hch.other (by have:=hRx12.ru.lo;omega) hRx12.ru.out;rw [hcR] at this;exact this
    ·intro q g hq;have:=hch.other (by have:=hRx12.ru.lo.2.2.2 g (List.mem_of_getElem? hq);omega) (hRx12.ru.rows q g hq);rw [hcR] at this;exact this
    ·have:=(hch.other (by have:=hRx12.ru.lo;omega) hRx12.ru.slot).slice (n:=sb2.length) (by simp) (by unfold maxLen;omega);unfold gF sl;rw [hsbl] at this ⊢;exact this
    ·have:=hch.own hov3 (by have:=hRx12.ord';omega);exact this
    ·exact λa b ha hb=>hm2 a b ha hb
    ·exact λs hs=>hsb2 s hs
 refine aK.mk' (λw'=>aE w2 w') (aE.refl _).drew ?_;have X2:aE w2 w2.drew:=(aE.refl _).drew;refine jG (λw' hw=>hb2.ext hw) gK aG rfl ?_;refine jG (λw' hw=>hb2.ext hw) gK aG rfl ?_;refine ⟨?_,?_,?_⟩
 ·refine xU hR underlying139 rL rfl (n:=R) (by omega) (by omega) λwa hM xa sM=>?_;have Xa:=X2.trans xa;refine ⟨Xa,?_,?_⟩
  ·refine xU hR underlying95 kS rfl (n:=R) (by omega) (by omega) λwb hB xb sB=>?_;have Xb:=Xa.trans xb;refine ⟨Xb,?_⟩;refine nB zY [(0,_),(1,_),(2,Value.slice none 0 0)] rfl (by simp [bY]) ?_;refine zA qD λwc hA xc=>?_;have Xc:=Xb.trans xc;refine ⟨Xc,?_⟩;have za:=xa.size;have zb:=xb.size;have la:=(hM).lt;have lb:=(hB).lt;have zw:w2.heap.size=w2.drew.heap.size:=rfl;exact vD Xc hA ((hM.ext xb).ext xc) (hB.ext xc) (by omega) (by omega) (by omega) (by omega) (by omega) (by omega)
  ·refine zA qD λwb hA xb=>?_;have Xb:=Xa.trans xb;refine ⟨Xb,?_⟩;refine xU hR underlying95 kS rfl (n:=R) (by omega) (by omega) λwc hB xc sB=>?_;have Xc:=Xb.trans xc;refine ⟨Xc,?_⟩;refine nB zY [(0,_),(1,_),(2,Value.slice none 0 0)] rfl (by simp [bY]) ?_;have za:=xa.size;have zb:=xb.size;have la:=(hM).lt;have lb:=(hA).lt;have zw:w2.heap.size=w2.drew.heap.size:=rfl;exact vD Xc (hA.ext xc) ((hM.ext xb).ext xc) hB (by omega) (by omega) (by omega) (by omega) (by omega) (by omega)
 ·refine xU hR underlying95 kS rfl (n:=R) (by omega) (by omega) λwa hB xa sB=>?_;have Xa:=X2.trans xa;refine ⟨Xa,?_,?_⟩
  ·refine xU hR underlying139 rL rfl (n:=R) (by omega) (by omega) λwb hM xb sM=>?_;have Xb:=Xa.trans xb;refine ⟨Xb,?_⟩;refine nB zY [(0,_),(1,_),(2,Value.slice none 0 0)] rfl (by simp [bY]) ?_;refine zA qD λwc hA xc=>?_;have Xc:=Xb.trans xc;refine ⟨Xc,?_⟩;have za:=xa.size;have zb:=xb.size;have la:=(hB).lt;have lb:=(hM).lt;have zw:w2.heap.size=w2.drew.heap.size:=rfl;exact vD Xc hA (hM.ext xc) ((hB.ext xb).ext xc) (by omega) (by omega) (by omega) (by omega) (by omega) (by omega)
  ·refine zA qD λwb hA xb=>?_;have Xb:=Xa.trans xb;refine ⟨Xb,?_⟩;refine xU hR underlying139 rL rfl (n:=R) (by omega) (by omega) λwc hM xc sM=>?_;have Xc:=Xb.trans xc;refine ⟨Xc,?_⟩;refine nB zY [(0,_),(1,_),(2,Value.slice none 0 0)] rfl (by simp [bY]) ?_;have za:=xa.size;have zb:=xb.size;have la:=(hB).lt;have lb:=(hA).lt;have zw:w2.heap.size=w2.drew.heap.size:=rfl;exact vD Xc (hA.ext xc) hM ((hB.ext xb).ext xc) (by omega) (by omega) (by omega) (by omega) (by omega) (by omega)
 ·refine zA qD λwa hA xa=>?_;have Xa:=X2.trans xa;refine ⟨Xa,?_,?_⟩
  ·refine xU hR underlying139 rL rfl (n:=R) (by omega) (by omega) λwb hM xb sM=>?_;have Xb:=Xa.trans xb;refine ⟨Xb,?_⟩;refine xU hR underlying95 kS rfl (n:=R) (by omega) (by omega) λwc hB xc sB=>?_;have Xc:=Xb.trans xc;refine ⟨Xc,?_⟩;refine nB zY [(0,_),(1,_),(2,Value.slice none 0 0)] rfl (by simp [bY]) ?_;have za:=xa.size;have zb:=xb.size;have la:=(hA).lt;have lb:=(hM).lt;have zw:w2.heap.size=w2.drew.heap.size:=rfl;exact vD Xc ((hA.ext xb).ext xc) (hM.ext xc) hB (by omega) (by omega) (by omega) (by omega) (by omega) (by omega)
  ·refine xU hR underlying95 kS rfl (n:=R) (by omega) (by omega) λwb hB xb sB=>?_;have Xb:=Xa.trans xb;refine ⟨Xb,?_⟩;refine xU hR underlying139 rL rfl (n:=R) (by omega) (by omega) λwc hM xc sM=>?_;have Xc:=Xb.trans xc;refine ⟨Xc,?_⟩;refine nB zY [(0,_),(1,_),(2,Value.slice none 0 0)] rfl (by simp [bY]) ?_;have za:=xa.size;have zb:=xb.size;have la:=(hA).lt;have lb:=(hB).lt;have zw:w2.heap.size=w2.drew.heap.size:=rfl;exact vD Xc ((hA.ext xb).ext xc) hM (hB.ext xc) (by omega) (by omega) (by omega) (by omega) (by omega) (by omega)
theorem aHu {of:List Int} (hl:of.length=R) (h0:0<=slots) (h1:slots<=40) (hm:∀ a b,a < R->b < R->(m a b=true↔yS p a b)) (hs:∀ r,r < R->(sb[r]?=some true↔CD p r)) :
  (∀ (r:Nat) (x:Int),r < R->of[r]?=some x->qH x slots/\BF m sb of r x)↔pD p R of slots:=by
 have lt:∀ {r:Nat} {x:Int},of[r]?=some x->r < R:=λh=>by have:=(List.getElem?_eq_some_iff.1 h).1;omega
 constructor
 ·intro h
  have ap:∀ S:Nat->Prop,(∀ a b,a≠b->S a->S b->yS p a b)->FP S R of:=by
   intro S hS r s hsr hr h2 h3 he;obtain ⟨x,hx⟩:=bE (l:=of) (j:=r) (by omega);exact (h r x hr hx).2.2 s x (by rw [<- he];exact hx) ((hm r s hr (by omega)).2 (hS r s (by omega) h2 h3)) rfl
  exact ⟨hl,h0,h1,λr x hx=>(h r x (lt hx) hx).1,λk hk=>ap _ λa b hab ha hb=>⟨hab,.inr ⟨k,hk,ha,hb⟩⟩,λk hk hlb r x hal hne hx=>(h r x (lt hx) hx).2.1 ((hs r (lt hx)).2 ⟨k,hk,hlb,hal,hne⟩),ap _ λa b hab ha hb=>⟨hab,.inl ⟨ha,hb⟩⟩⟩
 ·intro h r x hr hx;refine ⟨h.val r x hx,λhsl=>?_,λo y hy hmo he=>?_⟩
  ·obtain ⟨k,hk,hlb,hal,hne⟩:=(hs r hr).1 hsl;exact h.slot k hk hlb r x hal hne hx
  ·subst he;obtain ⟨hne,hset⟩:=(hm r o hr (lt hy)).1 hmo
   have ap:∀ S:Nat->Prop,FP S R of->S r->S o->False:=by
    intro S hS h2 h3;by_cases hlt:o < r
    ·exact hS r o hlt hr h2 h3 (by rw [hx,hy])
    ·exact hS o r (by omega) (lt hy) h3 h2 (by rw [hx,hy])
   rcases hset with ⟨h2,h3⟩|⟨k,hk,h2,h3⟩
   ·exact ap _ h.start h2 h3
   ·exact ap _ (h.sets k hk) h2 h3
theorem GT {v:Y} {l:List Int} (h:aN w v l):bY v=true:=by
 obtain ⟨a,c,rfl⟩:=h.shape;rfl
theorem FT {ofv:Y} {of:List Int} (hp:pQ w pv p) (hv:kT p) (hR:p.regs=R) (ho:aN w ofv of) (_:of.length<=1000000) :
  aC prog 36 #[pv,.agg #[ofv,i64 slots]] w λr w'=>(∃ ok:Bool,r=.bool ok/\(ok=true↔pD p R of slots))/\aE w w':=by
 have hp0:=hp;obtain ⟨ns,rfl,hns,hargs⟩:=hp;obtain ⟨oa,oc,rfl⟩:=ho.shape;have hr1:=hv.r1;have hr2:=hv.r2;have no:∀ {w'},aE w w'->¬ pD p R of slots->(∃ ok:Bool,Value.bool false=.bool ok/\(ok=true↔pD p R of slots))/\aE w w':=λhx hn=>⟨⟨false,rfl,λh=>(by cases h),λh=>absurd h hn⟩,hx⟩;apply bHb;unfold aAg;refine bx λb w1 hb x1=>?_;refine bx λb2 w2 hb2 x2=>?_;have X2:=x1.trans x2;have hb':=hb.ext x2;refine iF hb' qG rfl ?_;refine (uN (p:=p) (hp0.ext X2) hv).mono λr w3 ⟨hr,x3⟩=>?_;subst hr;have hb3:=hb'.ext x3;have hb23:=hb2.ext x3;have X3:=X2.trans x3;refine dC.2 ?_;simp only [pK,aV,reduceIte,Bool.false_eq_true,Bool.not_true];refine bC hb23 lQ bF rfl (fQ aQ (ho.ext X3) ?_);refine bC hb3 gK aG rfl (cH.2 ?_);rw [hR];by_cases h1:((of.length:Nat):Int)≠((R:Nat):Int)
 ·simp only [h1,ne_eq,not_false_eq_true,tP,aV,bJ,reduceIte,decide_true];exact no X3 λh=>h1 (by have:=h.len;omega)
 have h1':of.length=R:=by omega
 simp only [h1,pK,aV,reduceIte,Bool.false_eq_true,decide_false];refine bC hb23 mH aG rfl (aW.2 ?_);by_cases h2:slots < 0
 ·simp only [h2,tP,aV,bJ,reduceIte,decide_true];exact no X3 λh=>by have:=h.s0;omega
 simp only [h2,pK,aV,reduceIte,Bool.false_eq_true,decide_false];refine bC hb23 mH aG rfl (iH.2 ?_);by_cases h3:slots > 40
 ·simp only [h3,bJ,decide_true];exact no X3 λh=>by have:=h.s1;omega
 simp only [h3,aP,decide_false];refine iF hb3 qG rfl ?_;refine (CT (hp0.ext X3) hv hR).mono λrv w4 ⟨⟨g0,sg,ov,m,sb,hrv,hmat,hsb,hsbl,hov,hm,hs⟩,x4⟩=>?_;subst hrv;refine rX aEt rfl (by have:=GT hov;show (bY (sl R g0)&&(bY (sl R sg)&&(bY ov&&true)))=true;rw [this];rfl) λw5 hu5 x5=>?_;have x35:=x4.trans x5;have X5:=X3.trans x35;refine bC (hb23.ext x35) lQ bF rfl (fQ aQ (ho.ext X5) ?_);have hgood:=aHu (p:=p) (slots:=slots) h1' (by omega) (by omega) hm hs;refine ⟨λv w'=>∃ i:Nat,v=i64 i/\i<=of.length/\aE w5 w'/\∀ (r:Nat) (x:Int),r < i->of[r]?=some x->qH x slots/\BF m sb of r x,λv _=>of.length - (RowKit.intOf v).toNat,⟨0,rfl,Nat.zero_le _,aE.refl _,λr x h=>by omega⟩,?_⟩;rintro _ w6 ⟨i,rfl,hi,x6,hval⟩ _;have x36:=x35.trans x6;have X6:=X5.trans x6;refine aW.2 (aB (λhlt=>?_) λhge=>?_)
 ·have hi':i < of.length:=by omega
  obtain ⟨x,hx⟩:=bE hi';refine lV aQ aG (ho.ext X6) (by omega) (by omega) (cK hx) (cH.2 ?_);have bad:¬ qH x slots->(∃ ok:Bool,Value.bool false=.bool ok/\(ok=true↔pD p R of slots))/\aE w w6:=λh=>no X6 λhg=>h (hg.val i x hx)
  have ok:qH x slots->aC prog 41 #[.agg #[sl R g0,sl R sg,ov],i64 (i:Int),i64 x,.slice oa of.length oc] w6 λq w'=>(∃ ok:Bool,q=.bool ok/\(ok=true↔BF m sb of i x))/\aE w6 w':=λ_=>
   aGq (by omega) ((hmat.ext x5).ext x6) ((hsb.ext x5).ext x6) hsbl (ho.ext X6) h1' (by omega)
  have fin:qH x slots->V prog (Instr.loadAt 141 (.pointer (some ⟨w4.heap.size,0,none⟩))) w6 λt57 w46=>
    V prog (Instr.fieldAt 72 (.pointer (some ⟨b2,0,none⟩)) 0) w46 λt60 w49=>V prog (Instr.loadAt 23 t60) w49 λt61 w50=>aC prog 41 #[t57,i64 (i:Int),i64 x,t61] w50 λt62 w51=>
    V prog (Op.unary UnOp.not t62) w51 λt63 w52=>aI t63 ((∃ ok:Bool,Value.bool false=.bool ok/\(ok=true↔pD p R of slots))/\aE w w52) (V prog (binOp .add 3 (i64 (i:Int)) (Value.int IntKind.i64 1)) w52 λt65 w54=>
     (∃ i:Nat,t65=i64 i/\i<=of.length/\aE w5 w54/\∀ (r:Nat) (x:Int),r < i->of[r]?=some x->qH x slots/\BF m sb of r x)/\of.length - (RowKit.intOf t65).toNat < of.length - (RowKit.intOf (i64 (i:Int))).toNat):=by
   intro hvx;refine iF (hu5.ext x6).boxed TH rfl ?_;refine bC (hb23.ext x36) lQ bF rfl ?_;refine (ok hvx).mono λq w7 ⟨⟨a,hq,ha⟩,x7⟩=>?_;subst hq;refine dC.2 (aI.mk (λhn=>?_) λhn=>?_)
   ·refine no (X6.trans x7) λhg=>?_;have:=ha.2 (hgood.2 hg i x (by omega) hx).2;subst this;cases hn
   ·refine kQ (by omega) ?_;refine ⟨⟨i+1,rfl,by omega,x6.trans x7,λr y hr hy=>?_⟩,by simp only [aL];omega⟩;by_cases hri:r=i
    ·subst hri;rw [hx] at hy;cases hy;exact ⟨hvx,ha.1 (by simpa using hn)⟩
    ·exact hval r y (by omega) hy
  by_cases h5:x=5
  ·simp only [h5,ne_eq,not_true_eq_false,pK,lG,rA,aV,reduceIte,Bool.false_eq_true,decide_false];exact h5▸fin (.inl h5)
  simp only [h5,ne_eq,not_false_eq_true,cH,lO,aV,reduceIte,decide_true];by_cases h6:x=6
  ·simp only [h6,not_true_eq_false,pK,lG,rA,aV,reduceIte,Bool.false_eq_true,decide_false];exact h6▸fin (.inr (.inl h6))
  simp only [h6,not_false_eq_true,aW,lO,aV,reduceIte,decide_true];by_cases h16:x < 16
  ·simp only [h16,tP,aV,bJ,reduceIte,decide_true];exact bad (by unfold qH;omega)
  simp only [h16,pK,reduceIte,Bool.false_eq_true,decide_false];refine bC (hb23.ext x36) mH aG rfl (bA.2 ?_);rw [aM (by omega)];simp only [kO,aV];by_cases h17:x>=16+slots
  ·simp only [h17,tP,bJ,reduceIte,decide_true];exact bad (by unfold qH;omega)
  simp only [h17,pK,reduceIte,Bool.false_eq_true,decide_false];exact fin (by unfold qH;omega)
 ·refine ⟨⟨true,rfl,λ_=>hgood.1 λr x hr hx=>hval r x (by omega) hx,λ_=>rfl⟩,X6⟩
def rZ (p:fN) (of:List Int) (r:Nat) (at':Int):Prop:=(CD p r->16<=at')/\∀ (o:Nat) (y:Int),of[o]?=some y->yS p r o->y≠at'
theorem bJg {of:List Int} {at':Int} (hl:of.length=R) (hm:∀ a b,a < R->b < R->(m a b=true↔yS p a b)) (hs:∀ r,r < R->(sb[r]?=some true↔CD p r)) (hr:r < R):BF m sb of r at'↔rZ p of r at':=by
 have lt:∀ {r:Nat} {x:Int},of[r]?=some x->r < R:=λh=>by have:=(List.getElem?_eq_some_iff.1 h).1;omega
 unfold BF rZ;rw [hs r hr];exact ⟨λh=>⟨h.1,λo y hy hmo=>h.2 o y hy ((hm r o hr (lt hy)).2 hmo)⟩,λh=>⟨h.1,λo y hy hmo=>h.2 o y hy ((hm r o hr (lt hy)).1 hmo)⟩⟩
theorem yS.symm {p:fN} {a b:Nat} (h:yS p a b):yS p b a:=by
 obtain ⟨h1,h2⟩:=h;refine ⟨λh=>h1 h.symm,?_⟩;rcases h2 with ⟨h2,h3⟩|⟨k,hk,h2,h3⟩
 ·exact .inl ⟨h3,h2⟩
 ·exact .inr ⟨k,hk,h3,h2⟩
structure Al (p:fN) (R:Nat) (ord:List Int) (i:Nat) (of:List Int) (slots:Int):Prop where
 len:of.length=R
 s0:0<=slots
 s1:slots<=40
 placed:∀ (r:Nat) (x:Int),of[r]?=some x->(((r:Int)∈ord.take i->qH x slots/\rZ p of r x)/\((r:Int) ∉ ord.take i->x=0))
theorem Al.start (p:fN) (R:Nat) (ord:List Int):Al p R ord 0 (List.replicate R 0) 0:=by
 refine ⟨by simp,by omega,by omega,λr x hx=>⟨λh=>by simp at h,λ_=>?_⟩⟩;have:=List.mem_of_getElem? hx;simp at this;exact this.2
theorem Al.step {of:List Int} {at':Int} (h:Al p R ord i of slots) (hr:r < R) (hi:ord[i]?=some (r:Int)) (hm:rZ p of r at') (ha:at'=5\/at'=6\/16<=at') (ha2:at'<=55) :
  Al p R ord (i+1) (of.set r at') (max slots (at' - 15)):=by
 have hs0:=h.s0;have hs1:=h.s1;have hval:∀ {x},qH x slots->qH x (max slots (at' - 15)):=by unfold qH;omega
 have htake:ord.take (i+1)=ord.take i++[(r:Int)]:=by rw [List.take_add_one,hi];rfl
 have hlen:=h.len;refine ⟨by simp [h.len],by omega,by omega,λq x hx=>?_⟩;by_cases hq:r=q
 ·subst hq;rw [List.getElem?_set_self (by omega)] at hx;cases hx;refine ⟨λ_=>⟨by unfold qH;omega,hm.1,λo y hy hmo=>?_⟩,λhn=>absurd (by rw [htake];simp) hn⟩;rw [List.getElem?_set_ne (λe=>hmo.1 e)] at hy;exact hm.2 o y hy hmo
 ·rw [List.getElem?_set_ne hq] at hx;obtain ⟨h1,h2⟩:=h.placed q x hx;refine ⟨λhmem=>?_,λhn=>h2 λhmem=>hn (by rw [htake];simp [hmem])⟩
  have hmem':(q:Int)∈ord.take i:=by
   rw [htake] at hmem;rcases List.mem_append.1 hmem with h3|h3
   ·exact h3
   ·have:(q:Int)=r:=by simpa using h3
    omega
  obtain ⟨h3,h4⟩:=h1 hmem';refine ⟨hval h3,h4.1,λo y hy hmo=>?_⟩;by_cases ho:r=o
  ·subst ho;rw [List.getElem?_set_self (by omega)] at hy;cases hy;exact (λe=>hm.2 q x hx hmo.symm e.symm)
  ·rw [List.getElem?_set_ne ho] at hy;exact h4.2 o y hy hmo
theorem aCf {gs:List Int} (h:gs.Nodup) {j:Nat} {g:Int} (hi:gs[i]?=some g) (hj:gs[j]?=some g):i=j:=by
 obtain ⟨hi',hi2⟩:=List.getElem?_eq_some_iff.1 hi;obtain ⟨hj',hj2⟩:=List.getElem?_eq_some_iff.1 hj;have hp:=List.pairwise_iff_getElem.1 h;rcases Nat.lt_trichotomy i j with hlt|he|hgt
 ·exact absurd (hi2.trans hj2.symm) (hp i j hi' hj' hlt)
 ·exact he
 ·exact absurd (hj2.trans hi2.symm) (hp j i hj' hi' hgt)
theorem LU:∀ (l l':List Int),l.Nodup->(∀ x∈l,x∈l')->l.length<=l'.length
 | [],_,_,_=>Nat.zero_le _
 | x::l,l',hn,h=>by
  obtain ⟨hx,hn'⟩:=List.nodup_cons.1 hn
  have h1:=LU l (l'.erase x) hn' λy hy=>by
   have hne:y≠x:=λe=>hx (e▸hy);exact (List.mem_erase_of_ne hne).2 (h y (by simp [hy]))
  have h2:=List.length_erase_of_mem (h x (by simp));have h3:0 < l'.length:=List.length_pos_of_mem (h x (by simp));simp only [List.length_cons];omega
theorem aBj {of:List Int} {at':Int} (hl:of.length=R) (hr:of[r]?=some 0) (h16:16<=at') (h:∀ x,16<=x->x < at'->x∈of):at'<=15+R:=by
 have h1:=LU (0::(List.range (at' - 16).toNat).map λj=>((j:Nat):Int)+16) of (by
  refine List.nodup_cons.2 ⟨λhm=>?_,?_⟩
  ·obtain ⟨j,_,hj⟩:=List.mem_map.1 hm;omega
  ·exact List.pairwise_map.2 (List.Pairwise.imp (λ{a b} h e=>h (by omega)) List.nodup_range)) λx hx=>?_
 ·simp at h1;omega
 ·rcases List.mem_cons.1 hx with rfl|hx
  ·exact List.mem_of_getElem? hr
  ·obtain ⟨j,hj,rfl⟩:=List.mem_map.1 hx;have:=List.mem_range.1 hj;exact h _ (by omega) (by omega)
theorem US {r:Int} (h:o.Nodup):(rJ o r).Nodup:=by
 unfold rJ;split
 ·rename_i hc
  refine List.nodup_append.2 ⟨h,by simp,λa ha b hb e=>?_⟩;have:b=r:=by simpa using hb
  exact hc.2 (this▸e▸ha)
 ·exact h
theorem tJ:∀ (l o:List Int),(o.Nodup->(fB o l).Nodup)/\(∀ x,x∈fB o l↔x∈o\/(x∈l/\0<=x))
 | [],o=>by simp [fB]
 | r::l,o=>by
  obtain ⟨h1,h2⟩:=tJ l (rJ o r);have e:fB o (r::l)=fB (rJ o r) l:=rfl;rw [e];refine ⟨λh=>h1 (US h),λx=>?_⟩;rw [h2 x];unfold rJ;split
  ·rename_i hc
   simp only [List.mem_append,List.mem_cons,List.not_mem_nil,or_false];constructor
   ·rintro ((h|rfl)|⟨h,h'⟩)
    ·exact .inl h
    ·exact .inr ⟨.inl rfl,hc.1⟩
    ·exact .inr ⟨.inr h,h'⟩
   ·rintro (h|⟨rfl|h,h'⟩)
    ·exact .inl (.inl h)
    ·exact .inl (.inr rfl)
    ·exact .inr ⟨h,h'⟩
  ·rename_i hc
   simp only [List.mem_cons];constructor
   ·rintro (h|⟨h,h'⟩)
    ·exact .inl h
    ·exact .inr ⟨.inr h,h'⟩
   ·rintro (h|⟨rfl|h,h'⟩)
    ·exact .inl h
    ·by_cases hx:x∈o
     ·exact .inl hx
     ·exact absurd ⟨h',hx⟩ hc
    ·exact .inr ⟨h,h'⟩
theorem VX (hv:kT p) (hR:p.regs=R) (x:Int):x∈fB [] (qC p R)↔0<=x/\x < R:=by
 rw [(tJ (qC p R) []).2 x];have hp3:=hv.p3;have hp1:=hv.p1;constructor
 ·rintro (h|⟨h,h0⟩)
  ·cases h
  ·refine ⟨h0,?_⟩;unfold qC at h;rcases List.mem_append.1 h with h|h
   ·rcases List.mem_append.1 h with h|h
    ·obtain ⟨j,hj,rfl⟩:=List.mem_map.1 h;have:=List.mem_range.1 hj;omega
    ·obtain ⟨g,hg,rfl⟩:=List.mem_map.1 h;obtain ⟨k,hk⟩:=List.getElem?_of_mem hg;have:=(hv.nodes k g hk).d;rcases this with h|h<;>omega
   ·obtain ⟨j,hj,rfl⟩:=List.mem_map.1 h;have:=List.mem_range.1 hj;omega
 ·rintro ⟨h0,h1⟩;refine .inr ⟨?_,h0⟩;unfold qC;refine List.mem_append.2 (.inr (List.mem_map.2 ⟨x.toNat,List.mem_range.2 (by omega),by omega⟩))
theorem Al.good {of:List Int} (hv:kT p) (hR:p.regs=R) (hi:(fB [] (qC p R)).length<=i) (h:Al p R (fB [] (qC p R)) i of slots):pD p R of slots:=by
 have lt:∀ {r:Nat} {x:Int},of[r]?=some x->r < R:=λh'=>by have:=(List.getElem?_eq_some_iff.1 h').1;have:=h.len;omega
 have hall:∀ (r:Nat) (x:Int),of[r]?=some x->qH x slots/\rZ p of r x:=λr x hx=>(h.placed r x hx).1 (by rw [List.take_of_length_le hi,VX hv hR];have:=lt hx;omega);have hlen:=h.len
 have ap:∀ S:Nat->Prop,(∀ a b,a≠b->S a->S b->yS p a b)->FP S R of:=by
  intro S hS r s hsr hr h2 h3 he;obtain ⟨x,hx⟩:=bE (l:=of) (j:=r) (by omega);exact (hall r x hx).2.2 s x (by rw [<- he];exact hx) (hS r s (by omega) h2 h3) rfl
 exact ⟨h.len,h.s0,h.s1,λr x hx=>(hall r x hx).1,λk hk=>ap _ λa b hab ha hb=>⟨hab,.inr ⟨k,hk,ha,hb⟩⟩,λk hk hlb r x hal hne hx=>(hall r x hx).2.1 ⟨k,hk,hlb,hal,hne⟩,ap _ λa b hab ha hb=>⟨hab,.inl ⟨ha,hb⟩⟩⟩
theorem aJa (hp:pQ w pv p) (hv:kT p) (hR:p.regs=R) {Q:Nat->List Int->Int->Prop} (q0:Q 0 (List.replicate R 0) 0)
  (qs:∀ (i:Nat) (of:List Int) (slots:Int) (r:Nat) (at':Int),Al p R (fB [] (qC p R)) i of slots->Q i of slots->(fB [] (qC p R))[i]?=some (r:Int)->r < R->rZ p of r at'->(at'=5\/(at'=6/\¬ rZ p of r 5)\/(16<=at'/\¬ rZ p of r 5/\¬ rZ p of r 6))->(∀ x,16<=x->x < at'->¬ rZ p of r x)->Q (i+1) (of.set r at') (max slots (at' - 15))) :
  aC prog 18 #[pv] w λr w'=>(∃ (ofv:Y) (of:List Int) (slots:Int),r=.agg #[ofv,i64 slots]/\aN w' ofv of/\pD p R of slots/\Q (fB [] (qC p R)).length of slots)/\aE w w':=by
 have hp0:=hp;obtain ⟨ns,rfl,hns,hargs⟩:=hp;have hl1:=hv.l1;have hl2:=hv.l2;have hr1:=hv.r1;have hr2:=hv.r2;have hp1:=hv.p1;have hp2:=hv.p2;have hp3:=hv.p3;apply bHp;unfold aAt;refine bx λb w1 hb x1=>?_;refine zA DX λw2 hz x2=>?_;have hb2:=hb.ext x2;have X2:=x1.trans x2;refine iF hb2 qG rfl ?_;refine (uN (p:=p) (hp0.ext X2) hv).mono λr w3 ⟨hr,x3⟩=>?_;subst hr;refine dC.2 (aP.2 ?_);have X3:=X2.trans x3;refine iF (hb2.ext x3) qG rfl ?_;refine (CT (hp0.ext X3) hv hR).mono λrv w4 ⟨⟨g0,sg,ov,m,sb,hrv,hmat,hsb,hsbl,hov,hm,hs⟩,x4⟩=>?_;subst hrv;refine rX aEt rfl (by have:=GT hov;show (bY (sl R g0)&&(bY (sl R sg)&&(bY ov&&true)))=true;rw [this];rfl) λw5 hu5 x5=>?_;have x25:=(x3.trans x4).trans x5;refine bC (hb2.ext x25) gK aG rfl ?_;refine xU hR underlying23 bW rfl (n:=R) (by omega) (by omega) λw6 hof6 x6 hsz6=>?_;refine oD bJw [(0,.slice (some ⟨w5.heap.size,0,none⟩) R R)] rfl rfl ?_;refine rX bIp rfl rfl λw7 hx7 x7=>?_;have x57:=x6.trans x7;have hlx7:=hx7.lt;have hord:=tI [] (qC p R)
 have hordl:(fB [] (qC p R)).length<=1000:=by
  have hol:(qC p R).length<=300:=by
   simp only [qC,List.length_append,List.length_map,xC];omega
  simp only [List.length_nil] at hord;omega
 have hnd:=(tJ (qC p R) []).1 List.nodup_nil;refine bC (hu5.ext x57).boxed dR bF rfl (fQ aQ (hov.ext (x5.trans x57)) ?_)
 refine ⟨λv w'=>∃ (i:Nat) (of:List Int) (slots:Int),v=i64 i/\i<=(fB [] (qC p R)).length/\aE w5 w'/\bO w' w5.heap.size (of.map i64) 3/\bO w' w6.heap.size [.slice (some ⟨w5.heap.size,0,none⟩) R R,i64 slots] 72/\Al p R (fB [] (qC p R)) i of slots/\Q i of slots,
  λv _=>(fB [] (qC p R)).length - (RowKit.intOf v).toNat,⟨0,List.replicate R 0,0,rfl,Nat.zero_le _,x57,by simpa using hof6.ext x7,hx7,Al.start _ _ _,q0⟩,?_⟩
 rintro _ w8 ⟨i,of,slots,rfl,hi,x8,hof8,hx8,hal,hq⟩ _;have hlen:=hal.len;have hs0:=hal.s0;have hs1:=hal.s1;refine aW.2 (aB (λhlt=>?_) λhge=>?_)
 ·have hi':i < (fB [] (qC p R)).length:=by omega
  obtain ⟨rz,hrz⟩:=bE hi';have hrb:=(VX hv hR rz).1 (List.mem_of_getElem? hrz);obtain ⟨r,rfl⟩:∃ r:Nat,rz=r:=⟨rz.toNat,by omega⟩;have hr:r < R:=by omega
  have hof0:of[r]?=some 0:=by
   obtain ⟨x,hx⟩:=bE (l:=of) (j:=r) (by omega);rw [hx,(hal.placed r x hx).2 λhmem=>?_];obtain ⟨j,hj⟩:=List.getElem?_of_mem hmem;rw [List.getElem?_take] at hj;split at hj
   ·have:=aCf hnd hj hrz;omega
   ·cases hj
  refine lV aQ aG (hov.ext (x5.trans x8)) (by omega) (by omega) (cK hrz) ?_
  refine ⟨λv w'=>∃ at':Int,v=i64 at'/\aE w8 w'/\(at'=5\/(at'=6/\¬ rZ p of r 5)\/(16<=at'/\¬ rZ p of r 5/\¬ rZ p of r 6))/\∀ x,16<=x->x < at'->¬ rZ p of r x,λv _=>(100 - RowKit.intOf v).toNat,
   ⟨5,rfl,aE.refl _,.inl rfl,λx h1 h2=>by omega⟩,?_⟩
  rintro _ w9 ⟨at',rfl,x9,hat,hno⟩ _;have hfree:∀ x,16<=x->x < at'->x∈of:=λx h1 h2=>Classical.byContradiction λhn=>hno x h1 h2 ⟨λ_=>by omega,λo y hy _ he=>hn (he▸List.mem_of_getElem? hy)⟩
  have hat55:at'<=55:=by
   by_cases h16:16<=at'
   ·have:=aBj hlen hof0 h16 hfree;omega
   ·omega
  have x59:=x8.trans x9
  have hofS:aN w9 (.slice (some ⟨w5.heap.size,0,none⟩) R R) of:=by
   have:=(hof8.ext x9).slice (n:=of.length) (by simp) (by unfold maxLen;omega);unfold aN;rw [<- hlen];exact this
  refine iF (hu5.ext x59).boxed TH rfl ?_;refine bC (hx8.ext x9).boxed lQ bF rfl ?_;refine (aGq (by omega) ((hmat.ext x5).ext x59) ((hsb.ext x5).ext x59) hsbl hofS hlen hr).mono λq w10 ⟨⟨ok,hqv,hok⟩,x10⟩=>?_;subst hqv;rw [bJg hlen hm hs hr] at hok;refine dC.2 (aI.mk (λhn=>?_) λhn=>?_)
  ·have hnot:¬ rZ p of r at':=λh=>by have:=hok.2 h;subst this;cases hn
   refine bA.2 ?_;rw [aM (by omega)];refine aH.2 (aB (λh7=>?_) λh7=>?_)
   ·have h6:at'=6:=by omega
    subst h6;refine ⟨⟨16,rfl,x9.trans x10,.inr (.inr ⟨by omega,?_,hnot⟩),λx h1 h2=>by omega⟩,by simp only [aL];decide⟩;rcases hat with h|⟨_,h⟩|⟨h,_⟩
    ·omega
    ·exact h
    ·omega
   ·refine ⟨⟨at'+1,rfl,x9.trans x10,?_,λx h1 h2=>?_⟩,by simp only [aL];omega⟩
    ·rcases hat with rfl|⟨h,_⟩|⟨h,h1,h2⟩
     ·exact .inr (.inl ⟨by omega,hnot⟩)
     ·omega
     ·exact .inr (.inr ⟨by omega,h1,h2⟩)
    ·by_cases hxa:x=at'
     ·subst hxa;exact hnot
     ·exact hno x h1 (by omega)
  ·have hyes:rZ p of r at':=hok.1 (by simpa using hn);have x810:=x9.trans x10;refine bC (hx8.ext x810).boxed lQ bF rfl ?_;refine VI aQ bW (hof8.ext x810) (by simp [hlen]) (by omega) (by omega) rfl ?_;have hx11:bO (w10.setCell ⟨w5.heap.size,(r:Int).toNat,none⟩ (i64 at')) w6.heap.size [.slice (some ⟨w5.heap.size,0,none⟩) R R,i64 slots] 72:=(hx8.ext x810).other (by omega);refine bC hx11.boxed mH aG rfl ?_;refine eY.2 (bA.2 ?_);rw [show IntKind.i64.wrap (at' - 16)=at' - 16 from aM (by omega),aM (by omega)];refine mx2 λc hc1 hc2 hc3=>?_;refine FS mH bW hx11 rfl (by simp) rfl (bA.2 ?_);rw [aM (by omega),bK];have hcm:c=max slots (at' - 15):=by omega
   subst hcm;refine ⟨⟨i+1,of.set r at',_,rfl,by omega,((x8.trans x810).setCell (Nat.le_refl _) _).setCell (by omega) _,?_,hx11.set 1 _,hal.step hr hrz hyes (by omega) hat55,qs i of slots r at' hal hq hrz hr hyes hat hno⟩,by simp only [aL];omega⟩;have h1:=(hof8.ext x810).set r (i64 at');have h2:=bO.other (g':=w6.heap.size) (j:=1) (u:=i64 (max slots (at' - 15))) h1 (by omega);rw [List.map_set];simpa using h2
 ·have hin:i=(fB [] (qC p R)).length:=by omega
  subst hin;refine iF hx8.boxed aHa rfl ?_;have hzl:=hz.lt;have h25:=x25.size;refine yW DX (hz.ext (x25.trans x8)) (l:=[.slice (some ⟨w5.heap.size,0,none⟩) R R,i64 slots]) rfl rfl rfl rfl λw' h' hch=>?_;refine ⟨_,nS underlying72 rfl DX h' rfl,⟨_,rfl⟩,⟨_,of,slots,rfl,?_,hal.good hv hR (Nat.le_refl _),hq⟩,hch.ext w (X2.trans (x25.trans x8)) x1.size⟩;have:=(hch.other (by omega) hof8).slice (n:=of.length) (by simp) (by unfold maxLen;omega);unfold aN;rw [<- hlen];exact this
end Go.Proofs.YtjcmcfidblhnnaaGreatDoor
namespace Go.Vc
section
variable {P:Program} {w:O} {K:Y->O->Prop} {S:O->Prop} {L:Y->Prop}
theorem EO {s f o b off:Nat} (h:FA P s f o) (hk:K (.pointer (some ⟨b,off+o,none⟩)) w):V P (Instr.fieldAt s (.pointer (some ⟨b,off,none⟩)) f) w K:=V.ok (h.ex w b off) hk
theorem yfA {s f o b off:Nat} (h:FA P s f o) (hk:L (.pointer (some ⟨b,off+o,none⟩))):aD P S (Instr.fieldAt s (.pointer (some ⟨b,off,none⟩)) f) L:=aD.ok (λw' _=>h.ex w' b off) hk
theorem rU {s f o s' f' o' ft b:Nat} {cs:List Y} {u:Y} (hb:aY w b cs) (h:FA P s f o) (h':FA P s' f' o') (hl:L1 P ft) (hc:cs[o+o']?=some u) (hk:K u w) :
  V P (Instr.fieldAt s (.pointer (some ⟨b,0,none⟩)) f) w λq w1=>V P (Instr.fieldAt s' q f') w1 λq w2=>V P (Instr.loadAt ft q) w2 K:=by
 refine V.ok (h.ex w b 0) (ldf h' hl ?_ hk);rw [Nat.add_assoc];exact hb _ u hc
theorem yB2 {s f o s' f' o' ft b:Nat} {cs:List Y} {u:Y} (hb:∀ w',S w'->aY w' b cs) (h:FA P s f o) (h':FA P s' f' o') (hl:L1 P ft) (hc:cs[o+o']?=some u) (hk:L u) :
  aD P S (Instr.fieldAt s (.pointer (some ⟨b,0,none⟩)) f) λq=>aD P S (Instr.fieldAt s' q f') λq=>aD P S (Instr.loadAt ft q) L:=by
 obtain ⟨d,hd,ha⟩:=hl;refine aD.ok (λw' _=>h.ex w' b 0) (aD.ok (λw' _=>h'.ex w' b _) (aD.ok (λw' hw=>jD hd ha ?_) hk));rw [Nat.add_assoc];exact hb w' hw _ u hc
theorem bIk {s f o s' f' o' ft b n by_:Nat} {z u:Y} {cs:List Y} {e:TypeId} {K':O->Prop} (hf:FA P s f o) (hf':FA P s' f' o') (hi:dD P ft z 1 by_) (hb:bO w b cs e) (hn:cs.length=n) (ho:o+o' < n) (hu:bY u=true) (hk:K' (w.setCell ⟨b,o+o',none⟩ u)) :
  V P (Instr.fieldAt s (.pointer (some ⟨b,0,none⟩)) f) w λq w1=>V P (Instr.fieldAt s' q f') w1 λq w2=>U P (Instr.storeAt ft q u) w2 λ_ w3=>K' w3:=by
 refine V.ok (hf.ex w b 0) (V.ok (hf'.ex w b _) ?_);have hc:=hb.cell (o+o');rw [List.getElem?_eq_getElem (by omega)] at hc;rw [Nat.zero_add];exact U.ok (mW hi hu hc (hb.frozen _)) hk
structure BG (P:Program) (t:TypeId) (zs:List Y) (lay:List (Nat × Nat)):Prop where
 of ::
 ex:∃ fs n b,P.underlying t=some (.struct fs)/\dD P t (.agg zs.toArray) n b/\∀ w:O,(fs.mapM (λf=>do pure (f.offset,<- sizeOf f.type)):Sem (Array (Nat × Nat))).run P w=.ok lay.toArray w
theorem BG.run {t:TypeId} {zs:List Y} {lay:List (Nat × Nat)} (h:BG P t zs lay) {parts:Array (Nat × Y)} {cs:Array Y} (hf:Instr.fill (lay.toArray[·]?) zs.toArray parts.toList=some cs):(Instr.build t parts).run P w=.ok (.agg cs) w:=by
 obtain ⟨fs,n,b,hu,hi,hm⟩:=h;simp only [Instr.build,Sem.run_bind,qU hi,Result.andThen_ok,run_underlying hu,hm,Value.cells];rw [hf];simp
theorem KF {t:TypeId} {zs:List Y} {lay:List (Nat × Nat)} (h:BG P t zs lay) {parts:Array (Nat × Y)} {cs:Array Y} (hf:Instr.fill (lay.toArray[·]?) zs.toArray parts.toList=some cs) (hk:K (.agg cs) w):V P (Instr.build t parts) w K:=V.ok (h.run hf) hk
theorem bIg {t:TypeId} {zs:List Y} {lay:List (Nat × Nat)} (h:BG P t zs lay) {parts:Array (Nat × Y)} {cs:Array Y} (hf:Instr.fill (lay.toArray[·]?) zs.toArray parts.toList=some cs) (hk:L (.agg cs)):aD P S (Instr.build t parts) L:=aD.ok (λ_ _=>h.run hf) hk
end
end Go.Vc
namespace Go.Proofs.YtjcmcfidblhnnaaGreatDoor
open Tryz
open Go.Vc
variable {w:O} {K:Y->O->Prop}
def bAs:List Y:=[i64 0,i64 0,i64 0,i64 0,i64 0,i64 0,i64 0,i64 0,i64 0,i64 0,i32 0]
theorem AW:BG prog 180 bAs [(0,1),(1,6),(7,1),(8,1),(9,1),(10,1)]:=⟨_,_,_,underlying180,wL,λw=>by kernel_rfl⟩
theorem WZ (i:gN):Instr.fill (([(0,1),(1,6),(7,1),(8,1),(9,1),(10,1)]:List (Nat × Nat)).toArray[·]?) bAs.toArray [(0,i64 1),(1,.agg [i64 i.op,i64 i.d,i64 i.n,i64 i.m,i64 i.imm,i64 i.cond].toArray)]=some (cJ.one i).cells.toArray:=by kernel_rfl
def gN.v (i:gN):Y:=.agg #[i64 i.op,i64 i.d,i64 i.n,i64 i.m,i64 i.imm,i64 i.cond]
structure Ec where
 H:Nat->Prop
 B:Nat
 g:Nat
 pr:Y
 rg:Y
 nv:Y
 ov:Y
 sl:Y
 ap:Int
 fr:Y
 of:List Int
 N:Nat
structure Eo (c:Ec) (wb:O):Prop where
 gB:c.g < c.B/\c.B<=wb.heap.size
 hH:∀ k,c.H k->k < wb.heap.size/\k≠c.g
 of:∀ w,Fr (λk=>¬ c.H k) wb w->aN w c.ov c.of
 nn:∀ w,Fr (λk=>¬ c.H k) wb w->∃ vs,aA w c.nv 1 c.N vs
structure Ew (c:Ec) (wb w:O) (l:List cJ) (ys:List Y):Prop where
 o:Eo c wb
 fr:Fr (λk=>¬ c.H k) wb w
 at_:∃ iv tv,bO w c.g [c.pr,c.rg,c.nv,c.ov,c.sl,i64 c.ap,iv,tv,c.fr] 135/\w.ownsRow c.B 180 11 iv l.length (itC l)/\w.ownsRow c.B 43 1 tv ys.length ys/\(∀ k,iv.ownBlock=some k->¬ c.H k)/\(∀ k,tv.ownBlock=some k->¬ c.H k)
variable {c:Ec} {wb:O} {l:List cJ} {ys:List Y}
theorem Ew.gH (h:Ew c wb w l ys):¬ c.H c.g:=λhg=>(h.o.hH _ hg).2 rfl
theorem Ew.ext {w':O} (h:Ew c wb w l ys) (hx:aE w w'):Ew c wb w' l ys:=by
 obtain ⟨o,fr,iv,tv,a1,a2,a3,a4⟩:=h;exact ⟨o,fr.trans (Fr.of_ext hx) λ_ _ h=>h,iv,tv,a1.ext hx,hx.own a2,hx.own a3,a4⟩
theorem Ew.ofAt (h:Ew c wb w l ys):aN w c.ov c.of:=h.o.of w h.fr
def Ec.hold (c:Ec) (a b:Nat):Ec:={ c with H:=λk=>c.H k\/(a<=k/\k < b) }
theorem Ew.hold {w1:O} (h:Ew c wb w l ys) (hx:aE w w1):Ew (c.hold w.heap.size w1.heap.size) w1 w1 l ys:=by
 obtain ⟨o,fr,iv,tv,a1,a2,a3,a4,a5⟩:=h;have f1:Fr (λk=>¬ c.H k) wb w1:=fr.trans (Fr.of_ext hx) λ_ _ h=>h;have hg:=a1.lt;have s1:=f1.size;have fm:∀ {w'},Fr (λk=>¬ (c.hold w.heap.size w1.heap.size).H k) w1 w'->Fr (λk=>¬ c.H k) wb w':=λhf=>f1.trans (hf.mono λk hk hc=>hk (.inl hc)) λ_ _ h=>h;refine ⟨⟨⟨o.gB.1,Nat.le_trans o.gB.2 s1⟩,λk hk=>?_,λw' hf=>o.of w' (fm hf),λw' hf=>o.nn w' (fm hf)⟩,Fr.refl _ _,iv,tv,a1.ext hx,hx.own a2,hx.own a3,λk hk hc=>?_,λk hk hc=>?_⟩
 ·rcases hk with hk|⟨h1,h2⟩
  ·have:=o.hH k hk;exact ⟨by omega,this.2⟩
  ·exact ⟨h2,by show k≠c.g;omega⟩
 ·rcases hc with hc|⟨hc,_⟩
  ·exact a4 k hk hc
  ·have:=(a2.lt k hk).2;omega
 ·rcases hc with hc|⟨hc,_⟩
  ·exact a5 k hk hc
  ·have:=(a3.lt k hk).2;omega
theorem Ew.free {w1 w':O} {a b:Nat} {l':List cJ} {ys':List Y} (h:Ew c wb w l ys) (hx:aE w w1) (h':Ew (c.hold a b) w1 w' l' ys'):Ew c wb w' l' ys':=by
 obtain ⟨o,fr,iv,tv,a1,a2,a3,a4,a5⟩:=h';exact ⟨h.o,(h.fr.trans (Fr.of_ext hx) λ_ _ h=>h).trans (fr.mono λk hk hc=>hk (.inl hc)) λ_ _ h=>h,iv,tv,a1,a2,a3,λk hk hc=>a4 k hk (.inl hc),λk hk hc=>a5 k hk (.inl hc)⟩
theorem aHj (l:List cJ) (x:cJ):itC (l++[x])=itC l++x.cells:=by simp [itC]
theorem tB (x:cJ):x.cells.all bY=true:=by cases x<;>rfl
structure Er (c:Ec) (wb w:O) (l:List cJ) (ys:List Y) (v:Y):Prop where
 o:Eo c wb
 fr:Fr (λk=>¬ c.H k) wb w
 at_:∃ iv tv,bO w c.g [c.pr,c.rg,c.nv,c.ov,c.sl,i64 c.ap,iv,tv,c.fr] 135/\w.ownsRow c.B 180 11 v l.length (itC l)/\w.ownsRow c.B 43 1 tv ys.length ys/\(∀ k,v.ownBlock=some k->¬ c.H k)/\(∀ k,tv.ownBlock=some k->¬ c.H k)
theorem bJh {x:cJ} {cs:Array Y} (he:cs=x.cells.toArray) (hk:∀ u w1,w1.ownsRow w.heap.size 180 11 u 1 x.cells->aE w w1->K u w1):V prog (Instr.buildSlice 66 1 #[(0,.agg cs)]) w K:=by
 subst he;refine zX underlying66 wL rfl (by decide) [.agg x.cells.toArray] rfl rfl (by intro v hv;rw [List.mem_singleton] at hv;subst hv;simpa [Value.cells] using x.len) (by decide) (by decide) λuv w1 ho1 x1=>?_;exact hk uv w1 (by simpa [Value.cells] using ho1) x1
theorem Ew.app {x:cJ} {u iv:Y} {B':Nat} (h:Ew c wb w l ys) (hl:l.length<=1000000) (hiv:w.cell? ⟨c.g,6,none⟩=some iv) (hu:w.ownsRow B' 180 11 u 1 x.cells) (hk:∀ v w',Er c wb w' (l++[x]) ys v->Fr (λk=>iv.ownBlock=some k) w w'->(∀ k,iv.ownBlock=some k->c.B<=k/\k < w.heap.size)->K v w') :
  V prog (Builtin.append_ #[66,66] 66 #[iv,u]) w K:=by
 have hg:=h.gH;obtain ⟨o,fr,iv',tv,a1,a2,a3,a4,a5⟩:=h;have hgB:=o.gB;have e0:=a1.cell 6;rw [hiv] at e0;cases e0;refine apG underlying66 wL rfl (by decide) a2 (aA.of_own hu) (tB x) (by omega) (by unfold maxLen;omega) (Nat.le_trans hgB.2 fr.size) λv2 w2 ho2 hg2 hl2=>?_;have f2:Fr (λk=>iv.ownBlock=some k) w w2:=Fr.of_grown hg2 λk hk=>hk;have hlo:∀ k,iv.ownBlock=some k->c.B<=k/\k < w.heap.size:=λk hk=>a2.lt k hk;rw [<- aHj] at ho2;refine hk v2 w2 ⟨o,fr.trans (f2.mono λk hk=>a4 k hk) λ_ _ h=>h,iv,tv,f2.blk a1 λhk=>?_,by rw [List.length_append];exact ho2,f2.own a3 λk hk hk'=>?_,λk hk=>?_,a5⟩ f2 hlo
 ·have:=hlo _ hk;omega
 ·rcases zM a3 a2 (by decide) with h|h
  ·rw [h] at hk;cases hk
  ·exact h (by rw [hk,hk'])
 ·rcases hl2 with h2|h2
  ·rw [h2] at hk;exact a4 k hk
  ·rw [h2] at hk;cases hk;intro hH;have h1:=(o.hH _ hH).1;have h3:=fr.size;omega
theorem Er.put {v:Y} {K':O->Prop} (h:Er c wb w l ys v) (hk:∀ w',Ew c wb w' l ys->K' w'):U prog (Instr.storeAt 66 (.pointer (some ⟨c.g,6,none⟩)) v) w λ_ w2=>K' w2:=by
 obtain ⟨o,fr,iv,tv,a1,a2,a3,a4,a5⟩:=h;have hgB:=o.gB;have hg:¬ c.H c.g:=λhg=>(o.hH _ hg).2 rfl;have f:Fr (λk=>k=c.g) w (w.setCell ⟨c.g,6,none⟩ v):=Fr.of_set rfl;refine U.ok (mW bAc (nU a2) (a1.cell 6) (a1.frozen _)) (hk _ ⟨o,fr.set hg,v,tv,a1.set 6 _,f.own a2 λk hk he=>?_,f.own a3 λk hk he=>?_,a4,a5⟩)
 ·have:=(a2.lt k hk).1;omega
 ·have:=(a3.lt k hk).1;omega
theorem Ew.items (h:Ew c wb w l ys):∃ iv tv,w.cell? ⟨c.g,6,none⟩=some iv/\bO w c.g [c.pr,c.rg,c.nv,c.ov,c.sl,i64 c.ap,iv,tv,c.fr] 135:=by
 obtain ⟨o,fr,iv,tv,a1,_⟩:=h;exact ⟨iv,tv,a1.cell 6,a1⟩
theorem Ew.push {x:cJ} {cs:Array Y} {K':O->Prop} (he:cs=x.cells.toArray) (h:Ew c wb w l ys) (hl:l.length<=1000000) (hk:∀ w',Ew c wb w' (l++[x]) ys->K' w') {iv:Y} (hiv:w.cell? ⟨c.g,6,none⟩=some iv) :
  V prog (Instr.buildSlice 66 1 #[(0,.agg cs)]) w λu w1=>V prog (Builtin.append_ #[66,66] 66 #[iv,u]) w1 λt2 w2=>
  Go.Vc.bL (.pointer (some ⟨c.g,0,none⟩))/\V prog (Instr.fieldAt 135 (.pointer (some ⟨c.g,0,none⟩)) 3) w2 λq w3=>V prog (Instr.fieldAt 68 q 0) w3 λq w4=>U prog (Instr.storeAt 66 q t2) w4 λ_ w5=>K' w5:=by
 refine bJh he λ_ _ ho1 x1=>?_;refine (h.ext x1).app hl (x1.cell hiv) ho1 λ_ _ hr _ _=>⟨.inl ⟨_,rfl⟩,?_⟩;refine EO bR (EO lR ?_);have:=hr.put hk;exact this
theorem aGa {i:gN} (h:Ew c wb w l ys) (hl:l.length<=1000000) (hk:∀ w',Ew c wb w' (l++[.one i]) ys->K (.tuple #[]) w'):aC prog 78 #[.pointer (some ⟨c.g,0,none⟩),i.v] w K:=by
 apply bFp;unfold YX;refine bxK λw1 hb x1=>?_;have hb:bO w1 w.heap.size [i64 i.op,i64 i.d,i64 i.n,i64 i.m,i64 i.imm,i64 i.cond] 83:=hb;have h2:=h.ext x1.drew;obtain ⟨iv,tv,e1,e2⟩:=h2.items;refine aK.mk' (λw'=>aY w' c.g [c.pr,c.rg,c.nv,c.ov,c.sl,i64 c.ap,iv,tv,c.fr]/\aY w' w.heap.size [i64 i.op,i64 i.d,i64 i.n,i64 i.m,i64 i.imm,i64 i.cond]) ⟨e2.boxed,(hb.drew).boxed⟩ ?_;refine ⟨.inl ⟨_,rfl⟩,yB2 (λw' hx=>hx.1) bR lR MG rfl ?_⟩;refine yA (λw' hx=>hx.2) nI rfl (bIg AW (WZ i) ?_);refine bJh (x:=.one i) rfl λu w3 ho3 x3=>⟨⟨(e2.ext x3).boxed,(hb.drew.ext x3).boxed⟩,?_⟩
 have lo:∀ k,iv.ownBlock=some k->k < w.heap.size/\k≠c.g:=λk hk=>by
  obtain ⟨iv0,tv0,e3,e4⟩:=h.items;have e5:=(x1.drew).cell e3;rw [e1] at e5;cases e5;obtain ⟨o,_,iv',tv',b1,b2,_⟩:=h;have e6:=b1.cell 6;rw [e3] at e6;cases e6;have:=(b2.lt _ hk);have:=o.gB;omega
 refine (h2.ext x3).app hl (x3.cell e1) ho3 λv w4 hr f4 _=>⟨⟨?_,?_⟩,.inl ⟨_,rfl⟩,?_⟩
 ·exact (f4.blk (e2.ext x3) λhk=>(lo _ hk).2 rfl).boxed
 ·exact (f4.blk (hb.drew.ext x3) λhk=>by have:=(lo _ hk).1;omega).boxed
 ·refine yfA bR (yfA lR ?_);have:=hr.put hk;exact this
theorem aPp {q:Int} (h:Ew c wb w l ys) (hl:l.length<=1000000) (hk:∀ w',Ew c wb w' (l++[.place q]) ys->K (.tuple #[]) w'):aC prog 38 #[.pointer (some ⟨c.g,0,none⟩),i64 q] w K:=by
 apply bGz;unfold aAe;obtain ⟨iv,tv,e1,e2⟩:=h.items;refine ⟨.inl ⟨_,rfl⟩,rU e2.boxed bR lR MG rfl ?_⟩;refine KF AW rfl ?_;exact h.push rfl hl hk e1
theorem bCq {q d:Int} (h:Ew c wb w l ys) (hl:l.length<=1000000) (hk:∀ w',Ew c wb w' (l++[.jump d q]) ys->K (.tuple #[]) w'):aC prog 76 #[.pointer (some ⟨c.g,0,none⟩),i64 d,i64 q] w K:=by
 apply bFr;unfold YZ;obtain ⟨iv,tv,e1,e2⟩:=h.items;refine ⟨.inl ⟨_,rfl⟩,rU e2.boxed bR lR MG rfl ?_⟩;refine KF AW rfl ?_;exact h.push rfl hl hk e1
theorem aGe {q d:Int} (h:Ew c wb w l ys) (hl:l.length<=1000000) (hk:∀ w',Ew c wb w' (l++[.load d q]) ys->K (.tuple #[]) w'):aC prog 69 #[.pointer (some ⟨c.g,0,none⟩),i64 d,i32 q] w K:=by
 apply bFz;unfold ZG;obtain ⟨iv,tv,e1,e2⟩:=h.items;refine ⟨.inl ⟨_,rfl⟩,rU e2.boxed bR lR MG rfl ?_⟩;refine KF AW rfl ?_;exact h.push rfl hl hk e1
theorem aEh {op d m:Int} (h:Ew c wb w l ys) (hl:l.length<=1000000) (hk:∀ w',Ew c wb w' (l++[iJ op d m]) ys->K (.tuple #[]) w'):aC prog 67 #[.pointer (some ⟨c.g,0,none⟩),i64 op,i64 d,i64 m] w K:=by
 apply bGb;unfold ZI;refine oD nZ [(0,i64 op),(1,i64 d),(3,i64 m)] rfl rfl ?_;exact aGa (i:=⟨op,d,0,m,0,0⟩) h hl hk
theorem IW {op d m:Int} (h:Ew c wb w l ys) (hl:l.length<=1000000) (hk:∀ w',Ew c wb w' (l++[iY op d m]) ys->K (.tuple #[]) w'):aC prog 68 #[.pointer (some ⟨c.g,0,none⟩),i64 op,i64 d,i64 m] w K:=by
 apply bGa;unfold ZH;refine oD nZ [(0,i64 op),(1,i64 d),(4,i64 m)] rfl rfl ?_;exact aGa (i:=⟨op,d,0,0,m,0⟩) h hl hk
structure oA (c:Ec) (wb:O) (f:FuncId) (args:Array Y) (xs:List cJ):Prop where
 run:∀ {w:O} {l:List cJ} {ys:List Y} {K:Y->O->Prop},Ew c wb w l ys->l.length+xs.length<=900000->(∀ w',Ew c wb w' (l++xs) ys->K (.tuple #[]) w')->aC prog f args w K
theorem Ew.oAt (h:Ew c wb w l ys):∃ cs,aY w c.g cs/\cs[3]?=some c.ov/\cs[5]?=some (i64 c.ap)/\cs[2]?=some c.nv:=by
 obtain ⟨iv,tv,e1,e2⟩:=h.items;exact ⟨_,e2.boxed,rfl,rfl,rfl⟩
theorem bCh {reg r:Int} (hr0:0<=r) (hr1:r < c.of.length) (hb:∀ a∈c.of,0<=a/\a < 1000):oA c wb 131 #[.pointer (some ⟨c.g,0,none⟩),i64 reg,i64 r] [eLd c.of reg r]:=by
 refine ⟨λ{w l ys K} h hl hk=>?_⟩;apply aYb;unfold QY;obtain ⟨cs,e1,e2,_⟩:=h.oAt;obtain ⟨r,rfl⟩:∃ k:Nat,r=k:=⟨r.toNat,by omega⟩;obtain ⟨a,ha⟩:=bE (l:=c.of) (j:=r) (by omega);have hab:=hb a (List.mem_of_getElem? ha);have hd:c.of.getD ((r:Int)).toNat 0=a:=by rw [List.getD_eq_getElem?_getD,Int.toNat_natCast,ha];rfl
 refine ⟨.inl ⟨_,rfl⟩,rU e1 eD lQ bF e2 ?_⟩;refine lV aQ aG h.ofAt (by omega) (by omega) (cK ha) (aW.2 (aB (λhlt=>?_) λhge=>?_))
 ·refine aEh h (by omega) λw' h'=>hk w' ?_;unfold eLd;dsimp only;rw [hd,if_pos hlt];exact h'
 ·refine eY.2 ?_;rw [aM (by omega)];refine oS.2 ?_;rw [aM (by omega)];refine IW h (by omega) λw' h'=>hk w' ?_;unfold eLd;dsimp only;rw [hd,if_neg hge];exact h'
theorem VH {reg r:Int} (hr0:0<=r) (hr1:r < c.of.length) (hb:∀ a∈c.of,0<=a/\a < 1000):oA c wb 37 #[.pointer (some ⟨c.g,0,none⟩),i64 r,i64 reg] [eSt c.of r reg]:=by
 refine ⟨λ{w l ys K} h hl hk=>?_⟩;apply bHa;unfold aAf;obtain ⟨cs,e1,e2,_⟩:=h.oAt;obtain ⟨r,rfl⟩:∃ k:Nat,r=k:=⟨r.toNat,by omega⟩;obtain ⟨a,ha⟩:=bE (l:=c.of) (j:=r) (by omega);have hab:=hb a (List.mem_of_getElem? ha);have hd:c.of.getD ((r:Int)).toNat 0=a:=by rw [List.getD_eq_getElem?_getD,Int.toNat_natCast,ha];rfl
 refine ⟨.inl ⟨_,rfl⟩,rU e1 eD lQ bF e2 ?_⟩;refine lV aQ aG h.ofAt (by omega) (by omega) (cK ha) (aW.2 (aB (λhlt=>?_) λhge=>?_))
 ·refine aEh h (by omega) λw' h'=>hk w' ?_;unfold eSt;dsimp only;rw [hd,if_pos hlt];exact h'
 ·refine eY.2 ?_;rw [aM (by omega)];refine oS.2 ?_;rw [aM (by omega)];refine IW h (by omega) λw' h'=>hk w' ?_;unfold eSt;dsimp only;rw [hd,if_neg hge];exact h'
end Go.Proofs.YtjcmcfidblhnnaaGreatDoor
namespace Go.Proofs.YtjcmcfidblhnnaaGreatDoor
open Tryz
open Go.Vc
variable {w:O} {K:Y->O->Prop} {c:Ec} {wb:O} {l:List cJ} {ys:List Y}
variable {n:aJ}
theorem DI (i:gN):oA c wb 78 #[.pointer (some ⟨c.g,0,none⟩),i.v] [.one i]:=⟨λh hl hk=>aGa h (by omega) hk⟩
theorem nR (op d m:Int):oA c wb 67 #[.pointer (some ⟨c.g,0,none⟩),i64 op,i64 d,i64 m] [iJ op d m]:=⟨λh hl hk=>aEh h (by omega) hk⟩
theorem xD (op d m:Int):oA c wb 68 #[.pointer (some ⟨c.g,0,none⟩),i64 op,i64 d,i64 m] [iY op d m]:=⟨λh hl hk=>IW h (by omega) hk⟩
theorem TI (d q:Int):oA c wb 76 #[.pointer (some ⟨c.g,0,none⟩),i64 d,i64 q] [.jump d q]:=⟨λh hl hk=>bCq h (by omega) hk⟩
theorem VV (q:Int):oA c wb 38 #[.pointer (some ⟨c.g,0,none⟩),i64 q] [.place q]:=⟨λh hl hk=>aPp h (by omega) hk⟩
theorem DJ (d q:Int):oA c wb 69 #[.pointer (some ⟨c.g,0,none⟩),i64 d,i32 q] [.load d q]:=⟨λh hl hk=>aGe h (by omega) hk⟩
theorem oA.go {f:FuncId} {args:Array Y} {xs rs ms l':List cJ} (he:oA c wb f args xs) (h:Ew c wb w l' ys) (hm:l'++xs++rs=l++ms) (hl:l.length+ms.length<=900000) (hk:∀ w',Ew c wb w' (l'++xs) ys->K (.tuple #[]) w'):aC prog f args w K:=by
 refine he.run h ?_ hk;have:=congrArg List.length hm;simp only [List.length_append] at this;omega
theorem aRg:oA c wb 186 #[.pointer (some ⟨c.g,0,none⟩)] (rC):=by
 refine ⟨λ{w l ys K} h hl hk=>?_⟩;apply aVx;unfold OY;refine (xD 8 0 0).go (l:=l) (ms:=rC) (rs:=[iJ 17 0 0]) h (by simp [rC]) hl λw h=>?_;refine (nR 17 0 0).go (l:=l) (ms:=rC) (rs:=[]) h (by simp [rC]) hl λw h=>?_;refine hk w ?_;simpa [rC] using h
theorem XP:oA c wb 135 #[.pointer (some ⟨c.g,0,none⟩)] (lD):=by
 refine ⟨λ{w l ys K} h hl hk=>?_⟩;apply aXy;unfold QV;refine (nR 22 0 1).go (l:=l) (ms:=lD) (rs:=[iJ 18 0 0]++[iJ 21 0 0]) h (by simp [lD]) hl λw h=>?_;refine (nR 18 0 0).go (l:=l) (ms:=lD) (rs:=[iJ 21 0 0]) h (by simp [lD]) hl λw h=>?_;refine (nR 21 0 0).go (l:=l) (ms:=lD) (rs:=[]) h (by simp [lD]) hl λw h=>?_;refine hk w ?_;simpa [lD] using h
theorem aDw:oA c wb 134 #[.pointer (some ⟨c.g,0,none⟩)] (rB):=by
 refine ⟨λ{w l ys K} h hl hk=>?_⟩;apply aXz;unfold QW;refine (nR 21 0 0).go (l:=l) (ms:=rB) (rs:=rC) h (by simp [rB]) hl λw h=>?_;refine (aRg).go (l:=l) (ms:=rB) (rs:=[]) h (by simp [rB]) hl λw h=>?_;refine hk w ?_;simpa [rB] using h
theorem IZ (op:Int):oA c wb 133 #[.pointer (some ⟨c.g,0,none⟩),i64 op] (pL op):=by
 refine ⟨λ{w l ys K} h hl hk=>?_⟩;apply aYa;unfold QX;refine (xD 8 2 31).go (l:=l) (ms:=pL op) (rs:=[iJ 12 1 2]++[iJ op 0 1]) h (by simp [pL]) hl λw h=>?_;refine (nR 12 1 2).go (l:=l) (ms:=pL op) (rs:=[iJ op 0 1]) h (by simp [pL]) hl λw h=>?_;refine (nR op 0 1).go (l:=l) (ms:=pL op) (rs:=[]) h (by simp [pL]) hl λw h=>?_;refine hk w ?_;simpa [pL] using h
theorem aIs:oA c wb 74 #[.pointer (some ⟨c.g,0,none⟩)] (kN):=by
 refine ⟨λ{w l ys K} h hl hk=>?_⟩;apply bFt;unfold ZB;refine (nR 21 0 0).go (l:=l) (ms:=kN) (rs:=[iJ 18 0 0]++[iJ 13 1 2]++[iJ 12 0 1]++[iJ 13 0 2]) h (by simp [kN]) hl λw h=>?_;refine (nR 18 0 0).go (l:=l) (ms:=kN) (rs:=[iJ 13 1 2]++[iJ 12 0 1]++[iJ 13 0 2]) h (by simp [kN]) hl λw h=>?_;refine (nR 13 1 2).go (l:=l) (ms:=kN) (rs:=[iJ 12 0 1]++[iJ 13 0 2]) h (by simp [kN]) hl λw h=>?_;refine (nR 12 0 1).go (l:=l) (ms:=kN) (rs:=[iJ 13 0 2]) h (by simp [kN]) hl λw h=>?_;refine (nR 13 0 2).go (l:=l) (ms:=kN) (rs:=[]) h (by simp [kN]) hl λw h=>?_;refine hk w ?_;simpa [kN] using h
theorem bAx (q:Int):oA c wb 75 #[.pointer (some ⟨c.g,0,none⟩),i64 q] (mR q):=by
 refine ⟨λ{w l ys K} h hl hk=>?_⟩;apply bFs;unfold ZA;refine (xD 9 7 0).go (l:=l) (ms:=mR q) (rs:=[cJ.jump 1 q]++[cJ.one ⟨44,0,0,0,0,0⟩]++[cJ.place q]++[iY 11 7 1]) h (by simp [mR]) hl λw h=>?_;refine (TI 1 q).go (l:=l) (ms:=mR q) (rs:=[cJ.one ⟨44,0,0,0,0,0⟩]++[cJ.place q]++[iY 11 7 1]) h (by simp [mR]) hl λw h=>?_;refine oD nZ [(0,i64 44)] rfl rfl ?_;refine (DI ⟨44,0,0,0,0,0⟩).go (l:=l) (ms:=mR q) (rs:=[cJ.place q]++[iY 11 7 1]) h (by simp [mR]) hl λw h=>?_;refine (VV q).go (l:=l) (ms:=mR q) (rs:=[iY 11 7 1]) h (by simp [mR]) hl λw h=>?_;refine (xD 11 7 1).go (l:=l) (ms:=mR q) (rs:=[]) h (by simp [mR]) hl λw h=>?_;refine hk w ?_;simpa [mR] using h
theorem bJu (op:Int):oA c wb 72 #[.pointer (some ⟨c.g,0,none⟩),i64 op] (oQ op):=by
 refine ⟨λ{w l ys K} h hl hk=>?_⟩;apply bFv;unfold ZD;refine aH.2 (aB (λe=>?_) λe6=>?_)
 ·have ee:oQ op=oQ 6:=by rw [e]
  rw [ee] at hl hk;refine oD nZ [(0,i64 4),(1,i64 0),(2,i64 0),(3,i64 1)] rfl rfl ?_;exact (DI ⟨4,0,0,1,0,0⟩).run h hl hk
 refine aH.2 (aB (λe=>?_) λe7=>?_)
 ·have ee:oQ op=oQ 7:=by rw [e]
  rw [ee] at hl hk;refine oD nZ [(0,i64 5),(1,i64 0),(2,i64 0),(3,i64 1)] rfl rfl ?_;exact (DI ⟨5,0,0,1,0,0⟩).run h hl hk
 refine aH.2 (aB (λe=>?_) λe8=>?_)
 ·have ee:oQ op=oQ 8:=by rw [e]
  rw [ee] at hl hk;exact (nR 25 0 1).run h hl hk
 refine aH.2 (aB (λe=>?_) λe9=>?_)
 ·have ee:oQ op=oQ 9:=by rw [e]
  rw [ee] at hl hk;exact (nR 12 0 1).run h hl hk
 refine aH.2 (aB (λe=>?_) λe10=>?_)
 ·have ee:oQ op=oQ 10:=by rw [e]
  rw [ee] at hl hk;exact (nR 24 0 1).run h hl hk
 refine aH.2 (aB (λe=>?_) λe11=>?_)
 ·have ee:oQ op=oQ 11:=by rw [e]
  rw [ee] at hl hk;exact (nR 13 0 1).run h hl hk
 refine aH.2 (aB (λe=>?_) λe12=>?_)
 ·have ee:oQ op=oQ 12:=by rw [e]
  rw [ee] at hl hk;exact (IZ 14).run h hl hk
 refine aH.2 (aB (λe=>?_) λe13=>?_)
 ·have ee:oQ op=oQ 13:=by rw [e]
  rw [ee] at hl hk;exact (IZ 15).run h hl hk
 refine aH.2 (aB (λe=>?_) λe14=>?_)
 ·have ee:oQ op=oQ 14:=by rw [e]
  rw [ee] at hl hk;exact (IZ 16).run h hl hk
 refine aH.2 (aB (λe=>?_) λe19=>?_)
 ·have ee:oQ op=.one ⟨5,0,0,1,0,0⟩::rB:=by rw [e];rfl
  rw [ee] at hl hk;refine oD nZ [(0,i64 5),(1,i64 0),(2,i64 0),(3,i64 1)] rfl rfl ?_;refine (DI ⟨5,0,0,1,0,0⟩).go (l:=l) (ms:=.one ⟨5,0,0,1,0,0⟩::rB) (rs:=rB) h (by simp) hl λw h=>?_;refine aDw.go (l:=l) (ms:=.one ⟨5,0,0,1,0,0⟩::rB) (rs:=[]) h (by simp) hl λw h=>hk w ?_;simpa using h
 refine aH.2 (aB (λe=>?_) λe20=>?_)
 ·have ee:oQ op=.load 2 (-2147483648)::iJ 13 0 2::iJ 13 1 2::lD:=by rw [e];rfl
  rw [ee] at hl hk;refine (DJ 2 (-2147483648)).go (l:=l) (ms:=.load 2 (-2147483648)::iJ 13 0 2::iJ 13 1 2::lD) (rs:=iJ 13 0 2::iJ 13 1 2::lD) h (by simp) hl λw h=>?_;refine (nR 13 0 2).go (l:=l) (ms:=.load 2 (-2147483648)::iJ 13 0 2::iJ 13 1 2::lD) (rs:=iJ 13 1 2::lD) h (by simp) hl λw h=>?_;refine (nR 13 1 2).go (l:=l) (ms:=.load 2 (-2147483648)::iJ 13 0 2::iJ 13 1 2::lD) (rs:=lD) h (by simp) hl λw h=>?_;refine (XP).go (l:=l) (ms:=.load 2 (-2147483648)::iJ 13 0 2::iJ 13 1 2::lD) (rs:=[]) h (by simp) hl λw h=>?_;refine hk w ?_;simpa using h
 have ee:oQ op=lD:=by unfold oQ;simp only [e6,e7,e8,e9,e10,e11,e12,e13,e14,e19,e20,if_false]
 rw [ee] at hl hk;exact (XP).run h hl hk
theorem bKu (op:Int):oA c wb 73 #[.pointer (some ⟨c.g,0,none⟩),i64 op] (eUn op):=by
 refine ⟨λ{w l ys K} h hl hk=>?_⟩;apply bFu;unfold ZC;unfold eUn at hl hk;refine aH.2 (aB (λe=>?_) λe15=>?_)
 ·rw [if_pos e] at hl hk;exact (nR 21 0 0).run h hl hk
 rw [if_neg e15] at hl hk;refine aH.2 (aB (λe=>?_) λe16=>?_)
 ·rw [if_pos e] at hl hk;exact (nR 27 0 0).run h hl hk
 rw [if_neg e16] at hl hk;exact (aDw).run h hl hk
theorem XB (ha:0<=c.ap/\c.ap < 4):oA c wb 77 #[.pointer (some ⟨c.g,0,none⟩)] [tH c.ap]:=by
 refine ⟨λ{w l ys K} h hl hk=>?_⟩;apply bFq;unfold YY;obtain ⟨cs,e1,_,e2,_⟩:=h.oAt;refine ⟨.inl ⟨_,rfl⟩,bC e1 eU aG e2 (oS.2 ?_)⟩;rw [aM (by omega)];refine bA.2 ?_;rw [aM (by omega)];refine V.ok (kM underlying3 underlying21) ?_;exact (DJ _ _).run h hl hk
theorem aDc {of l:List Int} {j:Nat} {r:Int} (h:l[j]?=some r):jJ of (l.take (j+1))=jJ of (l.take j)++[eLd of (j:Int) r]:=by
 obtain ⟨hj,rfl⟩:=List.getElem?_eq_some_iff.1 h;have e:(l.take j).length=j:=by simp;omega
 have e1:(l.take (j+1)).length=j+1:=by simp;omega
 unfold jJ;rw [e1,e,List.range_succ,List.map_append]
 congr 1
 ·apply List.map_congr_left;intro k hk;have hk:=List.mem_range.1 hk;simp [List.getD_eq_getElem?_getD,hk,Nat.lt_succ_of_lt hk]
 ·simp [List.getD_eq_getElem?_getD,hj]
theorem aQe {rv:Y} {rs:List Int} (hs:∀ w,Fr (λk=>¬ c.H k) wb w->aN w rv rs) (hr:∀ r∈rs,0<=r/\r < c.of.length) (hb:∀ a∈c.of,0<=a/\a < 1000):oA c wb 70 #[.pointer (some ⟨c.g,0,none⟩),rv] (jJ c.of rs):=by
 refine ⟨λ{w l ys K} h hl hk=>?_⟩;apply bFx;unfold ZF;have hll:(jJ c.of rs).length=rs.length:=by simp [jJ]
 refine fQ aQ (hs w h.fr) ?_;refine ⟨λv w'=>∃ j:Nat,v=i64 j/\j<=rs.length/\Ew c wb w' (l++jJ c.of (rs.take j)) ys,λv _=>rs.length - (RowKit.intOf v).toNat,⟨0,rfl,Nat.zero_le _,by simpa [jJ] using h⟩,?_⟩;rintro _ w1 ⟨j,rfl,hj,h1⟩ _;refine aW.2 (aB (λhlt=>?_) λhge=>?_)
 ·obtain ⟨r,hrj⟩:=bE (l:=rs) (j:=j) (by omega);obtain ⟨q1,q2⟩:=hr r (List.mem_of_getElem? hrj);refine lV aQ aG (hs w1 h1.fr) (by omega) (by omega) (cK hrj) ?_;refine (bCh q1 q2 hb).run h1 (by simp [jJ];omega) λw2 h2=>bA.2 ?_;rw [aM (by omega),bK];rw [List.append_assoc,<- aDc hrj] at h2;exact ⟨⟨j+1,rfl,by omega,h2⟩,by simp only [aL];omega⟩
 ·have e:rs.take j=rs:=List.take_of_length_le (by omega);rw [e] at h1;exact hk w1 h1
structure OfB (of:List Int):Prop where
 b:∀ a∈of,0<=a/\a < 1000
theorem vU {v:Y} (h:Ew c wb w l ys) (hn:jA w v n) (ha:n.args.length<=4294967296) (hr:∀ r∈n.us,0<=r/\r < c.of.length) (hb:OfB c.of) (hl:l.length+n.us.length<=900000) (hk:∀ w',Ew c wb w' (l++jJ c.of n.us) ys->K (.tuple #[]) w') :
  aC prog 71 #[v] w λt w1=>aC prog 70 #[.pointer (some ⟨c.g,0,none⟩),t] w1 K:=by
 refine (IL hn ha).mono λr w1 ⟨ho,x1⟩=>?_;have h1:=h.hold x1;refine (aQe (c:=c.hold w.heap.size w1.heap.size) (wb:=w1) (rs:=n.us) (λw2 f=>aA.of_own (f.own ho λk hk hS=>hS (.inr (ho.lt k hk)))) hr hb.b).run h1 (by simp only [jJ,List.length_map,List.length_range];exact hl) λw2 h2=>hk w2 (h.free x1 h2)
theorem Ew.tab (h:Ew c wb w l ys):∃ iv tv,bO w c.g [c.pr,c.rg,c.nv,c.ov,c.sl,i64 c.ap,iv,tv,c.fr] 135/\w.ownsRow c.B 43 1 tv ys.length ys:=by
 obtain ⟨o,fr,iv,tv,a1,_,a3,_⟩:=h;exact ⟨iv,tv,a1,a3⟩
theorem Ew.pushT {v tv:Y} {iv:Y} {K':O->Prop} (h:Ew c wb w l ys) (h1:bY v=true) (hy:ys.length<=100000) (hB:bO w c.g [c.pr,c.rg,c.nv,c.ov,c.sl,i64 c.ap,iv,tv,c.fr] 135) (hk:∀ w',Ew c wb w' l (ys++[v])->K' w') :
  V prog (Instr.buildSlice 31 1 #[(0,v)]) w λu w1=>V prog (Builtin.append_ #[31,31] 31 #[tv,u]) w1 λt2 w2=>
  Go.Vc.bL (.pointer (some ⟨c.g,0,none⟩))/\V prog (Instr.fieldAt 135 (.pointer (some ⟨c.g,0,none⟩)) 3) w2 λq w3=>V prog (Instr.fieldAt 68 q 1) w3 λq w4=>U prog (Instr.storeAt 31 q t2) w4 λ_ w5=>K' w5:=by
 have hg:=h.gH;obtain ⟨o,fr,iv',tv',a1,a2,a3,a4,a5⟩:=h;have hgB:=o.gB;have e6:=hB.cell 6;have e7:=hB.cell 7;rw [a1.cell 6] at e6;rw [a1.cell 7] at e7;cases e6;cases e7;refine jX aDz [v] rfl rfl (by simp) (by simpa using h1) λu w1 ho1 x1=>?_;have s1:=x1.size;have s0:=fr.size;refine apG underlying31 MN rfl (by decide) (x1.own a3) (aA.of_own ho1) (by simpa using h1) (by omega) (by unfold maxLen;omega) (by omega) λtv2 w2 ho2 hg2 hl2=>?_;have f2:Fr (λk=>tv.ownBlock=some k) w1 w2:=Fr.of_grown hg2 λk hk=>hk;have a1':=f2.blk (a1.ext x1) λhk=>by have:=a3.lt _ hk;omega
 have a2':=f2.own (x1.own a2) λk hk hk'=>by
  rcases zM a3 a2 (by decide) with h|h
  ·rw [h] at hk';cases hk'
  ·exact h (by rw [hk,hk'])
 have fr2:Fr (λk=>¬ c.H k) wb w2:=(fr.trans (Fr.of_ext x1) λ_ _ h=>h).trans (f2.mono λk hk=>a5 k hk) λ_ _ h=>h;refine ⟨.inl ⟨_,rfl⟩,?_⟩;refine bIk bR nM WO a1' (n:=9) rfl (by decide) (nU ho2) ?_;refine hk _ ⟨o,fr2.set hg,iv,tv2,a1'.set 7 _,?_,?_,a4,λk hk=>?_⟩
 ·exact (Fr.of_set (S:=λi=>i=c.g) rfl).own a2' λk hk he=>by have:=(a2'.lt k hk).1;omega
 ·rw [List.length_append];exact (Fr.of_set (S:=λi=>i=c.g) rfl).own ho2 λk hk he=>by have:=(ho2.lt k hk).1;omega
 ·rcases hl2 with h2|h2
  ·rw [h2] at hk;exact a5 k hk
  ·rw [h2] at hk;cases hk;intro hH;have h1:=(o.hH _ hH).1;omega
theorem SW {v:Y} (h:jA w v n):bY v=true:=by
 obtain ⟨sv,rfl,_⟩:=h;cases n<;>rfl
structure aJn (n:aJ) (R:Nat):Prop where
 u:∀ r∈n.us,0<=r/\r < R
 d:n.df>=0->n.df < R
 a:n.args.length<=4294967296
 l:n.us.length<=5
theorem XH {v:Y} {R:Y->O->Prop} (h:Ew c wb w l ys) (hn:jA w v n) (hr:aJn n c.of.length) (hb:OfB c.of) (hl:l.length<=800000) (hk:∀ w',Ew c wb w' (l++vK c.of n) ys->R (.tuple #[]) w') :
  aC prog 80 #[v] w λt w1=>V prog (binOp .geq 3 t (i64 0)) w1 λt2 w2=>aI t2 (aC prog 37 #[.pointer (some ⟨c.g,0,none⟩),t,i64 0] w2 λ_ w3=>R (.tuple #[]) w3) (R (.tuple #[]) w2):=by
 refine (KC hn).mono λr w1 ⟨hr1,x1⟩=>?_;subst hr1;have h1:=h.ext x1;refine kO.2 (aB (λhd=>?_) λhd=>?_)
 ·refine (VH (by omega) (hr.d hd) hb.b).run h1 (by simp;omega) λw2 h2=>hk w2 ?_;unfold vK;rw [if_pos hd];exact h2
 ·refine hk w1 ?_;unfold vK;rw [if_neg hd,List.append_nil];exact h1
theorem aEq {v:Y} (h:Ew c wb w l ys) (hn:jA w v n) (hs:∀ w',Fr (λk=>¬ c.H k) wb w'->jA w' v n) (hr:aJn n c.of.length) (hb:OfB c.of) (hl:l.length<=700000) (hy:ys.length<=100000) (hk:∀ w',Ew c wb w' (l++((jJ c.of n.us++[.one ⟨44,0,0,0,(ys.length:Int)+1,0⟩])++vK c.of n)) (ys++[v])->K (.tuple #[]) w') :
  aC prog 79 #[.pointer (some ⟨c.g,0,none⟩),v] w K:=by
 apply bFo;unfold YW;have hrl:=hr.l;have hel:(jJ c.of n.us).length=n.us.length:=by simp [jJ]
 refine vU h hn hr.a hr.u hb (by omega) λw1 h1=>?_;obtain ⟨iv,tv,e1,e2⟩:=h1.tab;refine ⟨.inl ⟨_,rfl⟩,rU e1.boxed bR nM lF rfl ?_⟩;refine h1.pushT (SW hn) hy e1 λw2 h2=>?_;obtain ⟨iv2,tv2,e3,e4⟩:=h2.tab;refine ⟨.inl ⟨_,rfl⟩,rU e3.boxed bR nM lF rfl (fQ oX (aA.of_own e4) (bA.2 ?_))⟩;have e5:((ys++[v]).length:Int)=(ys.length:Int)+1:=by simp
 rw [aM (by omega)];refine eY.2 ?_;rw [aM (by omega)];refine oD nZ [(0,i64 44),(4,i64 (1+((ys++[v]).length:Int) - 1))] rfl rfl ?_;have e6:1+((ys++[v]).length:Int) - 1=(ys.length:Int)+1:=by omega
 rw [e6];refine (DI ⟨44,0,0,0,(ys.length:Int)+1,0⟩).run h2 (by simp;omega) λw3 h3=>?_;refine XH h3 (hs w3 h3.fr) hr hb (by simp;omega) λw4 h4=>hk w4 ?_;simpa using h4
theorem nV (h:n.args=[]):jA w (n.val aX) n:=⟨aX,rfl,by rw [h];exact aA.nil w 1⟩
theorem bBw {v:Y} {k:Nat} (h:Ew c wb w l ys) (hn:jA w v n) (hs:∀ w',Fr (λk=>¬ c.H k) wb w'->jA w' v n) (hr:aJn n c.of.length) (hb:OfB c.of) (ha:0<=c.ap/\c.ap < 4) (hN:c.N<=1000) (hk0:k<=1000) (hl:l.length<=600000) (hy:ys.length<=100000) (hF:n.okF)
  (hk:∀ w',Ew c wb w' (l++oZ c.of c.N c.ap ys.length n k) (if n.srvB then ys++[v] else ys)->K (.tuple #[]) w'):aC prog 39 #[.pointer (some ⟨c.g,0,none⟩),v,i64 k] w K:=by
 have hn0:=hn;obtain ⟨sv,rfl,hsv⟩:=hn;have h5:=hr.l;apply bGy;unfold aAd
 have fin:∀ (pre:List cJ) (w':O),oZ c.of c.N c.ap ys.length n k=pre++vK c.of n->n.srvB=false->pre.length<=1000->Ew c wb w' (l++pre) ys ->
   aC prog 80 #[n.val sv] w' λt w1=>V prog (binOp .geq 3 t (i64 0)) w1 λt2 w2=>aI t2 (aC prog 37 #[.pointer (some ⟨c.g,0,none⟩),t,i64 0] w2 λ_ w3=>K (.tuple #[]) w3) (K (.tuple #[]) w2):=by
  intro pre w' he hsr hp h';refine XH h' (hs w' h'.fr) hr hb (by simp;omega) λw2 h2=>hk w2 ?_;rw [he,<- List.append_assoc];simpa [hsr] using h2
 have srv:n.srvB=true->oZ c.of c.N c.ap ys.length n k=(jJ c.of n.us++[.one ⟨44,0,0,0,(ys.length:Int)+1,0⟩])++vK c.of n->aC prog 79 #[.pointer (some ⟨c.g,0,none⟩),n.val sv] w λ_ w'=>K (.tuple #[]) w':=λhs1 he=>by
  refine aEq h hn0 hs hr hb (by omega) hy λw2 h2=>hk w2 ?_;rw [he,hs1];exact h2
 cases n with
 | const d k=>
  dsimp only [aJ.val] at fin srv ⊢;refine ⟨λw'=>Ew c wb w' (l++(.load 0 k::[])) ys,?_,λw' h' _=>fin _ w' rfl rfl (by simp []) h'⟩
  (repeat (first|(with_reducible refine th (by first|exact bN|exact oY) ?_)|((with_reducible refine tm bN (by decide) ?_);intro _ _ _)))
  refine rX aZr rfl rfl λw1 hB x1=>?_;have hB:bO w1 w.heap.size [i64 d,i32 k] 90:=hB;have h1:=h.hold x1;have hx1:=x1.size;have hlt:=hB.lt;refine bC hB.boxed aQy kK rfl ?_;exact (DJ (c:=c.hold w.heap.size w1.heap.size) (wb:=w1) 0 k).run h1 (by simp;omega) λw2 h2=>h.free x1 h2
 | move d s=>
  dsimp only [aJ.val] at fin srv ⊢;refine ⟨λw'=>Ew c wb w' (l++(jJ c.of [s])) ys,?_,λw' h' _=>fin _ w' rfl rfl (by simp [jJ,aJ.us]) h'⟩
  (repeat (first|(with_reducible refine th bN ?_)|((with_reducible refine tm (by first|exact bN|exact oY) (by decide) ?_);intro _ _ _)))
  refine rX zG rfl rfl λw1 hB x1=>?_;have hB:bO w1 w.heap.size [i64 d,i64 s] 107:=hB;have h1:=h.hold x1;have hx1:=x1.size;have hlt:=hB.lt;refine iF hB.boxed bCp rfl (TB JI ?_);refine vU (c:=c.hold w.heap.size w1.heap.size) (wb:=w1) (n:=.move d s) h1 (nV (n:=.move d s) rfl) hr.a hr.u hb (by show l.length+_<=_;omega) λw2 h2=>?_;have hB2:=h2.fr.blk hB λhS=>hS (.inr ⟨by omega,hlt⟩);exact h.free x1 h2
 | bin op d a b=>
  dsimp only [aJ.val] at fin srv ⊢;refine ⟨λw'=>Ew c wb w' (l++(jJ c.of [a,b]++oQ op)) ys,?_,λw' h' _=>fin _ w' rfl rfl (by have:=(UD op).len;simp [jJ,aJ.us];omega) h'⟩
  (repeat (first|(with_reducible refine th (by first|exact bN|exact fM) ?_)|((with_reducible refine tm (by first|exact bN|exact oY) (by decide) ?_);intro _ _ _)))
  refine rX uC rfl rfl λw1 hB x1=>?_;have hB:bO w1 w.heap.size [i64 op,i64 d,i64 a,i64 b] 109:=hB;have h1:=h.hold x1;have hx1:=x1.size;have hlt:=hB.lt;refine iF hB.boxed bCo rfl (TB pG ?_);refine vU (c:=c.hold w.heap.size w1.heap.size) (wb:=w1) (n:=.bin op d a b) h1 (nV (n:=.bin op d a b) rfl) hr.a hr.u hb (by show l.length+_<=_;omega) λw2 h2=>?_;have hB2:=h2.fr.blk hB λhS=>hS (.inr ⟨by omega,hlt⟩);refine bC hB2.boxed cF aG rfl ?_;refine (bJu (c:=c.hold w.heap.size w1.heap.size) (wb:=w1) op).run h2 (by have:=(UD op).len;simp [jJ,aJ.us] at *;omega) λw3 h3=>?_;rw [List.append_assoc] at h3;exact h.free x1 h3
 | un op d a=>
  dsimp only [aJ.val] at fin srv ⊢;refine ⟨λw'=>Ew c wb w' (l++(jJ c.of [a]++eUn op)) ys,?_,λw' h' _=>fin _ w' rfl rfl (by have:=(aIh op).len;simp [jJ,aJ.us];omega) h'⟩
  (repeat (first|(with_reducible refine th (by first|exact bN|exact gG) ?_)|((with_reducible refine tm (by first|exact bN|exact fM|exact oY) (by decide) ?_);intro _ _ _)))
  refine rX vZ rfl rfl λw1 hB x1=>?_;have hB:bO w1 w.heap.size [i64 op,i64 d,i64 a] 111:=hB;have h1:=h.hold x1;have hx1:=x1.size;have hlt:=hB.lt;refine iF hB.boxed bCn rfl (TB JH ?_);refine vU (c:=c.hold w.heap.size w1.heap.size) (wb:=w1) (n:=.un op d a) h1 (nV (n:=.un op d a) rfl) hr.a hr.u hb (by show l.length+_<=_;omega) λw2 h2=>?_;have hB2:=h2.fr.blk hB λhS=>hS (.inr ⟨by omega,hlt⟩);refine bC hB2.boxed cE aG rfl ?_;refine (bKu (c:=c.hold w.heap.size w1.heap.size) (wb:=w1) op).run h2 (by have:=(aIh op).len;simp [jJ,aJ.us] at *;omega) λw3 h3=>?_;rw [List.append_assoc] at h3;exact h.free x1 h3
 | choose d q a b=>
  dsimp only [aJ.val] at fin srv ⊢;refine ⟨λw'=>Ew c wb w' (l++(jJ c.of [q,a,b]++kN)) ys,?_,λw' h' _=>fin _ w' rfl rfl (by simp [jJ,kN,aJ.us]) h'⟩
  (repeat (first|(with_reducible refine th (by first|exact bN|exact iE) ?_)|((with_reducible refine tm (by first|exact bN|exact fM|exact gG|exact oY) (by decide) ?_);intro _ _ _)))
  refine rX vY rfl rfl λw1 hB x1=>?_;have hB:bO w1 w.heap.size [i64 d,i64 q,i64 a,i64 b] 113:=hB;have h1:=h.hold x1;have hx1:=x1.size;have hlt:=hB.lt;refine iF hB.boxed bCm rfl (TB aGn ?_);refine vU (c:=c.hold w.heap.size w1.heap.size) (wb:=w1) (n:=.choose d q a b) h1 (nV (n:=.choose d q a b) rfl) hr.a hr.u hb (by show l.length+_<=_;omega) λw2 h2=>?_;have hB2:=h2.fr.blk hB λhS=>hS (.inr ⟨by omega,hlt⟩);refine (aIs (c:=c.hold w.heap.size w1.heap.size) (wb:=w1) ).run h2 (by simp [jJ,aJ.us,kN] at *;omega) λw3 h3=>?_;rw [List.append_assoc] at h3;exact h.free x1 h3
 | tick  =>
  dsimp only [aJ.val] at fin srv ⊢;refine ⟨λw'=>Ew c wb w' (l++(mR ((c.N:Int)+k))) ys,?_,λw' h' _=>fin _ w' rfl rfl (by simp [mR]) h'⟩
  (repeat (first|(with_reducible refine th (by first|exact bN|exact tM) ?_)|((with_reducible refine tm (by first|exact bN|exact fM|exact gG|exact iE|exact oY) (by decide) ?_);intro _ _ _)))
  refine rX bIr rfl rfl λw1 hB x1=>?_;have h1:=h.ext x1;obtain ⟨cs,e1,_,_,e2⟩:=h1.oAt;obtain ⟨vs,hvs⟩:=h1.o.nn w1 h1.fr;refine ⟨.inl ⟨_,rfl⟩,rU e1 eV eI lF e2 (fQ oX hvs (bA.2 ?_))⟩;rw [aM (by omega)];exact (bAx ((c.N:Int)+k)).run h1 (by simp [mR];omega) λw2 h2=>h2
 | goto t=>
  dsimp only [aJ.val] at fin srv ⊢;refine ⟨λw'=>Ew c wb w' (l++(.jump 14 t::[])) ys,?_,λw' h' _=>fin _ w' rfl rfl (by simp []) h'⟩
  (repeat (first|(with_reducible refine th (by first|exact bN|exact gP) ?_)|((with_reducible refine tm (by first|exact bN|exact fM|exact gG|exact iE|exact gP|exact gX|exact jL|exact jK|exact lC|exact lK|exact mD|exact nO|exact tM|exact oY) (by decide) ?_);intro _ _ _)))
  refine rX uB rfl rfl λw1 hB x1=>?_;have hB:bO w1 w.heap.size [i64 t] 115:=hB;have h1:=h.hold x1;have hx1:=x1.size;have hlt:=hB.lt;refine bC hB.boxed bV aG rfl ?_;exact (TI (c:=c.hold w.heap.size w1.heap.size) (wb:=w1) 14 t).run h1 (by simp;omega) λw2 h2=>h.free x1 h2
 | branch q t=>
  dsimp only [aJ.val] at fin srv ⊢;refine ⟨λw'=>Ew c wb w' (l++(jJ c.of [q]++[iY 9 0 0,.jump 1 t])) ys,?_,λw' h' _=>fin _ w' rfl rfl (by simp [jJ,aJ.us]) h'⟩
  (repeat (first|(with_reducible refine th (by first|exact bN|exact gX) ?_)|((with_reducible refine tm (by first|exact bN|exact fM|exact gG|exact iE|exact gP|exact gX|exact jL|exact jK|exact lC|exact lK|exact mD|exact nO|exact tM|exact oY) (by decide) ?_);intro _ _ _)))
  refine rX uA rfl rfl λw1 hB x1=>?_;have hB:bO w1 w.heap.size [i64 q,i64 t] 117:=hB;have h1:=h.hold x1;have hx1:=x1.size;have hlt:=hB.lt;refine iF hB.boxed aHc rfl (TB TC ?_);refine vU (c:=c.hold w.heap.size w1.heap.size) (wb:=w1) (n:=.branch q t) h1 (nV (n:=.branch q t) rfl) hr.a hr.u hb (by show l.length+_<=_;omega) λw2 h2=>?_;have hB2:=h2.fr.blk hB λhS=>hS (.inr ⟨by omega,hlt⟩);refine (xD (c:=c.hold w.heap.size w1.heap.size) (wb:=w1) 9 0 0).run h2 (by simp [jJ,aJ.us] at *;omega) λw3 h3=>?_;have hB3:=h3.fr.blk hB λhS=>hS (.inr ⟨by omega,hlt⟩);refine bC hB3.boxed bU aG rfl ?_;refine (TI (c:=c.hold w.heap.size w1.heap.size) (wb:=w1) 1 t).run h3 (by simp [jJ,aJ.us] at *;omega) λw4 h4=>h.free (a:=w.heap.size) (b:=w1.heap.size) x1 ?_;have e9:l++jJ c.of [q]++[iY 9 0 0]++[.jump 1 t]=l++(jJ c.of [q]++[iY 9 0 0,.jump 1 t]):=by simp
  rw [<- e9];exact h4
 | getField d f=>
  dsimp only [aJ.val] at fin srv ⊢;refine ⟨λw'=>Ew c wb w' (l++([tH c.ap,.one ⟨31,0,1,0,4*f,0⟩])) ys,?_,λw' h' _=>fin _ w' rfl rfl (by simp []) h'⟩
  (repeat (first|(with_reducible refine th (by first|exact bN|exact jL) ?_)|((with_reducible refine tm (by first|exact bN|exact fM|exact gG|exact iE|exact gP|exact gX|exact jL|exact jK|exact lC|exact lK|exact mD|exact nO|exact tM|exact oY) (by decide) ?_);intro _ _ _)))
  have hf:0<=f/\f < 8:=hF;refine rX CR rfl rfl λw1 hB x1=>?_;have hB:bO w1 w.heap.size [i64 d,i64 f] 119:=hB;have h1:=h.hold x1;have hx1:=x1.size;have hlt:=hB.lt;refine (XB (c:=c.hold w.heap.size w1.heap.size) (wb:=w1) ha).run h1 (by simp;omega) λw2 h2=>?_;have hB2:=h2.fr.blk hB λhS=>hS (.inr ⟨by omega,hlt⟩);refine bC hB2.boxed cU aG rfl (oS.2 ?_);rw [aM (by omega)];refine oD nZ [(0,i64 31),(1,i64 0),(2,i64 1),(4,i64 (4*f))] rfl rfl ?_;refine (DI (c:=c.hold w.heap.size w1.heap.size) (wb:=w1) ⟨31,0,1,0,4*f,0⟩).run h2 (by simp;omega) λw3 h3=>h.free (a:=w.heap.size) (b:=w1.heap.size) x1 ?_;rw [List.append_assoc] at h3;exact h3
 | putField f s=>
  dsimp only [aJ.val] at fin srv ⊢;refine ⟨λw'=>Ew c wb w' (l++(jJ c.of [s]++[tH c.ap,.one ⟨32,0,1,0,4*f,0⟩])) ys,?_,λw' h' _=>fin _ w' rfl rfl (by simp [jJ,aJ.us]) h'⟩
  (repeat (first|(with_reducible refine th (by first|exact bN|exact jK) ?_)|((with_reducible refine tm (by first|exact bN|exact fM|exact gG|exact iE|exact gP|exact gX|exact jL|exact jK|exact lC|exact lK|exact mD|exact nO|exact tM|exact oY) (by decide) ?_);intro _ _ _)))
  have hf:0<=f/\f < 8:=hF;refine rX zF rfl rfl λw1 hB x1=>?_;have hB:bO w1 w.heap.size [i64 f,i64 s] 121:=hB;have h1:=h.hold x1;have hx1:=x1.size;have hlt:=hB.lt;refine iF hB.boxed bCk rfl (TB aGl ?_);refine vU (c:=c.hold w.heap.size w1.heap.size) (wb:=w1) (n:=.putField f s) h1 (nV (n:=.putField f s) rfl) hr.a hr.u hb (by show l.length+_<=_;omega) λw2 h2=>?_;have hB2:=h2.fr.blk hB λhS=>hS (.inr ⟨by omega,hlt⟩);refine (XB (c:=c.hold w.heap.size w1.heap.size) (wb:=w1) ha).run h2 (by simp [jJ,aJ.us] at *;omega) λw3 h3=>?_;have hB3:=h3.fr.blk hB λhS=>hS (.inr ⟨by omega,hlt⟩);refine bC hB3.boxed cT aG rfl (oS.2 ?_);rw [aM (by omega)];refine oD nZ [(0,i64 32),(1,i64 0),(2,i64 1),(4,i64 (4*f))] rfl rfl ?_;refine (DI (c:=c.hold w.heap.size w1.heap.size) (wb:=w1) ⟨32,0,1,0,4*f,0⟩).run h3 (by simp [jJ,aJ.us] at *;omega) λw4 h4=>h.free (a:=w.heap.size) (b:=w1.heap.size) x1 ?_;have e9:l++jJ c.of [s]++[tH c.ap]++[.one ⟨32,0,1,0,4*f,0⟩]=l++(jJ c.of [s]++[tH c.ap,.one ⟨32,0,1,0,4*f,0⟩]):=by simp
  rw [<- e9];exact h4
 | serve op a b d r=>
  dsimp only [aJ.val] at fin srv ⊢;refine ⟨λ_=>False,?_,λ_ h' _=>h'.elim⟩
  (repeat (first|(with_reducible refine th bN ?_)|((with_reducible refine tm (by first|exact bN|exact fM|exact gG|exact iE|exact gP|exact gX|exact jL|exact jK|exact lC|exact lK|exact mD|exact nO|exact tM|exact oY) (by decide) ?_);intro _ _ _)))
  exact srv rfl rfl
 | call m d r=>
  dsimp only [aJ.val] at fin srv ⊢;refine ⟨λ_=>False,?_,λ_ h' _=>h'.elim⟩
  (repeat (first|(with_reducible refine th bN ?_)|((with_reducible refine tm (by first|exact bN|exact fM|exact gG|exact iE|exact gP|exact gX|exact jL|exact jK|exact lC|exact lK|exact mD|exact nO|exact tM|exact oY) (by decide) ?_);intro _ _ _)))
  exact srv rfl rfl
 | callX m d r=>
  dsimp only [aJ.val] at fin srv ⊢;refine ⟨λ_=>False,?_,λ_ h' _=>h'.elim⟩
  (repeat (first|(with_reducible refine th bN ?_)|((with_reducible refine tm (by first|exact bN|exact fM|exact gG|exact iE|exact gP|exact gX|exact jL|exact jK|exact lC|exact lK|exact mD|exact nO|exact tM|exact oY) (by decide) ?_);intro _ _ _)))
  exact srv rfl rfl
 | ret s=>
  dsimp only [aJ.val] at fin srv ⊢;refine ⟨λ_=>False,?_,λ_ h' _=>h'.elim⟩
  (repeat (first|(with_reducible refine th bN ?_)|((with_reducible refine tm (by first|exact bN|exact fM|exact gG|exact iE|exact gP|exact gX|exact jL|exact jK|exact lC|exact lK|exact mD|exact nO|exact tM|exact oY) (by decide) ?_);intro _ _ _)))
  exact srv rfl rfl
end Go.Proofs.YtjcmcfidblhnnaaGreatDoor
namespace Go.Vc
theorem aGy {P:Program} {w:O} {K:Y->O->Prop} {t n b off:Nat} {cs l:List Y} (hb:aY w b cs) (ht:∃ d z by_,P.underlying t=some d/\mA d=true/\dD P t z n by_) (hl:l.length=n) (he:(cs.drop off).take n=l) (hk:K (.agg l.toArray) w) :
  V P (Instr.loadAt t (.pointer (some ⟨b,off,none⟩))) w K:=by
 obtain ⟨d,z,by_,h1,h2,h3⟩:=ht;refine V.ok (nT h1 h2 h3 hl λj hj=>?_) hk;obtain ⟨u,hu⟩:∃ u,l[j]?=some u:=⟨_,List.getElem?_eq_getElem hj⟩;rw [hu]
 have h5:cs[off+j]?=some u:=by
  rw [<- he,List.getElem?_take] at hu;split at hu
  ·rwa [List.getElem?_drop] at hu
  ·cases hu
 have:=hb _ u h5
 rwa [Nat.zero_add] at this
end Go.Vc
namespace Go.Proofs.YtjcmcfidblhnnaaGreatDoor
open Tryz
open Go.Vc
variable {w:O} {K:Y->O->Prop}
variable {p:fN} {R:Nat} {slots:Int}
theorem bLh:BG prog 135 [i64 0,i64 0,aX,aX,i64 0,i64 0,aX,aX,i64 0] [(0,3),(3,2),(5,1),(6,3)]:=⟨_,_,_,underlying135,bDa,λw=>by kernel_rfl⟩
theorem bDh (a b c d e:Y) (f:Int):Instr.fill (([(0,3),(3,2),(5,1),(6,3)]:List (Nat × Nat)).toArray[·]?) [i64 0,i64 0,aX,aX,i64 0,i64 0,aX,aX,i64 0].toArray [(0,.agg [a,b,c].toArray),(1,.agg [d,e].toArray),(2,i64 f)]=some [a,b,c,d,e,i64 f,aX,aX,i64 0].toArray:=by kernel_rfl
theorem pD.ofB {of:List Int} (h:pD p R of slots):OfB of:=⟨λa ha=>by
 obtain ⟨k,hk⟩:=List.getElem?_of_mem ha;have h1:=h.s1;rcases h.val k a hk with e|e|e<;>omega⟩
theorem pD.ofOk {of:List Int} (h:pD p R of slots):NM of R:=λr h0 h1=>by
 have hl:=h.len;have h2:=h.s1;have hk:of[r.toNat]?=some (of.getD r.toNat 0):=by rw [List.getD_eq_getElem?_getD,List.getElem?_eq_getElem (by omega)];rfl
 rcases h.val _ _ hk with e|e|e<;>omega
theorem pP.regB {n:aJ} {k c:Int} (h:pP n k R c) (ha:n.args.length<=4294967296):aJn n R:=⟨h.u,λhd=>by rcases h.d with h1|h1<;>omega,ha,h.us5⟩
theorem bDj {T:Y->aJ->Prop} {ns ov:Y} {vs0:List Y} {of:List Int} {ap:Int} (hp:pQ w (.agg #[i64 p.params,i64 p.regs,ns]) p) (hvs0:aA w ns 1 p.nodes.length vs0) (hvn0:∀ (i:Nat) n,p.nodes[i]?=some n->∃ u,vs0[i]?=some u/\jA w u n/\T u n) (hv:kT p) (hR:p.regs=R) (ho:aN w ov of) (hg:pD p R of slots) (ha:0<=ap/\ap < 4)
  (hk:∀ iv tv ys w',w'.ownsRow w.heap.size 180 11 iv (mQ p of ap).length (itC (mQ p of ap))->w'.ownsRow w.heap.size 43 1 tv (jU p).length ys->(∀ (q:Nat) n,(jU p)[q]?=some n->∃ u,ys[q]?=some u/\jA w u n/\T u n)->aE w w'->K (.tuple #[.agg #[iv,tv,i64 (4*slots)],i64 0]) w') :
  aC prog 17 #[.agg #[i64 p.params,i64 p.regs,ns],.agg #[ov,i64 slots],i64 ap] w K:=by
 have hp0:=hp;have hargs:∀ n∈p.nodes,n.args.length<=4294967296:=by obtain ⟨_,_,_,h⟩:=hp;exact h
 have hl1:=hv.l1;have hl2:=hv.l2;have hr1:=hv.r1;have hr2:=hv.r2;have hp1:=hv.p1;have hp2:=hv.p2;have hp3:=hv.p3;have hs0:=hg.s0;have hs1:=hg.s1;have hlen:=hg.len;apply bHq;unfold aAu;refine bxK λw1 hb3 x1=>?_;have hb3:bO w1 w.heap.size [i64 p.params,i64 p.regs,ns] 33:=hb3;refine bxK λw2 hb4 x2=>?_;have hb4:bO w2 w1.heap.size [ov,i64 slots] 72:=hb4;refine zA uK λw3 hb6 x3=>?_;have hb6:bO w3 w2.heap.size [aX,aX,i64 0] 68:=hb6;have x02:=x1.trans x2;have x03:=x02.trans x3;refine iF (hb3.ext (x2.trans x3)).boxed qG rfl ?_;refine (uN (hp0.ext x03) hv).mono λr w4 ⟨hr,x4⟩=>?_;subst hr;refine dC.2 ?_;simp only [Bool.not_true,pK];refine iF (hb3.ext ((x2.trans x3).trans x4)).boxed qG rfl ?_;refine iF ((hb4.ext x3).ext x4).boxed aHa rfl ?_;refine (FT (hp0.ext (x03.trans x4)) hv hR (ho.ext (x03.trans x4)) (by omega)).mono λr w5 ⟨⟨ok,hr,hok⟩,x5⟩=>?_;obtain rfl:ok=true:=hok.2 hg;subst hr;refine dC.2 ?_;simp only [Bool.not_true,pK,aV,Bool.false_eq_true,reduceIte];refine aW.2 ?_;simp only [show decide (ap < 0)=false from by simp;omega,pK,aV,Bool.false_eq_true,reduceIte];refine kO.2 ?_;simp only [show decide (ap>=4)=false from by simp;omega,aP];have x35:=x4.trans x5;have x05:=x03.trans x35;have hb3':=hb3.ext ((x2.trans x3).trans x35);have hb4':=(hb4.ext x3).ext x35;have hb6':=hb6.ext x35
 refine iF hb3'.boxed qG rfl ?_;refine iF hb4'.boxed aHa rfl ?_;refine KF bLh (bDh _ _ _ _ _ _) ?_;refine bxK λw6 hB x6=>?_;have hB:bO w6 w5.heap.size [i64 p.params,i64 p.regs,ns,ov,i64 slots,i64 ap,aX,aX,i64 0] 135:=hB;refine bC (hb4'.ext x6).boxed mH aG rfl (oS.2 ?_);rw [aM (by omega)];refine ⟨.inl ⟨_,rfl⟩,bIk bR pU bW hB (n:=9) rfl (by decide) rfl ?_⟩;have f7:Fr (λk=>k=w5.heap.size) w6 (w6.setCell ⟨w5.heap.size,8,none⟩ (i64 (4*slots))):=Fr.of_set rfl;have hB7:=hB.set 8 (i64 (4*slots));have x57:aE w5 (w6.setCell ⟨w5.heap.size,8,none⟩ (i64 (4*slots))):=f7.ext x6 λi hi=>by omega
 show V _ _ (w6.setCell ⟨w5.heap.size,8,none⟩ (i64 (4*slots))) _;generalize w6.setCell ⟨w5.heap.size,8,none⟩ (i64 (4*slots))=w7 at f7 hB7 x57;have x07:=x05.trans x57;refine bC (hb3'.ext x57).boxed kY aG rfl ?_;have hB7:bO w7 w5.heap.size [i64 p.params,i64 p.regs,ns,ov,i64 slots,i64 ap,aX,aX,i64 (4*slots)] 135:=hB7;have h57:=hB7.lt;have toX:∀ {w'},Fr (λk=>¬ k < w5.heap.size) w7 w'->aE w5 w':=λhf=>hf.ext x57 λi hi=>by omega
 have hE:∃ c:Ec,c={ H:=λk=>k < w5.heap.size,B:=w5.heap.size+1,g:=w5.heap.size,pr:=i64 p.params,rg:=i64 p.regs,nv:=ns,ov:=ov,sl:=i64 slots,ap:=ap,fr:=i64 (4*slots),of:=of,N:=p.nodes.length }:=⟨_,rfl⟩;obtain ⟨c,hc⟩:=hE
 have ho7:Eo c w7:=by
  subst hc;exact ⟨⟨Nat.lt_succ_self _,h57⟩,λk hk=>⟨by have hk:k < w5.heap.size:=hk;omega,by have hk:k < w5.heap.size:=hk;show k≠w5.heap.size;omega⟩,λw' hf=>ho.ext (x05.trans (toX hf)),λw' hf=>⟨vs0,hvs0.ext (x05.trans (toX hf))⟩⟩
 have h7:Ew c w7 w7 [] []:=by
  refine ⟨ho7,Fr.refl _ _,aX,aX,?_,World.ownsRow_nil _ _ _ _,World.ownsRow_nil _ _ _ _,λk hk=>(by cases hk),λk hk=>(by cases hk)⟩;subst hc;exact hB7
 have hcg:c.g=w5.heap.size:=by rw [hc]
 have hcof:c.of=of:=by rw [hc]
 have hcap:c.ap=ap:=by rw [hc]
 have hcN:c.N=p.nodes.length:=by rw [hc]
 have hcH:∀ {w'},Fr (λk=>¬ c.H k) w7 w'->aE w5 w':=by rw [hc];exact toX
 have hofb:OfB c.of:=by rw [hcof];exact hg.ofB
 rw [<- hcg];refine ⟨λv w'=>∃ j:Nat,v=i64 j/\(j:Int)<=p.params/\Ew c w7 w' ((List.range j).map λ(k:Nat)=>eSt of (k:Int) (k:Int)) [],λv _=>p.params.toNat - (RowKit.intOf v).toNat,⟨0,rfl,by omega,h7⟩,?_⟩;rintro _ w8 ⟨j,rfl,hj,h8⟩ _;refine aW.2 (aB (λhlt=>?_) λhge=>?_)
 ·refine (VH (by omega) (by rw [hcof];omega) hofb.b).run h8 (by simp;omega) λw9 h9=>bA.2 ?_;rw [aM (by omega),bK];refine ⟨⟨j+1,rfl,by omega,?_⟩,by simp only [aL];omega⟩;rw [List.range_succ,List.map_append];rw [hcof] at h9;exact h9
 have hjp:((List.range j).map λ(k:Nat)=>eSt of (k:Int) (k:Int))=(gE p of ap 0).1:=by
  have:p.params.toNat=j:=by omega
  simp only [gE,this]
 rw [hjp] at h8;clear hge hjp;have hb38:∀ {w'},Fr (λk=>¬ c.H k) w7 w'->aY w' w.heap.size [i64 p.params,i64 p.regs,ns]:=λhf=>(hb3'.ext (hcH hf)).boxed;refine bC (hb38 h8.fr) eI lF rfl (fQ oX (hvs0.ext (x05.trans (hcH h8.fr))) ?_);refine ⟨λv w'=>∃ (j:Nat) (ys:List Y),v=i64 j/\j<=p.nodes.length/\Ew c w7 w' (gE p of ap j).1 ys/\ys.length=(gE p of ap j).2.length/\∀ (q:Nat) n,(gE p of ap j).2[q]?=some n->∃ u,ys[q]?=some u/\jA w u n/\T u n,λv _=>p.nodes.length - (RowKit.intOf v).toNat,⟨0,[],rfl,Nat.zero_le _,h8,rfl,λq n hq=>by simp [gE] at hq⟩,?_⟩;rintro _ w9 ⟨j,ys,rfl,hj,h9,hyl,hyn⟩ _;have hem:=EP (of:=of) (applet:=ap) hv hR rfl hg.ofOk j hj;have hel:=hem.len;have htl:(gE p of ap j).2.length<=j:=by rw [hem.tab];exact Nat.le_trans (List.length_filter_le _ _) (by simp)
 refine aW.2 (aB (λhlt=>?_) λhge=>?_)
 ·have hj':j < p.nodes.length:=by omega
  obtain ⟨hpk,hrk⟩:=hv.at hj';obtain ⟨u,hu,hnu,hTu⟩:=hvn0 j _ hpk;have hna:=hargs _ (List.mem_of_getElem? hpk);refine lV oX DQ (hvs0.ext (x05.trans (hcH h9.fr))) (by omega) (by omega) (by simpa using hu) ?_;refine (VV (j:Int)).run h9 (by simp;omega) λw10 h10=>?_;have hrb:aJn (p.at' j) c.of.length:=by rw [hcof,hlen,<- Int.toNat_natCast R,<- hR];rw [hR] at hrk ⊢;exact hrk.regB hna
  refine bBw (n:=p.at' j) (k:=j) h10 (hnu.ext (x05.trans (hcH h10.fr))) (λw' hf=>hnu.ext (x05.trans (hcH hf))) hrb hofb (by rw [hcap];exact ha) (by rw [hcN];omega) (by omega) (by simp;omega) (by omega) hrk.f λw11 h11=>bA.2 ?_;rw [aM (by omega),bK];have e1:(gE p of ap (j+1)).1=(gE p of ap j).1++.place j::oZ of p.nodes.length ap (gE p of ap j).2.length (p.at' j) j:=rfl;have e2:(gE p of ap (j+1)).2=if (p.at' j).srvB then (gE p of ap j).2++[p.at' j] else (gE p of ap j).2:=rfl
  rw [hcof,hcN,hcap,hyl,List.append_assoc,List.singleton_append,<- e1] at h11;refine ⟨⟨j+1,_,rfl,by omega,h11,?_,?_⟩,by simp only [aL];omega⟩
  ·rw [e2];split<;>simp [hyl]
  ·rw [e2];intro q n hq;split at hq
   ·rename_i hsr
    rw [if_pos hsr];rw [List.getElem?_append] at hq ⊢;rw [hyl];split at hq
    ·rename_i hql;rw [if_pos hql];exact hyn q n hq
    ·rename_i hql
     rw [if_neg hql]
     have hq0:q - (gE p of ap j).2.length=0:=by
      have:=(List.getElem?_eq_some_iff.1 hq).1;simpa using this
     rw [hq0] at hq ⊢;cases hq;exact ⟨u,rfl,hnu,hTu⟩
   ·rename_i hsr
    rw [if_neg hsr];exact hyn q n hq
 obtain rfl:j=p.nodes.length:=by omega
 have htab:(gE p of ap p.nodes.length).2=jU p:=(yF (applet:=ap) hv hR hg.ofOk).2;obtain ⟨iv,tv,e1,e2⟩:=h9.items;obtain ⟨_,f9,iv',tv',b1,b2,b3,b4,b5⟩:=h9;have ei:=b1.cell 6;rw [e1] at ei;cases ei;have et:=b1.cell 7;rw [e2.cell 7] at et;cases et;refine ⟨.inl ⟨_,rfl⟩,EO bR (aGy (l:=[iv,tv,c.fr]) e2.boxed bJj rfl rfl ?_)⟩;have x59:=hcH f9;have hfr:c.fr=i64 (4*slots):=by rw [hc]
 rw [hfr];have hb69:=hb6'.ext x59;refine yW uK hb69 (l:=[iv,tv,i64 (4*slots)]) rfl rfl rfl (by show (bY iv&&(bY tv&&(bY (i64 (4*slots))&&true)))=true;rw [nU b2,nU b3];rfl) λwE hBE hcE=>?_;refine ⟨_,nS underlying68 rfl uK hBE rfl,⟨_,rfl⟩,?_⟩;have fE:Fr (λk=>k=w2.heap.size) w9 wE:=Fr.of_grown hcE.grown λk hk=>by cases hk;rfl
 have s25:=x3.size;have hlt25:w2.heap.size < w5.heap.size:=hb6'.lt;have hcB:c.B=w5.heap.size+1:=by rw [hc]
 have kp:∀ {e s:Nat} {v:Y} {n:Nat} {zs:List Y},w9.ownsRow c.B e s v n zs->wE.ownsRow c.B e s v n zs:=λho=>fE.own ho λk hk hS=>by have:=(ho.lt k hk).1;omega
 have xE:aE w wE:=hcE.ext _ (x05.trans x59) (by have:=x02.size;omega);have s03:=x02.size;exact hk iv tv ys wE (aU (kp b2) (by omega)) (by rw [<- htab,<- hyl];exact aU (kp b3) (by omega)) (by rw [<- htab];exact hyn) xE
end Go.Proofs.YtjcmcfidblhnnaaGreatDoor
namespace Go.Proofs.YtjcmcfidblhnnaaGreatDoor
open Tryz
open Go.Vc
structure iZ where
 part:Int
 shift:Int
 bits:Int
 least:Int
 most:Int
 step:Int
def iZ.cells (s:iZ):List Y:=[i64 s.part,i64 s.shift,i64 s.bits,i64 s.least,i64 s.most,i64 s.step]
def aS (part shift:Int):iZ:=⟨part,shift,3,0,7,1⟩
def bI (shift bits least most step:Int):iZ:=⟨3,shift,bits,least,most,step⟩
def gN.part (i:gN) (k:Int):Int:=if k=0 then i.d else if k=1 then i.n else if k=2 then i.m else if k=3 then i.imm else i.cond
def mE (op:Int):Option (Int × List iZ):=
 if op=36 then some (0x9000,[aS 0 8,bI 0 8 0 1020 4]) else if op=35 then some (0x9800,[aS 0 8,bI 0 8 0 1020 4])
 else if op=37 then some (0xb000,[bI 0 7 0 508 4]) else if op=38 then some (0xb080,[bI 0 7 0 508 4])
 else if op=39 then some (0xb400,[bI 0 9 1 511 1]) else if op=40 then some (0xbc00,[bI 0 9 1 511 1])
 else if op=41 then some (0xd000,[bI 0 8 (-256) 254 2,⟨4,8,4,0,13,1⟩]) else if op=42 then some (0xe000,[bI 0 11 (-2048) 2046 2])
 else if op=44 then some (0xdf00,[bI 0 8 0 255 1]) else if op=45 then some (0xbf00,[]) else none
def cL (op:Int):Option (Int × List iZ):=
 if 12<=op/\op<=27 then some (0x4000+(op - 12)*64,[aS 0 0,aS 2 3])
 else if 8<=op/\op<=11 then some (0x2000+(op - 8)*2048,[aS 0 8,bI 0 8 0 255 1])
 else if op=1 then some (0,[aS 0 0,aS 2 3,bI 6 5 0 31 1]) else if op=2 then some (0x800,[aS 0 0,aS 2 3,bI 6 5 1 32 1]) else if op=3 then some (0x1000,[aS 0 0,aS 2 3,bI 6 5 1 32 1])
 else if op=4 then some (0x1800,[aS 0 0,aS 1 3,aS 2 6]) else if op=5 then some (0x1a00,[aS 0 0,aS 1 3,aS 2 6])
 else if op=6 then some (0x1c00,[aS 0 0,aS 1 3,bI 6 3 0 7 1]) else if op=7 then some (0x1e00,[aS 0 0,aS 1 3,bI 6 3 0 7 1])
 else if op=30 then some (0x5000,[aS 0 0,aS 1 3,aS 2 6]) else if op=29 then some (0x5800,[aS 0 0,aS 1 3,aS 2 6])
 else if op=32 then some (0x6000,[aS 0 0,aS 1 3,bI 6 5 0 124 4]) else if op=31 then some (0x6800,[aS 0 0,aS 1 3,bI 6 5 0 124 4])
 else if op=34 then some (0x7000,[aS 0 0,aS 1 3,bI 6 5 0 31 1]) else if op=33 then some (0x7800,[aS 0 0,aS 1 3,bI 6 5 0 31 1])
 else mE op
def jM (sl:List iZ) (i:gN) (k:Int):Bool:=
 match sl.find? λs=>decide (s.part=k) with
 | some s=>decide (s.least<=i.part k)&&decide (i.part k<=s.most)&&decide ((i.part k).tmod s.step=0)
 | none=>decide (i.part k=0)
def bS (i:gN):Bool:=
 if i.op=28 then decide (i.n=0/\i.imm=0/\i.cond=0)&&decide (0<=i.d)&&decide (i.d < 15)&&decide (i.d≠13)&&decide (0<=i.m)&&decide (i.m < 15)
 else if i.op=43 then decide (i.d=0/\i.n=0/\i.m=0/\i.cond=0)&&decide (-16777216<=i.imm)&&decide (i.imm<=16777214)&&decide (i.imm.tmod 2=0)
 else match cL i.op with
  | some r=>jM r.2 i 0&&jM r.2 i 1&&jM r.2 i 2&&jM r.2 i 3&&jM r.2 i 4
  | none=>false
theorem VG {a b:Int} (h0:0<=a) (h:a % b=0):a.tmod b=0:=by rw [Int.tmod_eq_emod_of_nonneg h0];exact h
theorem dW {sl:List iZ} {i:gN} {k:Int} {s:iZ} (h:sl.find? (λs=>decide (s.part=k))=some s) (h1:s.least<=i.part k) (h2:i.part k<=s.most) (h3:(i.part k).tmod s.step=0):jM sl i k=true:=by
 unfold jM;rw [h];simp [h1,h2,h3]
theorem bZ {sl:List iZ} {i:gN} {k:Int} (h:sl.find? (λs=>decide (s.part=k))=none) (h1:i.part k=0):jM sl i k=true:=by
 unfold jM;rw [h];simp [h1]
theorem zN {i:gN} (h:i.okT):bS i=true:=by
 obtain ⟨op,d,n,m,imm,cond⟩:=i;have m1:∀ a:Int,a.tmod 1=0:=λa=>Int.tmod_one a;rcases h with ⟨h1,⟨h2,h3,h4⟩,⟨h5,h6⟩,h7,h8,h9⟩|⟨h1,⟨h2,h3⟩,h4,h5,⟨h6,h7,h8⟩,h9⟩|⟨⟨h1,h1'⟩,⟨h2,h3⟩,h4,h5,⟨h6,h7⟩,h9⟩|⟨⟨h1,h1'⟩,⟨h2,h3⟩,h4,⟨h5,h6⟩,h8,h9⟩|⟨h1,⟨h2,h3⟩,⟨h4,h5⟩,⟨h6,h7⟩,h8,h9⟩|⟨h1,⟨h2,h3⟩,⟨h4,h5⟩,h6,⟨h7,h8,h10⟩,h9⟩|⟨h1,h2,h3,h4,⟨h6,h7⟩,h9⟩<;>dsimp only at *
 ·subst h1 h7 h8 h9;simp [bS];omega
 ·have fin:∀ b sl,cL op=some (b,sl)->sl=[aS 0 8,bI 0 8 0 1020 4]->¬ op=28->¬ op=43->bS ⟨op,d,n,m,imm,cond⟩=true:=λb sl hf hs c1 c2=>by
   subst hs h4 h5 h9;unfold bS;rw [if_neg c1,if_neg c2,hf];have a0:=dW (sl:=[aS 0 8,bI 0 8 0 1020 4]) (i:=⟨op,d,0,0,imm,0⟩) (k:=0) (s:=aS 0 8) rfl h2 h3 (m1 _);have a1:=bZ (sl:=[aS 0 8,bI 0 8 0 1020 4]) (i:=⟨op,d,0,0,imm,0⟩) (k:=1) rfl rfl;have a2:=bZ (sl:=[aS 0 8,bI 0 8 0 1020 4]) (i:=⟨op,d,0,0,imm,0⟩) (k:=2) rfl rfl;have a3:=dW (sl:=[aS 0 8,bI 0 8 0 1020 4]) (i:=⟨op,d,0,0,imm,0⟩) (k:=3) (s:=bI 0 8 0 1020 4) rfl h6 h7 (VG h6 h8);have a4:=bZ (sl:=[aS 0 8,bI 0 8 0 1020 4]) (i:=⟨op,d,0,0,imm,0⟩) (k:=4) rfl rfl;dsimp only;rw [a0,a1,a2,a3,a4];rfl
  rcases h1 with rfl|rfl
  iterate 2
   ·exact fin _ _ rfl rfl (by decide) (by decide)
 ·subst h4 h5 h9;have hf:cL op=some (0x2000+(op - 8)*2048,[aS 0 8,bI 0 8 0 255 1]):=by unfold cL;rw [if_neg (by omega),if_pos ⟨h1,h1'⟩]
  unfold bS;rw [if_neg (by dsimp only;omega),if_neg (by dsimp only;omega)];dsimp only;rw [hf];have a0:=dW (sl:=[aS 0 8,bI 0 8 0 255 1]) (i:=⟨op,d,0,0,imm,0⟩) (k:=0) (s:=aS 0 8) rfl h2 h3 (m1 _);have a1:=bZ (sl:=[aS 0 8,bI 0 8 0 255 1]) (i:=⟨op,d,0,0,imm,0⟩) (k:=1) rfl rfl;have a2:=bZ (sl:=[aS 0 8,bI 0 8 0 255 1]) (i:=⟨op,d,0,0,imm,0⟩) (k:=2) rfl rfl;have a3:=dW (sl:=[aS 0 8,bI 0 8 0 255 1]) (i:=⟨op,d,0,0,imm,0⟩) (k:=3) (s:=bI 0 8 0 255 1) rfl h6 h7 (m1 _);have a4:=bZ (sl:=[aS 0 8,bI 0 8 0 255 1]) (i:=⟨op,d,0,0,imm,0⟩) (k:=4) rfl rfl;dsimp only;rw [a0,a1,a2,a3,a4];rfl
 ·subst h4 h8 h9;have hf:cL op=some (0x4000+(op - 12)*64,[aS 0 0,aS 2 3]):=by unfold cL;rw [if_pos ⟨h1,h1'⟩]
  unfold bS;rw [if_neg (by dsimp only;omega),if_neg (by dsimp only;omega)];dsimp only;rw [hf];have a0:=dW (sl:=[aS 0 0,aS 2 3]) (i:=⟨op,d,0,m,0,0⟩) (k:=0) (s:=aS 0 0) rfl h2 h3 (m1 _);have a1:=bZ (sl:=[aS 0 0,aS 2 3]) (i:=⟨op,d,0,m,0,0⟩) (k:=1) rfl rfl;have a2:=dW (sl:=[aS 0 0,aS 2 3]) (i:=⟨op,d,0,m,0,0⟩) (k:=2) (s:=aS 2 3) rfl h5 h6 (m1 _);have a3:=bZ (sl:=[aS 0 0,aS 2 3]) (i:=⟨op,d,0,m,0,0⟩) (k:=3) rfl rfl;have a4:=bZ (sl:=[aS 0 0,aS 2 3]) (i:=⟨op,d,0,m,0,0⟩) (k:=4) rfl rfl;dsimp only;rw [a0,a1,a2,a3,a4];rfl
 ·have fin:∀ b sl,cL op=some (b,sl)->sl=[aS 0 0,aS 1 3,aS 2 6]->¬ op=28->¬ op=43->bS ⟨op,d,n,m,imm,cond⟩=true:=λb sl hf hs c1 c2=>by
   subst hs h8 h9;unfold bS;rw [if_neg c1,if_neg c2,hf];have a0:=dW (sl:=[aS 0 0,aS 1 3,aS 2 6]) (i:=⟨op,d,n,m,0,0⟩) (k:=0) (s:=aS 0 0) rfl h2 h3 (m1 _);have a1:=dW (sl:=[aS 0 0,aS 1 3,aS 2 6]) (i:=⟨op,d,n,m,0,0⟩) (k:=1) (s:=aS 1 3) rfl h4 h5 (m1 _);have a2:=dW (sl:=[aS 0 0,aS 1 3,aS 2 6]) (i:=⟨op,d,n,m,0,0⟩) (k:=2) (s:=aS 2 6) rfl h6 h7 (m1 _);have a3:=bZ (sl:=[aS 0 0,aS 1 3,aS 2 6]) (i:=⟨op,d,n,m,0,0⟩) (k:=3) rfl rfl;have a4:=bZ (sl:=[aS 0 0,aS 1 3,aS 2 6]) (i:=⟨op,d,n,m,0,0⟩) (k:=4) rfl rfl;dsimp only;rw [a0,a1,a2,a3,a4];rfl
  rcases h1 with rfl|rfl
  iterate 2
   ·exact fin _ _ rfl rfl (by decide) (by decide)
 ·have fin:∀ b sl,cL op=some (b,sl)->sl=[aS 0 0,aS 1 3,bI 6 5 0 124 4]->¬ op=28->¬ op=43->bS ⟨op,d,n,m,imm,cond⟩=true:=λb sl hf hs c1 c2=>by
   subst hs h6 h9;unfold bS;rw [if_neg c1,if_neg c2,hf];have a0:=dW (sl:=[aS 0 0,aS 1 3,bI 6 5 0 124 4]) (i:=⟨op,d,n,0,imm,0⟩) (k:=0) (s:=aS 0 0) rfl h2 h3 (m1 _);have a1:=dW (sl:=[aS 0 0,aS 1 3,bI 6 5 0 124 4]) (i:=⟨op,d,n,0,imm,0⟩) (k:=1) (s:=aS 1 3) rfl h4 h5 (m1 _);have a2:=bZ (sl:=[aS 0 0,aS 1 3,bI 6 5 0 124 4]) (i:=⟨op,d,n,0,imm,0⟩) (k:=2) rfl rfl;have a3:=dW (sl:=[aS 0 0,aS 1 3,bI 6 5 0 124 4]) (i:=⟨op,d,n,0,imm,0⟩) (k:=3) (s:=bI 6 5 0 124 4) rfl h7 h8 (VG h7 h10);have a4:=bZ (sl:=[aS 0 0,aS 1 3,bI 6 5 0 124 4]) (i:=⟨op,d,n,0,imm,0⟩) (k:=4) rfl rfl;dsimp only;rw [a0,a1,a2,a3,a4];rfl
  rcases h1 with rfl|rfl
  iterate 2
   ·exact fin _ _ rfl rfl (by decide) (by decide)
 ·subst h1 h2 h3 h4 h9;have hf:cL 44=some (0xdf00,[bI 0 8 0 255 1]):=rfl;unfold bS;rw [if_neg (by dsimp only;decide),if_neg (by dsimp only;decide)];dsimp only;rw [hf];have a0:=bZ (sl:=[bI 0 8 0 255 1]) (i:=⟨44,0,0,0,imm,0⟩) (k:=0) rfl rfl;have a1:=bZ (sl:=[bI 0 8 0 255 1]) (i:=⟨44,0,0,0,imm,0⟩) (k:=1) rfl rfl;have a2:=bZ (sl:=[bI 0 8 0 255 1]) (i:=⟨44,0,0,0,imm,0⟩) (k:=2) rfl rfl;have a3:=dW (sl:=[bI 0 8 0 255 1]) (i:=⟨44,0,0,0,imm,0⟩) (k:=3) (s:=bI 0 8 0 255 1) rfl h6 h7 (m1 _);have a4:=bZ (sl:=[bI 0 8 0 255 1]) (i:=⟨44,0,0,0,imm,0⟩) (k:=4) rfl rfl;dsimp only;rw [a0,a1,a2,a3,a4];rfl
end Go.Proofs.YtjcmcfidblhnnaaGreatDoor
namespace Go.Vc
section
variable {P:Program} {w:O} {K:Y->O->Prop} {k:IntKind} {t:TypeId} {a b:Int}
theorem rK:(binOp .and t (.int k a) (.int k b)).run P w=.ok (.int k (k.wrap (BitVec.ofInt k.bits a &&& BitVec.ofInt k.bits b).toNat)) w:=by simp [binOp,Op.intBits]
theorem aFj:(binOp .or t (.int k a) (.int k b)).run P w=.ok (.int k (k.wrap (BitVec.ofInt k.bits a ||| BitVec.ofInt k.bits b).toNat)) w:=by simp [binOp,Op.intBits]
theorem VN:(binOp .xor t (.int k a) (.int k b)).run P w=.ok (.int k (k.wrap (BitVec.ofInt k.bits a ^^^ BitVec.ofInt k.bits b).toNat)) w:=by simp [binOp,Op.intBits]
theorem DC:(binOp .andNot t (.int k a) (.int k b)).run P w=.ok (.int k (k.wrap (BitVec.ofInt k.bits a &&& ~~~ BitVec.ofInt k.bits b).toNat)) w:=by simp [binOp,Op.intBits]
theorem sH {k':IntKind} (h:0<=b):(binOp .shl t (.int k a) (.int k' b)).run P w=.ok (.int k (k.wrap (a*2 ^ (min b.toNat k.bits)))) w:=by
 have:¬ b < 0:=by omega
 simp [binOp,Op.shift,this]
theorem qV {k':IntKind} (h:0<=b):(binOp .shr t (.int k a) (.int k' b)).run P w=.ok (.int k (a.fdiv (2 ^ (min b.toNat k.bits)))) w:=by
 have:¬ b < 0:=by omega
 simp [binOp,Op.shift,this]
end
end Go.Vc
namespace Go.Proofs.YtjcmcfidblhnnaaGreatDoor
open Tryz
open Go.Vc
variable {w:O} {K:Y->O->Prop}
variable {n:Nat} {R:Y->O->Prop} {parts:Array (Nat × Y)} {a base op:Int} {w' w0:O}
abbrev u16 (b:Int):Y:=.int .u16 b
theorem tL {n:Int} (h0:0<=n) (h1:n < 65536):IntKind.u16.wrap n=n:=by
 have e:n % (2 ^ 16:Int)=n:=by omega
 unfold IntKind.wrap;simp only [show IntKind.u16.bits=16 from rfl,show IntKind.u16.signed=false from rfl,e,Bool.false_and,Bool.false_eq_true,if_false]
def iZ.v (s:iZ):Y:=.agg #[i64 s.part,i64 s.shift,i64 s.bits,i64 s.least,i64 s.most,i64 s.step]
def slC (l:List iZ):List Y:=l.flatMap iZ.cells
def aJl (w:O) (v:Y) (l:List iZ):Prop:=aA w v 6 l.length (slC l)
def NN (B:Nat) (w:O) (op:Int):Option (Int × List iZ)->Y->Prop
 | some (b,sl),v=>∃ sv,v=.tuple #[.agg #[i64 op,u16 b,sv],.bool true]/\w.ownsRow B 210 6 sv sl.length (slC sl)
 | none,v=>v=.tuple #[.agg #[i64 0,u16 0,aX],.bool false]
theorem aZn {s:iZ} (hp:parts=#[(0,i64 s.part),(1,i64 s.shift),(2,i64 s.bits),(3,i64 s.least),(4,i64 s.most),(5,i64 s.step)]) (hk:∀ w',aE w w'->R s.v w') :
  V prog (Instr.alloc 210 true (.tuple #[])) w λp w1=>V prog (Instr.build 210 parts) w1 λv w2=>U prog (Instr.storeAt 210 p v) w2 λ_ w3=>
   ∃ r1,(loadVar 210 (match p with|.pointer (some p)=>p|_=>⟨0,0,none⟩)).run prog w3=.ok r1 w3/\(∃ q,p=Value.pointer (some q))/\R r1 w3:=by
 subst hp;refine zA nF λw1 hB x1=>?_;have hB:bO w1 w.heap.size [i64 0,i64 0,i64 0,i64 0,i64 0,i64 0] 210:=hB;refine oD aIt [(0,i64 s.part),(1,i64 s.shift),(2,i64 s.bits),(3,i64 s.least),(4,i64 s.most),(5,i64 s.step)] rfl rfl ?_;refine yW nF hB (l:=s.cells) rfl rfl rfl rfl λw2 hB2 hc=>?_;exact ⟨_,nS underlying210 rfl nF hB2 rfl,⟨_,rfl⟩,hk w2 (hc.ext _ x1 (Nat.le_refl _))⟩
theorem GM {p s:Int} (hk:∀ w',aE w w'->K (aS p s).v w'):aC prog 99 #[i64 p,i64 s] w K:=by
 apply bEu;unfold YE;exact aZn (s:=aS p s) rfl hk
theorem vM {s b l m t:Int} (hk:∀ w',aE w w'->K (bI s b l m t).v w'):aC prog 100 #[i64 s,i64 b,i64 l,i64 m,i64 t] w K:=by
 apply aZh;unfold RY;exact aZn (s:=bI s b l m t) rfl hk
theorem LA {sl:List iZ} (hn:n=sl.length) (hp:parts.toList=((sl.map iZ.v).zipIdx 0).map λx=>(x.2,x.1)) (h0:0 < n) (hl:n<=100) (hk:∀ u w1,w1.ownsRow w.heap.size 210 6 u sl.length (slC sl)->aE w w1->K u w1):V prog (Instr.buildSlice 155 n parts) w K:=by
 refine zX underlying155 nF rfl (by decide) (sl.map iZ.v) (by simpa using hn) hp (λv hv=>?_) h0 (by omega) λu w1 ho x1=>hk u w1 ?_ x1
 ·obtain ⟨s,_,rfl⟩:=List.mem_map.1 hv;rfl
 ·have e:(sl.map iZ.v).flatMap (λv=>v.cells.toList)=slC sl:=by
   unfold slC;rw [List.flatMap_map];rfl
  rw [e,hn] at ho;exact ho
theorem aCe {b:Int} {u:Y} (h:bY u=true):([i64 a,u16 b,u].all bY)=true:=by show (true&&(true&&(bY u&&true)))=true;rw [h];rfl
theorem bl3 {b:Int} {u:Y} (h:bY u=true):([(0,i64 a),(1,u16 b),(2,u)].all λx:Nat × Y=>decide (x.1 < 3)&&bY x.2)=true:=by show ((true&&true)&&((true&&true)&&((true&&bY u)&&true)))=true;rw [h];rfl
theorem aEw {sl:List iZ} {g:Nat} {u:Y} {B:Nat} (hB:bO w g [i64 0,u16 0,aX] 157) (hx:aE w0 w) (hg:w0.heap.size<=g) (hu:w.ownsRow B 210 6 u sl.length (slC sl)) (hgB:g < B)
  (hk:∀ v w',UY w g w'->NN w0.heap.size w' op (some (base,sl)) v->aE w0 w'->R v w') :
  U prog (Instr.storeAt 157 (.pointer (some ⟨g,0,none⟩)) (.agg #[i64 op,u16 base,u])) w λ_ w3=>
   ∃ r1,(loadVar 157 ⟨g,0,none⟩).run prog w3=.ok r1 w3/\(∃ q,Value.pointer (some ⟨g,0,none⟩)=Value.pointer (some q))/\R (.tuple #[r1,.bool true]) w3:=by
 refine yW nP hB (l:=[i64 op,u16 base,u]) rfl rfl rfl (aCe (nU hu)) λw2 hB2 hc=>?_;exact ⟨_,nS underlying157 rfl nP hB2 rfl,⟨_,rfl⟩,hk _ w2 hc ⟨u,rfl,aU (hc.ownRow hu hgB) (by omega)⟩ (hc.ext _ hx hg)⟩
theorem qB {sl:List iZ} {g:Nat} (hB:bO w g [i64 0,u16 0,aX] 157) (hx:aE w0 w) (hg:w0.heap.size<=g) (hn:n=sl.length) (hp:parts.toList=((sl.map iZ.v).zipIdx 0).map λx=>(x.2,x.1)) (h0:0 < n) (hl:n<=100)
  (hk:∀ v w',NN w0.heap.size w' op (some (base,sl)) v->aE w0 w'->R v w') :
  V prog (Instr.buildSlice 155 n parts) w λu w1=>V prog (Instr.build 157 #[(0,i64 op),(1,u16 base),(2,u)]) w1 λv w2=>U prog (Instr.storeAt 157 (.pointer (some ⟨g,0,none⟩)) v) w2 λ_ w3=>
   ∃ r1,(loadVar 157 ⟨g,0,none⟩).run prog w3=.ok r1 w3/\(∃ q,Value.pointer (some ⟨g,0,none⟩)=Value.pointer (some q))/\R (.tuple #[r1,.bool true]) w3:=by
 refine LA hn hp h0 hl λu w1 ho x1=>?_;refine oD KH [(0,i64 op),(1,u16 base),(2,u)] rfl (bl3 (nU ho)) ?_;exact aEw (hB.ext x1) (hx.trans x1) hg ho hB.lt λv w' _=>hk v w'
theorem nL {sl:List iZ} {g:Nat} {S:O->Prop} (hB:bO w g [i64 0,u16 0,aX] 157) (hx:aE w0 w) (hg:w0.heap.size<=g) (hn:n=sl.length) (hp:parts.toList=((sl.map iZ.v).zipIdx 0).map λx=>(x.2,x.1)) (h0:0 < n) (hl:n<=100)
  (h1:∀ w',aE w w'->S w') (h2:∀ w1 w',aE w w1->UY w1 g w'->S w') (hk:∀ v w',NN w0.heap.size w' op (some (base,sl)) v->aE w0 w'->R v w') :
  V prog (Instr.buildSlice 155 n parts) w λu w1=>S w1/\aD prog S (Instr.build 157 #[(0,i64 op),(1,u16 base),(2,u)]) λv=>U prog (Instr.storeAt 157 (.pointer (some ⟨g,0,none⟩)) v) w1 λ_ w3=>
   S w3/\∃ r1,(loadVar 157 ⟨g,0,none⟩).run prog w3=.ok r1 w3/\(∃ q,Value.pointer (some ⟨g,0,none⟩)=Value.pointer (some q))/\R (.tuple #[r1,.bool true]) w3:=by
 refine LA hn hp h0 hl λu w1 ho x1=>⟨h1 w1 x1,?_⟩;refine nB KH [(0,i64 op),(1,u16 base),(2,u)] rfl (bl3 (nU ho)) ?_;refine yW nP (hB.ext x1) (l:=[i64 op,u16 base,u]) rfl rfl rfl (aCe (nU ho)) λw2 hB2 hc=>⟨h2 w1 w2 x1 hc,?_⟩;exact ⟨_,nS underlying157 rfl nP hB2 rfl,⟨_,rfl⟩,hk _ w2 ⟨u,rfl,aU (hc.ownRow ho hB.lt) (by have:=hB.lt;omega)⟩ (hc.ext _ (hx.trans x1) hg)⟩
theorem aFf {lo hi:Int} {A B:O->Prop} (h1:lo<=a/\a<=hi->A w) (h2:¬ (lo<=a/\a<=hi)->B w):V prog (binOp .geq 3 (i64 a) (i64 lo)) w λt w1=>gd t true (λK=>K (i64 a) w1) w1 λt2 w2=>gd t true (λK=>V prog (binOp .leq 3 t2 (i64 hi)) w2 K) w2 λt3 w3=>aF t t3 (.bool false) λt4=>aI t4 (A w3) (B w3):=by
 refine kO.2 ?_;by_cases hl:a>=lo
 ·simp only [hl,decide_true,lO];refine rH.2 (jC ?_);rw [if_pos rfl];exact aB (λh=>h1 ⟨hl,h⟩) λh=>h2 λh'=>h h'.2
 ·simp only [hl,decide_false,lG,aV,Bool.false_eq_true,reduceIte,aP];exact h2 λh=>hl h.1
structure KS (b4 b5 b6 b7 b8:Nat) (w:O):Prop where
 a4:aY w b4 (aS 0 0).cells
 a5:aY w b5 (aS 2 3).cells
 a6:aY w b6 (aS 0 8).cells
 a7:aY w b7 (aS 1 3).cells
 a8:aY w b8 (aS 2 6).cells
theorem KS.ext {b4 b5 b6 b7 b8:Nat} {w':O} (h:KS b4 b5 b6 b7 b8 w) (hx:aE w w'):KS b4 b5 b6 b7 b8 w':=⟨h.a4.ext hx,h.a5.ext hx,h.a6.ext hx,h.a7.ext hx,h.a8.ext hx⟩
theorem pO {b g:Nat} {cs:List Y} (h:aY w b cs) (hc:UY w g w') (hne:b≠g):aY w' b cs:=λj u hj=>by rw [hc.cell hne];exact h j u hj
theorem KS.chg {b4 b5 b6 b7 b8 g:Nat} (h:KS b4 b5 b6 b7 b8 w) (hc:UY w g w') (hg:g < b4/\g < b5/\g < b6/\g < b7/\g < b8):KS b4 b5 b6 b7 b8 w':=⟨pO h.a4 hc (by omega),pO h.a5 hc (by omega),pO h.a6 hc (by omega),pO h.a7 hc (by omega),pO h.a8 hc (by omega)⟩
theorem aQk (hk:∀ v w',NN w.heap.size w' op (mE op) v->aE w w'->K v w'):aC prog 101 #[i64 op] w K:=by
 apply aZg;unfold RX;refine zA nP λw1 hB x1=>?_;have hB:bO w1 w.heap.size [i64 0,u16 0,aX] 157:=hB;have hlt:=hB.lt;refine GM λw2 x2=>?_;refine rX CQ rfl rfl λw3 hB4 x3=>?_;have hB4:bO w3 w2.heap.size (aS 0 8).cells 210:=hB4;have x03:=(x1.trans x2).trans x3;have hB:=(hB.ext x2).ext x3;refine aH.2 (aB (λe=>?_) λe36=>?_)
 ·subst e;have hf:mE 36=some (36864,[aS 0 8,bI 0 8 0 1020 4]):=rfl;rw [hf] at hk;have D:aE w3 w3.drew:=(aE.refl _).drew;refine aK.mk' (λw'=>aY w' w2.heap.size (aS 0 8).cells) (hB4.ext D).boxed ?_;refine yA (λ_ h=>h) eX rfl ?_;refine vM λw4 x4=>⟨(hB4.ext (D.trans x4)).boxed,?_⟩;exact nL (hB.ext (D.trans x4)) (x03.trans (D.trans x4)) (Nat.le_refl _) (sl:=[aS 0 8,bI 0 8 0 1020 4]) rfl rfl (by decide) (by decide) (λw' hx=>(hB4.ext ((D.trans x4).trans hx)).boxed) (λw5 w6 hx hc=>pO (hB4.ext ((D.trans x4).trans hx)).boxed hc (by have:=x2.size;omega)) hk
 refine aH.2 (aB (λe=>?_) λe35=>?_)
 ·subst e;have hf:mE 35=some (38912,[aS 0 8,bI 0 8 0 1020 4]):=rfl;rw [hf] at hk;have D:aE w3 w3.drew:=(aE.refl _).drew;refine aK.mk' (λw'=>aY w' w2.heap.size (aS 0 8).cells) (hB4.ext D).boxed ?_;refine yA (λ_ h=>h) eX rfl ?_;refine vM λw4 x4=>⟨(hB4.ext (D.trans x4)).boxed,?_⟩;exact nL (hB.ext (D.trans x4)) (x03.trans (D.trans x4)) (Nat.le_refl _) (sl:=[aS 0 8,bI 0 8 0 1020 4]) rfl rfl (by decide) (by decide) (λw' hx=>(hB4.ext ((D.trans x4).trans hx)).boxed) (λw5 w6 hx hc=>pO (hB4.ext ((D.trans x4).trans hx)).boxed hc (by have:=x2.size;omega)) hk
 refine aH.2 (aB (λe=>?_) λe37=>?_)
 ·subst e;have hf:mE 37=some (45056,[bI 0 7 0 508 4]):=rfl;rw [hf] at hk;refine vM λw4 x4=>?_;exact qB (hB.ext x4) (x03.trans x4) (Nat.le_refl _) (sl:=[bI 0 7 0 508 4]) rfl rfl (by decide) (by decide) hk
 refine aH.2 (aB (λe=>?_) λe38=>?_)
 ·subst e;have hf:mE 38=some (45184,[bI 0 7 0 508 4]):=rfl;rw [hf] at hk;refine vM λw4 x4=>?_;exact qB (hB.ext x4) (x03.trans x4) (Nat.le_refl _) (sl:=[bI 0 7 0 508 4]) rfl rfl (by decide) (by decide) hk
 refine aH.2 (aB (λe=>?_) λe39=>?_)
 ·subst e;have hf:mE 39=some (46080,[bI 0 9 1 511 1]):=rfl;rw [hf] at hk;refine vM λw4 x4=>?_;exact qB (hB.ext x4) (x03.trans x4) (Nat.le_refl _) (sl:=[bI 0 9 1 511 1]) rfl rfl (by decide) (by decide) hk
 refine aH.2 (aB (λe=>?_) λe40=>?_)
 ·subst e;have hf:mE 40=some (48128,[bI 0 9 1 511 1]):=rfl;rw [hf] at hk;refine vM λw4 x4=>?_;exact qB (hB.ext x4) (x03.trans x4) (Nat.le_refl _) (sl:=[bI 0 9 1 511 1]) rfl rfl (by decide) (by decide) hk
 refine aH.2 (aB (λe=>?_) λe41=>?_)
 ·subst e;have hf:mE 41=some (53248,[bI 0 8 (-256) 254 2,⟨4,8,4,0,13,1⟩]):=rfl;rw [hf] at hk;refine vM λw4 x4=>?_;refine oD aIt [(0,i64 4),(1,i64 8),(2,i64 4),(3,i64 0),(4,i64 13),(5,i64 1)] rfl rfl ?_;exact qB (hB.ext x4) (x03.trans x4) (Nat.le_refl _) (sl:=[bI 0 8 (-256) 254 2,⟨4,8,4,0,13,1⟩]) rfl rfl (by decide) (by decide) hk
 refine aH.2 (aB (λe=>?_) λe42=>?_)
 ·subst e;have hf:mE 42=some (57344,[bI 0 11 (-2048) 2046 2]):=rfl;rw [hf] at hk;refine vM λw4 x4=>?_;exact qB (hB.ext x4) (x03.trans x4) (Nat.le_refl _) (sl:=[bI 0 11 (-2048) 2046 2]) rfl rfl (by decide) (by decide) hk
 refine aH.2 (aB (λe=>?_) λe44=>?_)
 ·subst e;have hf:mE 44=some (57088,[bI 0 8 0 255 1]):=rfl;rw [hf] at hk;refine vM λw4 x4=>?_;exact qB (hB.ext x4) (x03.trans x4) (Nat.le_refl _) (sl:=[bI 0 8 0 255 1]) rfl rfl (by decide) (by decide) hk
 refine aH.2 (aB (λe=>?_) λe45=>?_)
 ·subst e;have hf:mE 45=some (48896,[]):=rfl;rw [hf] at hk;refine oD KH [(0,i64 45),(1,u16 48896),(2,aX)] rfl rfl ?_;exact aEw hB x03 (Nat.le_refl _) (sl:=[]) (World.ownsRow_nil _ (w.heap.size+1) _ _) (Nat.lt_succ_self _) λv w' _=>hk v w'
 have hf:mE op=none:=by unfold mE;simp only [e36,e35,e37,e38,e39,e40,e41,e42,e44,e45,if_false]
 rw [hf] at hk;refine oD KH [] rfl rfl ?_;refine yW nP hB (l:=[i64 0,u16 0,aX]) rfl rfl rfl rfl λw4 hB2 hc=>?_;exact ⟨_,nS underlying157 rfl nP hB2 rfl,⟨_,rfl⟩,hk _ w4 rfl (hc.ext _ x03 (Nat.le_refl _))⟩
theorem TZ (hk:∀ v w',NN w.heap.size w' op (cL op) v->aE w w'->K v w'):aC prog 48 #[i64 op] w K:=by
 apply bGp;unfold ZV;refine zA nP λw1 hB x1=>?_;have hB:bO w1 w.heap.size [i64 0,u16 0,aX] 157:=hB;have hlt:=hB.lt;refine GM λw2 x2=>GM λw3 x3=>GM λw4 x4=>GM λw5 x5=>?_;refine zA nF λw6 h4 x6=>zA nF λw7 h5 x7=>zA nF λw8 h6 x8=>zA nF λw9 h7 x9=>?_;have x15:=((x2.trans x3).trans x4).trans x5;have x19:=(((x15.trans x6).trans x7).trans x8).trans x9;have z4:=h4.lt;have z5:=h5.lt;have z6:=h6.lt;have z7:=h7.lt;have s5:=x15.size;have s6:=x6.size;have s7:=x7.size;have s8:=x8.size;have s9:=x9.size;have h4:=((h4.ext x7).ext x8).ext x9;have h5:=(h5.ext x8).ext x9;have h6:=h6.ext x9;have hB:=hB.ext x19;have x09:=x1.trans x19;generalize w5.heap.size=b4 at *;generalize w6.heap.size=b5 at *;generalize w7.heap.size=b6 at *;generalize w8.heap.size=b7 at *;refine yW nF h4 (l:=(aS 0 0).cells) rfl rfl rfl rfl λw10 k4 c4=>?_;have h5:=c4.other (by omega) h5;have h6:=c4.other (by omega) h6;have h7:=c4.other (by omega) h7;have hB:=c4.other (by omega) hB;refine yW nF h5 (l:=(aS 2 3).cells) rfl rfl rfl rfl λw11 k5 c5=>?_;have k4:=c5.other (by omega) k4;have h6:=c5.other (by omega) h6;have h7:=c5.other (by omega) h7;have hB:=c5.other (by omega) hB;refine yW nF h6 (l:=(aS 0 8).cells) rfl rfl rfl rfl λw12 k6 c6=>?_;have k4:=c6.other (by omega) k4;have k5:=c6.other (by omega) k5;have h7:=c6.other (by omega) h7;have hB:=c6.other (by omega) hB
 refine yW nF h7 (l:=(aS 1 3).cells) rfl rfl rfl rfl λw13 k7 c7=>?_;have k4:=c7.other (by omega) k4;have k5:=c7.other (by omega) k5;have k6:=c7.other (by omega) k6;have hB:=c7.other (by omega) hB;have x13:aE w w13:=c7.ext _ (c6.ext _ (c5.ext _ (c4.ext _ x09 (by omega)) (by omega)) (by omega)) (by omega);have s13:w13.heap.size=w9.heap.size:=by rw [c7.size,c6.size,c5.size,c4.size]
 refine GM λw14 x14=>?_;refine rX CQ rfl rfl λw16 k8 x16=>?_;have k8:bO w16 w14.heap.size (aS 2 6).cells 210:=k8;have xa:=x14.trans x16;have s14:=x14.size;have hS:KS b4 b5 b6 b7 w14.heap.size w16:=⟨(k4.ext xa).boxed,(k5.ext xa).boxed,(k6.ext xa).boxed,(k7.ext xa).boxed,k8.boxed⟩;have hB:=hB.ext xa;have x0:=x13.trans xa;have hG:w.heap.size < b4/\w.heap.size < b5/\w.heap.size < b6/\w.heap.size < b7/\w.heap.size < w14.heap.size:=by omega
 obtain ⟨g,hgg⟩:∃ g,g=w.heap.size:=⟨_,rfl⟩;have hg:w.heap.size<=g:=Nat.le_of_eq hgg.symm;rw [<- hgg] at hB hG ⊢;have hgl:=hB.lt;generalize w14.heap.size=b8 at hS hG;clear k4 k5 k6 k7 k8 c4 c5 c6 c7 h4 h5 h6 h7 x09 x19 x15 xa x13 s5 s6 s7 s8 s9 z4 z5 z6 z7 s13 s14;have D:aE w16 w16.drew:=(aE.refl _).drew
 have imm:∀ {s b l m t:Int} {K':Y->O->Prop},(∀ w',KS b4 b5 b6 b7 b8 w'->bO w' g [i64 0,u16 0,aX] 157->aE w w'->K' (bI s b l m t).v w')->aC prog 100 #[i64 s,i64 b,i64 l,i64 m,i64 t] w16.drew K':=λhk'=>
  vM λw' hx=>hk' w' (hS.ext (D.trans hx)) (hB.ext (D.trans hx)) (x0.trans (D.trans hx))
 refine aFf (λh1=>?_) λn1=>?_
 ·have hf:cL op=some (0x4000+(op - 12)*64,[aS 0 0,aS 2 3]):=by unfold cL;rw [if_pos h1]
  rw [hf] at hk;refine eY.2 ?_;rw [aM (by omega)];refine V.ok (kM underlying3 underlying151) ?_;rw [tL (by omega) (by omega)];refine V.ok (sH (by decide)) ?_;rw [show (2:Int) ^ (min (6:Int).toNat IntKind.u16.bits)=64 from rfl,tL (by omega) (by omega)];refine bA.2 ?_;rw [tL (by omega) (by omega)];refine iF hS.a4 eX rfl (iF hS.a5 eX rfl ?_);exact qB hB x0 hg (sl:=[aS 0 0,aS 2 3]) rfl rfl (by decide) (by decide) hk
 refine aFf (λh1=>?_) λn2=>?_
 ·have hf:cL op=some (0x2000+(op - 8)*2048,[aS 0 8,bI 0 8 0 255 1]):=by unfold cL;rw [if_neg n1,if_pos h1]
  rw [hf] at hk;refine aK.mk' (KS b4 b5 b6 b7 b8) (hS.ext D) ?_;refine aD.ok (λ_ _=>eM) ?_;rw [aM (by omega)];refine aD.ok (λ_ _=>kM underlying3 underlying151) ?_;rw [tL (by omega) (by omega)];refine aD.ok (λ_ _=>sH (by decide)) ?_;rw [show (2:Int) ^ (min (11:Int).toNat IntKind.u16.bits)=2048 from rfl,tL (by omega) (by omega)];refine aD.ok (λ_ _=>DD) ?_;rw [tL (by omega) (by omega)];refine yA (λ_ h=>h.a6) eX rfl ?_;refine imm λw' hS hB x0=>⟨hS,?_⟩;exact nL hB x0 hg (sl:=[aS 0 8,bI 0 8 0 255 1]) rfl rfl (by decide) (by decide) (λ_ hx=>hS.ext hx) (λ_ _ hx hc=>(hS.ext hx).chg hc hG) hk
 refine aH.2 (aB (λe=>?_) λe1=>?_)
 ·subst e;have hf:cL 1=some (0,[aS 0 0,aS 2 3,bI 6 5 0 31 1]):=rfl;rw [hf] at hk;refine aK.mk' (KS b4 b5 b6 b7 b8) (hS.ext D) ?_;refine yA (λ_ h=>h.a4) eX rfl (yA (λ_ h=>h.a5) eX rfl ?_);refine imm λw' hS hB x0=>⟨hS,?_⟩;exact nL hB x0 hg (sl:=[aS 0 0,aS 2 3,bI 6 5 0 31 1]) rfl rfl (by decide) (by decide) (λ_ hx=>hS.ext hx) (λ_ _ hx hc=>(hS.ext hx).chg hc hG) hk
 refine aH.2 (aB (λe=>?_) λe2=>?_)
 ·subst e;have hf:cL 2=some (2048,[aS 0 0,aS 2 3,bI 6 5 1 32 1]):=rfl;rw [hf] at hk;refine aK.mk' (KS b4 b5 b6 b7 b8) (hS.ext D) ?_;refine yA (λ_ h=>h.a4) eX rfl (yA (λ_ h=>h.a5) eX rfl ?_);refine imm λw' hS hB x0=>⟨hS,?_⟩;exact nL hB x0 hg (sl:=[aS 0 0,aS 2 3,bI 6 5 1 32 1]) rfl rfl (by decide) (by decide) (λ_ hx=>hS.ext hx) (λ_ _ hx hc=>(hS.ext hx).chg hc hG) hk
 refine aH.2 (aB (λe=>?_) λe3=>?_)
 ·subst e;have hf:cL 3=some (4096,[aS 0 0,aS 2 3,bI 6 5 1 32 1]):=rfl;rw [hf] at hk;refine aK.mk' (KS b4 b5 b6 b7 b8) (hS.ext D) ?_;refine yA (λ_ h=>h.a4) eX rfl (yA (λ_ h=>h.a5) eX rfl ?_);refine imm λw' hS hB x0=>⟨hS,?_⟩;exact nL hB x0 hg (sl:=[aS 0 0,aS 2 3,bI 6 5 1 32 1]) rfl rfl (by decide) (by decide) (λ_ hx=>hS.ext hx) (λ_ _ hx hc=>(hS.ext hx).chg hc hG) hk
 refine aH.2 (aB (λe=>?_) λe4=>?_)
 ·subst e;have hf:cL 4=some (6144,[aS 0 0,aS 1 3,aS 2 6]):=rfl;rw [hf] at hk;refine iF hS.a4 eX rfl (iF hS.a7 eX rfl (iF hS.a8 eX rfl ?_));exact qB hB x0 hg (sl:=[aS 0 0,aS 1 3,aS 2 6]) rfl rfl (by decide) (by decide) hk
 refine aH.2 (aB (λe=>?_) λe5=>?_)
 ·subst e;have hf:cL 5=some (6656,[aS 0 0,aS 1 3,aS 2 6]):=rfl;rw [hf] at hk;refine iF hS.a4 eX rfl (iF hS.a7 eX rfl (iF hS.a8 eX rfl ?_));exact qB hB x0 hg (sl:=[aS 0 0,aS 1 3,aS 2 6]) rfl rfl (by decide) (by decide) hk
 refine aH.2 (aB (λe=>?_) λe6=>?_)
 ·subst e;have hf:cL 6=some (7168,[aS 0 0,aS 1 3,bI 6 3 0 7 1]):=rfl;rw [hf] at hk;refine aK.mk' (KS b4 b5 b6 b7 b8) (hS.ext D) ?_;refine yA (λ_ h=>h.a4) eX rfl (yA (λ_ h=>h.a7) eX rfl ?_);refine imm λw' hS hB x0=>⟨hS,?_⟩;exact nL hB x0 hg (sl:=[aS 0 0,aS 1 3,bI 6 3 0 7 1]) rfl rfl (by decide) (by decide) (λ_ hx=>hS.ext hx) (λ_ _ hx hc=>(hS.ext hx).chg hc hG) hk
 refine aH.2 (aB (λe=>?_) λe7=>?_)
 ·subst e;have hf:cL 7=some (7680,[aS 0 0,aS 1 3,bI 6 3 0 7 1]):=rfl;rw [hf] at hk;refine aK.mk' (KS b4 b5 b6 b7 b8) (hS.ext D) ?_;refine yA (λ_ h=>h.a4) eX rfl (yA (λ_ h=>h.a7) eX rfl ?_);refine imm λw' hS hB x0=>⟨hS,?_⟩;exact nL hB x0 hg (sl:=[aS 0 0,aS 1 3,bI 6 3 0 7 1]) rfl rfl (by decide) (by decide) (λ_ hx=>hS.ext hx) (λ_ _ hx hc=>(hS.ext hx).chg hc hG) hk
 refine aH.2 (aB (λe=>?_) λe30=>?_)
 ·subst e;have hf:cL 30=some (20480,[aS 0 0,aS 1 3,aS 2 6]):=rfl;rw [hf] at hk;refine iF hS.a4 eX rfl (iF hS.a7 eX rfl (iF hS.a8 eX rfl ?_));exact qB hB x0 hg (sl:=[aS 0 0,aS 1 3,aS 2 6]) rfl rfl (by decide) (by decide) hk
 refine aH.2 (aB (λe=>?_) λe29=>?_)
 ·subst e;have hf:cL 29=some (22528,[aS 0 0,aS 1 3,aS 2 6]):=rfl;rw [hf] at hk;refine iF hS.a4 eX rfl (iF hS.a7 eX rfl (iF hS.a8 eX rfl ?_));exact qB hB x0 hg (sl:=[aS 0 0,aS 1 3,aS 2 6]) rfl rfl (by decide) (by decide) hk
 refine aH.2 (aB (λe=>?_) λe32=>?_)
 ·subst e;have hf:cL 32=some (24576,[aS 0 0,aS 1 3,bI 6 5 0 124 4]):=rfl;rw [hf] at hk;refine aK.mk' (KS b4 b5 b6 b7 b8) (hS.ext D) ?_;refine yA (λ_ h=>h.a4) eX rfl (yA (λ_ h=>h.a7) eX rfl ?_);refine imm λw' hS hB x0=>⟨hS,?_⟩;exact nL hB x0 hg (sl:=[aS 0 0,aS 1 3,bI 6 5 0 124 4]) rfl rfl (by decide) (by decide) (λ_ hx=>hS.ext hx) (λ_ _ hx hc=>(hS.ext hx).chg hc hG) hk
 refine aH.2 (aB (λe=>?_) λe31=>?_)
 ·subst e;have hf:cL 31=some (26624,[aS 0 0,aS 1 3,bI 6 5 0 124 4]):=rfl;rw [hf] at hk;refine aK.mk' (KS b4 b5 b6 b7 b8) (hS.ext D) ?_;refine yA (λ_ h=>h.a4) eX rfl (yA (λ_ h=>h.a7) eX rfl ?_);refine imm λw' hS hB x0=>⟨hS,?_⟩;exact nL hB x0 hg (sl:=[aS 0 0,aS 1 3,bI 6 5 0 124 4]) rfl rfl (by decide) (by decide) (λ_ hx=>hS.ext hx) (λ_ _ hx hc=>(hS.ext hx).chg hc hG) hk
 refine aH.2 (aB (λe=>?_) λe34=>?_)
 ·subst e;have hf:cL 34=some (28672,[aS 0 0,aS 1 3,bI 6 5 0 31 1]):=rfl;rw [hf] at hk;refine aK.mk' (KS b4 b5 b6 b7 b8) (hS.ext D) ?_;refine yA (λ_ h=>h.a4) eX rfl (yA (λ_ h=>h.a7) eX rfl ?_);refine imm λw' hS hB x0=>⟨hS,?_⟩;exact nL hB x0 hg (sl:=[aS 0 0,aS 1 3,bI 6 5 0 31 1]) rfl rfl (by decide) (by decide) (λ_ hx=>hS.ext hx) (λ_ _ hx hc=>(hS.ext hx).chg hc hG) hk
 refine aH.2 (aB (λe=>?_) λe33=>?_)
 ·subst e;have hf:cL 33=some (30720,[aS 0 0,aS 1 3,bI 6 5 0 31 1]):=rfl;rw [hf] at hk;refine aK.mk' (KS b4 b5 b6 b7 b8) (hS.ext D) ?_;refine yA (λ_ h=>h.a4) eX rfl (yA (λ_ h=>h.a7) eX rfl ?_);refine imm λw' hS hB x0=>⟨hS,?_⟩;exact nL hB x0 hg (sl:=[aS 0 0,aS 1 3,bI 6 5 0 31 1]) rfl rfl (by decide) (by decide) (λ_ hx=>hS.ext hx) (λ_ _ hx hc=>(hS.ext hx).chg hc hG) hk
 have hf:cL op=mE op:=by unfold cL;simp only [n1,n2,e1,e2,e3,e4,e5,e6,e7,e30,e29,e32,e31,e34,e33,if_false]
 rw [hf] at hk;refine aQk λv w' hv hx=>?_;have hB:=hB.ext hx;cases hl:mE op with
 | none=>
  rw [hl] at hv hk;have hv:v=_:=hv;subst hv;refine hU.2 (hO.2 ?_);refine yW nP hB (l:=[i64 0,u16 0,aX]) rfl rfl rfl rfl λw4 hB2 hc=>?_;exact ⟨_,nS underlying157 rfl nP hB2 rfl,⟨_,rfl⟩,hk _ w4 rfl (hc.ext _ (x0.trans hx) hg)⟩
 | some r=>
  rw [hl] at hv hk;obtain ⟨sv,rfl,hsv⟩:=hv;refine hU.2 (hO.2 ?_);refine yW nP hB (l:=[i64 op,u16 r.1,sv]) rfl rfl rfl (aCe (nU hsv)) λw4 hB2 hc=>?_;exact ⟨_,nS underlying157 rfl nP hB2 rfl,⟨_,rfl⟩,hk _ w4 ⟨sv,rfl,aU (hc.ownRow hsv (by have:g < w16.heap.size:=hgl;exact this)) (by omega)⟩ (hc.ext _ (x0.trans hx) hg)⟩
end Go.Proofs.YtjcmcfidblhnnaaGreatDoor
namespace Go.Vc
section
variable {P:Program} {w:O} {K:Y->O->Prop} {S:O->Prop} {L:Y->Prop}
theorem vN {d:Nat} {xs:Array Y}:∀ fs:List Field,(∀ f∈fs,∃ v,(part f.type xs f.offset).run P w=.ok v w/\(Op.equalIn d f.type v v).run P w=.ok true w)->(Op.eqFields d xs xs fs).run P w=.ok true w
 | [],_=>by simp [Op.eqFields]
 | f::fs,h=>by
  obtain ⟨v,h1,h2⟩:=h f (List.mem_cons_self ..);have ih:=vN fs λg hg=>h g (List.mem_cons_of_mem _ hg);unfold Op.eqFields;split
  ·simp only [Sem.run_bind,h1,Result.andThen_ok,h2,Bool.not_true,Bool.false_eq_true,if_false];exact ih
  ·exact ih
theorem DG {t:TypeId} {k:IntKind} {xs:Array Y} {o:Nat} {v:Y} (ht:P.underlying t=some (.int k)) (hv:xs[o]?=some v):(part t xs o).run P w=.ok v w:=by
 simp [part,isAgg,run_underlying ht,hv]
structure QT (P:Program) (t:TypeId) (fs:List (TypeId × Nat)):Prop where
 ht:P.underlying t=some (.struct (P.fieldsOf t))
 hp:P.stoodInHeld t=false
 hm:P.eqGuardType P.depth t=false
 hf:(P.fieldsOf t).toList.map (λf=>(f.type,f.offset))=fs
theorem QT.refl {t:TypeId} {fs:List (TypeId × Nat)} (h:QT P t fs) {d:Nat} {xs:Array Y} (hx:∀ f∈fs,∃ v,(part f.1 xs f.2).run P w=.ok v w/\(Op.equalIn d f.1 v v).run P w=.ok true w):(Op.equalIn (d+1) t (.agg xs) (.agg xs)).run P w=.ok true w:=by
 rw [run_equalIn_struct w d t xs xs h.ht h.hp];refine vN _ λf hf=>hx (f.type,f.offset) ?_;rw [<- h.hf];exact List.mem_map.2 ⟨f,hf,rfl⟩
theorem eqA {t:TypeId} {fs:List (TypeId × Nat)} (h:QT P t fs) {xs ys:Array Y} (he:xs=ys) {x y:Operand} (hx:∀ f∈fs,∃ v,(part f.1 xs f.2).run P w=.ok v w/\(Op.equalIn 9999 f.1 v v).run P w=.ok true w) (hk:K (.bool true) w) :
  V P (do eqGuard .eql t x y (.agg xs) (.agg ys);binOp .eql t (.agg xs) (.agg ys)) w K:=by
 subst he;refine V.ok ?_ hk;simp only [Sem.run_bind,run_eqGuard_agg w .eql t x y xs xs h.hm,Result.andThen_ok,run_eql_struct,h.refl hx]
end
end Go.Vc
namespace Go.Proofs.YtjcmcfidblhnnaaGreatDoor
open Tryz
open Go.Vc
variable {w:O} {K:Y->O->Prop}
def bCs:List (TypeId × Nat):=[(3,0),(3,1),(3,2),(3,3),(3,4),(3,5)]
theorem aZx:QT prog 83 bCs:=⟨by kernel_rfl,by kernel_rfl,by kernel_rfl,by kernel_rfl⟩
def gN.cells (i:gN):List Y:=[i64 i.op,i64 i.d,i64 i.n,i64 i.m,i64 i.imm,i64 i.cond]
theorem ML (i:gN) (d:Nat):∀ f∈bCs,∃ v,(part f.1 i.cells.toArray f.2).run prog w=.ok v w/\(Op.equalIn (d+1) f.1 v v).run prog w=.ok true w:=by
 intro f hf
 have key:∀ (o:Nat) (n:Int),i.cells.toArray[o]?=some (i64 n)->∃ v,(part 3 i.cells.toArray o).run prog w=.ok v w/\(Op.equalIn (d+1) 3 v v).run prog w=.ok true w:=λo n h=>
  ⟨_,DG underlying3 h,by rw [run_equalIn_int w d 3 _ _ _ _ underlying3];simp⟩
 simp only [bCs,List.mem_cons,List.not_mem_nil,or_false] at hf;rcases hf with rfl|rfl|rfl|rfl|rfl|rfl<;>exact key _ _ rfl
theorem bAg {i j:gN} (he:i=j) {x y:Operand} (hk:K (.bool true) w):V prog (do eqGuard .eql 83 x y (.agg i.cells.toArray) (.agg j.cells.toArray);binOp .eql 83 (.agg i.cells.toArray) (.agg j.cells.toArray)) w K:=
 eqA aZx (by rw [he]) (ML i 9998) hk
def xP (k:Int):Nat:=if k=0 then 1 else if k=1 then 2 else if k=2 then 3 else if k=3 then 4 else 5
theorem VW (i:gN) (k:Int):i.cells[xP k]?=some (i64 (i.part k)):=by
 unfold xP gN.part;by_cases h0:k=0
 ·simp [h0,gN.cells]
 by_cases h1:k=1
 ·simp [h1,gN.cells]
 by_cases h2:k=2
 ·simp [h2,gN.cells]
 by_cases h3:k=3
 ·simp [h3,gN.cells]
 simp [h0,h1,h2,h3,gN.cells]
theorem SS {b:Nat} {k:Int} (hk:K (.pointer (some ⟨b,xP k,none⟩)) w):aC prog 104 #[.pointer (some ⟨b,0,none⟩),i64 k] w K:=by
 apply aZd;unfold RU;unfold xP at hk;refine aH.2 (aB (λe=>?_) λe=>?_)
 ·rw [if_pos e] at hk;exact ⟨.inl ⟨_,rfl⟩,EO lP hk⟩
 rw [if_neg e] at hk;refine aH.2 (aB (λe=>?_) λe=>?_)
 ·rw [if_pos e] at hk;exact ⟨.inl ⟨_,rfl⟩,EO qN hk⟩
 rw [if_neg e] at hk;refine aH.2 (aB (λe=>?_) λe=>?_)
 ·rw [if_pos e] at hk;exact ⟨.inl ⟨_,rfl⟩,EO nA hk⟩
 rw [if_neg e] at hk;refine aH.2 (aB (λe=>?_) λe=>?_)
 ·rw [if_pos e] at hk;exact ⟨.inl ⟨_,rfl⟩,EO mF hk⟩
 rw [if_neg e] at hk;exact ⟨.inl ⟨_,rfl⟩,EO qM hk⟩
theorem SD {sl:List iZ} {j:Nat} {s:iZ} (h:sl[j]?=some s):((slC sl).drop (((j:Int)).toNat*6)).take 6=s.cells:=by
 induction sl generalizing j with
 | nil=>simp at h
 | cons x l ih=>
  cases j with
  | zero=>simp at h;subst h;simp [slC,iZ.cells]
  | succ j=>
   have:=ih (j:=j) (by simpa using h);simp only [Int.toNat_natCast] at this ⊢;rw [<- this];have e:slC (x::l)=x.cells++slC l:=rfl;rw [e,show (j+1)*6=x.cells.length+j*6 from by simp [iZ.cells];omega,List.drop_append,List.drop_eq_nil_of_le (by omega),List.nil_append,Nat.add_sub_cancel_left]
theorem aCw {sl:List iZ} {k:Int} {j:Nat} {s:iZ} (h:∀ q,q < j->∀ s,sl[q]?=some s->s.part≠k) (hs:sl[j]?=some s) (he:s.part=k):sl.find? (λs=>decide (s.part=k))=some s:=by
 induction sl generalizing j with
 | nil=>simp at hs
 | cons x l ih=>
  cases j with
  | zero=>simp at hs;subst hs;simp [he]
  | succ j=>
   have hx:x.part≠k:=h 0 (by omega) x rfl;rw [List.find?_cons,decide_eq_false hx];exact ih (j:=j) (λq hq s hs=>h (q+1) (by omega) s (by simpa using hs)) (by simpa using hs)
theorem LH {sl:List iZ} {i:gN} {k op base:Int} {sv:Y} {B:Nat} (hs:w.ownsRow B 210 6 sv sl.length (slC sl)) (hl:sl.length<=100) (hst:∀ s∈sl,0 < s.step) (hk:∀ w',aE w w'->K (.bool (jM sl i k)) w') :
  aC prog 98 #[.agg #[i64 op,u16 base,sv],.agg i.cells.toArray,i64 k] w K:=by
 apply bEv;unfold YF;refine bx λb3 w1 h3 x1=>?_;have h3:aY w1 b3 [i64 op,u16 base,sv]:=h3;refine bx λb4 w2 h4 x2=>?_;have h4:aY w2 b4 i.cells:=h4;refine SS ⟨.inl ⟨_,rfl⟩,?_⟩;have x02:=x1.trans x2;have hp:=h4 _ _ (VW i k);rw [Nat.zero_add] at hp;obtain ⟨d,hd,ha⟩:=aG.ex;refine V.ok (jD hd ha hp) ?_;refine bC (h3.ext x2) dQ gY rfl (fQ zB (aA.of_own (x02.own hs)) ?_);refine ⟨λv w'=>∃ j:Nat,v=i64 j/\j<=sl.length/\aE w w'/\∀ q,q < j->∀ s,sl[q]?=some s->s.part≠k,λv _=>sl.length - (RowKit.intOf v).toNat,⟨0,rfl,Nat.zero_le _,x02,λq hq=>by omega⟩,?_⟩;rintro _ w3 ⟨j,rfl,hj,x3,hno⟩ _;refine aW.2 (aB (λhlt=>?_) λhge=>?_)
 ·obtain ⟨s,hsj⟩:=bE (l:=sl) (j:=j) (by omega);refine uI zB eX (aA.of_own (x3.own hs)) (by omega) (by omega) (SD hsj) rfl ?_;refine rX CQ rfl rfl λw4 h9 x4=>?_;have h9:aY w4 w3.heap.size s.cells:=bO.boxed h9;have x04:=x3.trans x4;refine bC h9 gW aG rfl (aH.2 (aB (λhe=>?_) λhne=>?_))
  ·have hf:=aCw hno hsj he;have hpo:jM sl i k=(decide (s.least<=i.part k)&&decide (i.part k<=s.most)&&decide ((i.part k).tmod s.step=0)):=by unfold jM;rw [hf]
   rw [hpo] at hk;have hs0:=hst s (List.mem_of_getElem? hsj);refine bC h9 iC aG rfl (kO.2 ?_);by_cases c1:s.least<=i.part k
   ·simp only [show (i.part k>=s.least)=True from by simp [c1],decide_true,lO];refine bC h9 iB aG rfl (rH.2 ?_);by_cases c2:i.part k<=s.most
    ·simp only [c2,decide_true,aV,reduceIte,lO];refine bC h9 gA aG rfl (rm hs0 λc hc _ _=>aH.2 ?_)
     try simp only [aV,reduceIte]
     subst hc;have:=hk w4 x04;simpa only [c1,c2,decide_true,Bool.true_and] using this
    ·simp only [c2,decide_false,aV,Bool.false_eq_true,reduceIte,lG];have:=hk w4 x04;simpa only [c1,c2,decide_true,decide_false,Bool.true_and,Bool.false_and] using this
   ·simp only [show (i.part k>=s.least)=False from by simp;omega,decide_false,lG,aV,Bool.false_eq_true,reduceIte];have:=hk w4 x04;simpa only [c1,decide_false,Bool.false_and] using this
  ·refine kQ (by omega) ?_;refine ⟨⟨j+1,rfl,by omega,x04,λq hq t ht=>?_⟩,by simp only [aL];omega⟩;by_cases hqj:q=j
   ·subst hqj;rw [hsj] at ht;cases ht;exact hne
   ·exact hno q (by omega) t ht
 ·have hpo:jM sl i k=decide (i.part k=0):=by
   unfold jM;rw [List.find?_eq_none.2 λs hs=>?_];obtain ⟨q,hq⟩:=List.getElem?_of_mem hs;have:=(List.getElem?_eq_some_iff.1 hq).1;simpa using hno q (by omega) s hq
  rw [hpo] at hk;exact aH.2 (hk w3 x3)
end Go.Proofs.YtjcmcfidblhnnaaGreatDoor
namespace Go.Vc
section
variable {P:Program} {w:O} {K:Y->O->Prop}
theorem wR {s f o ft bk:Nat} {cs:List Y} {u:Y} {b c:Bool} {cmp:Y->Sem Y} {R:Y->O->Prop} (hb:aY w bk cs) (hf:FA P s f o) (hl:L1 P ft) (hc:cs[o]?=some u) (hcmp:(cmp u).run P w=.ok (.bool c) w) (hk:R (.bool (b&&c)) w) :
  gd (.bool b) true (λK=>V P (Instr.fieldAt s (.pointer (some ⟨bk,0,none⟩)) f) w K) w λt1 w1=>gd (.bool b) true (λK=>V P (Instr.loadAt ft t1) w1 K) w1 λt2 w2=>gd (.bool b) true (λK=>V P (cmp t2) w2 K) w2 λt3 w3=>aF (.bool b) t3 (.bool false) λt4=>R t4 w3:=by
 cases b with
 | true=>
  rw [lO];obtain ⟨d,hd,ha⟩:=hl;refine V.ok (hf.ex w bk 0) ?_;rw [lO];refine V.ok (jD hd ha (hb _ _ hc)) ?_;rw [lO];refine V.ok hcmp (jC ?_);rw [if_pos rfl];exact hk
 | false=>
  rw [lG,lG,lG];exact jC (by rw [if_neg (by decide)];exact hk)
theorem bJz {s f o ft bk:Nat} {cs:List Y} {u m:Y} {b c:Bool} {cmp cmp2:Y->Sem Y} {R:Y->O->Prop} (hb:aY w bk cs) (hf:FA P s f o) (hl:L1 P ft) (hc:cs[o]?=some u) (hcmp:(cmp u).run P w=.ok m w) (hcmp2:(cmp2 m).run P w=.ok (.bool c) w) (hk:R (.bool (b&&c)) w) :
  gd (.bool b) true (λK=>V P (Instr.fieldAt s (.pointer (some ⟨bk,0,none⟩)) f) w K) w λt1 w1=>gd (.bool b) true (λK=>V P (Instr.loadAt ft t1) w1 K) w1 λt2 w2=>gd (.bool b) true (λK=>V P (cmp t2) w2 K) w2 λt3 w3=>gd (.bool b) true (λK=>V P (cmp2 t3) w3 K) w3 λt3 w3=>aF (.bool b) t3 (.bool false) λt4=>R t4 w3:=by
 cases b with
 | true=>
  rw [lO];obtain ⟨d,hd,ha⟩:=hl;refine V.ok (hf.ex w bk 0) ?_;rw [lO];refine V.ok (jD hd ha (hb _ _ hc)) ?_;rw [lO];refine V.ok hcmp ?_;rw [lO];refine V.ok hcmp2 (jC ?_);rw [if_pos rfl];exact hk
 | false=>
  rw [lG,lG,lG,lG];exact jC (by rw [if_neg (by decide)];exact hk)
end
end Go.Vc
namespace Go.Proofs.YtjcmcfidblhnnaaGreatDoor
open Tryz
open Go.Vc
variable {w:O} {K:Y->O->Prop}
theorem EN {op b:Int} {sl:List iZ} (h:cL op=some (b,sl)):sl.length<=3/\∀ s∈sl,0 < s.step/\0<=s.part/\s.part<=4:=by
 unfold cL at h;by_cases c:12<=op/\op<=27
 ·rw [if_pos c] at h;cases h;exact ⟨by decide,by simp [aS]⟩
 rw [if_neg c] at h;clear c;by_cases c:8<=op/\op<=11
 ·rw [if_pos c] at h;cases h;exact ⟨by decide,by simp [aS,bI]⟩
 rw [if_neg c] at h;clear c;by_cases c:op=1
 ·rw [if_pos c] at h;cases h;exact ⟨by decide,by simp [aS,bI]⟩
 rw [if_neg c] at h;clear c;by_cases c:op=2
 ·rw [if_pos c] at h;cases h;exact ⟨by decide,by simp [aS,bI]⟩
 rw [if_neg c] at h;clear c;by_cases c:op=3
 ·rw [if_pos c] at h;cases h;exact ⟨by decide,by simp [aS,bI]⟩
 rw [if_neg c] at h;clear c;by_cases c:op=4
 ·rw [if_pos c] at h;cases h;exact ⟨by decide,by simp [aS]⟩
 rw [if_neg c] at h;clear c;by_cases c:op=5
 ·rw [if_pos c] at h;cases h;exact ⟨by decide,by simp [aS]⟩
 rw [if_neg c] at h;clear c;by_cases c:op=6
 ·rw [if_pos c] at h;cases h;exact ⟨by decide,by simp [aS,bI]⟩
 rw [if_neg c] at h;clear c;by_cases c:op=7
 ·rw [if_pos c] at h;cases h;exact ⟨by decide,by simp [aS,bI]⟩
 rw [if_neg c] at h;clear c;by_cases c:op=30
 ·rw [if_pos c] at h;cases h;exact ⟨by decide,by simp [aS]⟩
 rw [if_neg c] at h;clear c;by_cases c:op=29
 ·rw [if_pos c] at h;cases h;exact ⟨by decide,by simp [aS]⟩
 rw [if_neg c] at h;clear c;by_cases c:op=32
 ·rw [if_pos c] at h;cases h;exact ⟨by decide,by simp [aS,bI]⟩
 rw [if_neg c] at h;clear c;by_cases c:op=31
 ·rw [if_pos c] at h;cases h;exact ⟨by decide,by simp [aS,bI]⟩
 rw [if_neg c] at h;clear c;by_cases c:op=34
 ·rw [if_pos c] at h;cases h;exact ⟨by decide,by simp [aS,bI]⟩
 rw [if_neg c] at h;clear c;by_cases c:op=33
 ·rw [if_pos c] at h;cases h;exact ⟨by decide,by simp [aS,bI]⟩
 rw [if_neg c] at h;clear c;unfold mE at h;by_cases c:op=36
 ·rw [if_pos c] at h;cases h;exact ⟨by decide,by simp [aS,bI]⟩
 rw [if_neg c] at h;clear c;by_cases c:op=35
 ·rw [if_pos c] at h;cases h;exact ⟨by decide,by simp [aS,bI]⟩
 rw [if_neg c] at h;clear c;by_cases c:op=37
 ·rw [if_pos c] at h;cases h;exact ⟨by decide,by simp [bI]⟩
 rw [if_neg c] at h;clear c;by_cases c:op=38
 ·rw [if_pos c] at h;cases h;exact ⟨by decide,by simp [bI]⟩
 rw [if_neg c] at h;clear c;by_cases c:op=39
 ·rw [if_pos c] at h;cases h;exact ⟨by decide,by simp [bI]⟩
 rw [if_neg c] at h;clear c;by_cases c:op=40
 ·rw [if_pos c] at h;cases h;exact ⟨by decide,by simp [bI]⟩
 rw [if_neg c] at h;clear c;by_cases c:op=41
 ·rw [if_pos c] at h;cases h;exact ⟨by decide,by simp [bI]⟩
 rw [if_neg c] at h;clear c;by_cases c:op=42
 ·rw [if_pos c] at h;cases h;exact ⟨by decide,by simp [bI]⟩
 rw [if_neg c] at h;clear c;by_cases c:op=44
 ·rw [if_pos c] at h;cases h;exact ⟨by decide,by simp [bI]⟩
 rw [if_neg c] at h;clear c;by_cases c:op=45
 ·rw [if_pos c] at h;cases h;exact ⟨by decide,by simp []⟩
 rw [if_neg c] at h;clear c;cases h
def qK (r:Option (Int × List iZ)) (i:gN) (j:Nat):Bool:=match r with
 | some r=>(List.range j).all λk=>jM r.2 i (k:Int)
 | none=>false
theorem xO {r:Int × List iZ} {i:gN} {j:Nat}:qK (some r) i (j+1)=(qK (some r) i j&&jM r.2 i (j:Int)):=by
 simp [qK,List.range_succ]
theorem uD {i:gN} (h28:i.op=28->i.n=0/\i.imm=0/\i.cond=0) (h43:i.op=43->i.d=0/\i.n=0/\i.m=0/\i.cond=0) (hk:∀ w',aE w w'->K (.bool (bS i)) w'):aC prog 47 #[.agg i.cells.toArray] w K:=by
 apply bGq;unfold ZW;refine bx λb w1 hb x1=>?_;have hb:aY w1 b i.cells:=hb;have fi:∀ {R:Y->O->Prop} {f:Nat} {v:Y},FA prog 83 f f->i.cells[f]?=some v->R v w1->V prog (Instr.fieldAt 83 (.pointer (some ⟨b,0,none⟩)) f) w1 λq w2=>V prog (Instr.loadAt 3 q) w2 R:=λhf hv hr=>bC hb hf aG hv hr;refine fi mG rfl (aH.2 (aB (λe=>?_) λe28=>?_))
 ·obtain ⟨z1,z2,z3⟩:=h28 e;refine iF hb nI rfl ?_;refine fi lP rfl (fi nA rfl ?_);refine oD nZ [(0,i64 28),(1,i64 i.d),(3,i64 i.m)] rfl rfl ?_;refine bAg (i:=i) (j:=⟨28,i.d,0,i.m,0,0⟩) ?_ ?_
  ·cases i;simp only at e z1 z2 z3;subst e z1 z2 z3;rfl
  refine wR hb lP aG rfl xM ?_;refine wR hb lP aG rfl AG ?_;refine wR hb lP aG rfl zJ ?_;refine wR hb nA aG rfl xM ?_;refine wR hb nA aG rfl AG ?_;have:=hk w1 x1;unfold bS at this;rw [if_pos e,decide_eq_true ⟨z1,z2,z3⟩] at this;exact this
 refine aH.2 (aB (λe=>?_) λe43=>?_)
 ·obtain ⟨z1,z2,z3,z4⟩:=h43 e;refine iF hb nI rfl ?_;refine fi mF rfl ?_;refine oD nZ [(0,i64 43),(4,i64 i.imm)] rfl rfl ?_;refine bAg (i:=i) (j:=⟨43,0,0,0,i.imm,0⟩) ?_ ?_
  ·cases i;simp only at e z1 z2 z3 z4;subst e z1 z2 z3 z4;rfl
  refine wR hb mF aG rfl xM ?_;refine wR hb mF aG rfl LJ ?_;refine bJz hb mF aG rfl (aFh (by decide)) zK ?_;have:=hk w1 x1;unfold bS at this;rw [if_neg e28,if_pos e,decide_eq_true ⟨z1,z2,z3,z4⟩] at this;exact this
 refine fi mG rfl (TZ λv w2 hv x2=>?_)
 have hrp:bS i=qK (cL i.op) i 5:=by
  unfold bS qK;rw [if_neg e28,if_neg e43];cases cL i.op with
  | none=>rfl
  | some r=>simp [List.range_succ,Bool.and_assoc]
 rw [hrp] at hk
 obtain ⟨op,base,sv,sl,rfl,hsv,hsl,hst,hfs⟩:∃ (op base:Int) (sv:Y) (sl:List iZ),v=.tuple #[.agg #[i64 op,u16 base,sv],.bool (cL i.op).isSome]/\w2.ownsRow w1.heap.size 210 6 sv sl.length (slC sl)/\sl.length<=100/\(∀ s∈sl,0 < s.step)/\∀ r,cL i.op=some r->r.2=sl:=by
  cases hf:cL i.op with
  | none=>
   rw [hf] at hv;have hv:v=_:=hv;exact ⟨0,0,aX,[],hv,World.ownsRow_nil _ _ _ _,by decide,λs hs=>(by cases hs),λr h=>(by cases h)⟩
  | some r=>
   rw [hf] at hv;obtain ⟨sv,h1,h2⟩:=hv;obtain ⟨b,sl⟩:=r;obtain ⟨f1,f2⟩:=EN hf;exact ⟨i.op,b,sv,sl,h1,h2,by omega,λs hs=>(f2 s hs).1,λr h=>by cases h;rfl⟩
 refine hU.2 (hO.2 ?_);refine rX SI rfl (aCe (nU hsv)) λw3 h3 x3=>?_;have h3:bO w3 w2.heap.size [i64 op,u16 base,sv] 157:=h3;have x13:=x2.trans x3;refine ⟨λok v w'=>∃ j:Nat,v=i64 j/\j<=5/\ok=.bool (qK (cL i.op) i j)/\aE w3 w',λ_ v _=>5 - (RowKit.intOf v).toNat,⟨0,rfl,by decide,?_,aE.refl _⟩,?_⟩
 ·cases cL i.op<;>rfl
 rintro _ _ w4 ⟨j,rfl,hj,rfl,x4⟩ _;refine aW.2 (aB (λhlt=>?_) λhge=>?_)
 ·have nx:∀ {c:Bool} {w'},qK (cL i.op) i (j+1)=c->aE w3 w'->V prog (binOp .add 3 (i64 j) (i64 1)) w' λt81 w65=>(∃ j:Nat,t81=i64 j/\j<=5/\Value.bool c=.bool (qK (cL i.op) i j)/\aE w3 w65)/\5 - (RowKit.intOf t81).toNat < 5 - (RowKit.intOf (i64 (j:Int))).toNat:=λhc hx=>by
   refine kQ (by omega) ?_;exact ⟨⟨j+1,rfl,by omega,by rw [hc],hx⟩,by simp only [aL];omega⟩
  cases hp:qK (cL i.op) i j with
  | false=>
   simp only [lG,aV,Bool.false_eq_true,reduceIte];refine nx ?_ x4;cases hf:cL i.op with
   | none=>rfl
   | some r=>rw [hf] at hp;rw [xO,hp];rfl
  | true=>
   simp only [lO];refine iF (h3.ext x4).boxed aHb rfl (iF ((hb.ext x13).ext x4) nI rfl ?_);refine LH ((x3.trans x4).own hsv) hsl hst λw5 x5=>?_;simp only [aV,reduceIte];refine nx ?_ (x4.trans x5);cases hf:cL i.op with
   | none=>rw [hf] at hp;cases hp
   | some r=>
    rw [hf] at hp;rw [xO,hp,hfs r hf];rfl
 ·obtain rfl:j=5:=by omega
  exact hk w4 ((x1.trans x13).trans x4)
end Go.Proofs.YtjcmcfidblhnnaaGreatDoor
namespace Go.Vc
theorem yE {α:Type} {f:α->List Y} {sz:Nat} (hf:∀ x,(f x).length=sz):∀ {l:List α} {j:Nat} {x:α},l[j]?=some x->((l.flatMap f).drop (j*sz)).take sz=f x
 | [],_,_,h=>by simp at h
 | y::l,0,x,h=>by
  simp at h;subst h;rw [Nat.zero_mul,List.drop_zero,List.flatMap_cons,List.take_append_of_le_length (by rw [hf];exact Nat.le_refl _),List.take_of_length_le (by rw [hf];exact Nat.le_refl _)]
 | y::l,j+1,x,h=>by
  rw [<- yE hf (l:=l) (j:=j) (by simpa using h),List.flatMap_cons,show (j+1)*sz=(f y).length+j*sz from by rw [hf,Nat.add_mul];omega,List.drop_append,List.drop_eq_nil_of_le (by omega),List.nil_append,Nat.add_sub_cancel_left]
end Go.Vc
namespace Go.Proofs.YtjcmcfidblhnnaaGreatDoor
open Tryz
open Go.Vc
variable {w:O} {K:Y->O->Prop}
theorem aPo {i:gN} (h:i.op≠41/\i.op≠42/\i.op≠43/\i.op≠40) (hk:∀ w',aE w w'->K (.bool true) w'):aC prog 212 #[.agg i.cells.toArray] w K:=by
 apply aUv;unfold NY;obtain ⟨h1,h2,h3,h4⟩:=h;refine bx λb w1 hb x1=>?_;have hb:aY w1 b i.cells:=hb;refine bC hb mG aG rfl ?_;refine ⟨λv w'=>v=.bool false/\w'=w1,?_,?_⟩
 ·refine aH.2 (aB (λe=>absurd e h1) λ_=>aH.2 (aB (λe=>absurd e h2) λ_=>aH.2 ⟨?_,rfl⟩));rw [decide_eq_false h3]
 ·rintro _ w2 ⟨rfl,rfl⟩ _;exact aP.2 (aH.2 (aB (λe=>absurd e h4) λ_=>hk _ x1))
def bCr:List (TypeId × Nat):=[(3,0),(83,1),(3,7),(3,8),(3,9),(21,10)]
theorem bIw:QT prog 180 bCr:=⟨by kernel_rfl,by kernel_rfl,by kernel_rfl,by kernel_rfl⟩
theorem aFx {P:Program} {t n b:Nat} {z:Y} {d:TypeDesc} {xs:Array Y} {o:Nat} (ht:P.underlying t=some d) (hd:mA d=true) (hi:dD P t z n b):(part t xs o).run P w=.ok (.agg (xs.extract o (o+n))) w:=by
 simp [part,uX ht,hd,fX hi]
def cJ.ins:cJ->gN
 | .one i=>i
 | _=>⟨0,0,0,0,0,0⟩
theorem aHh (x:cJ):∀ f∈bCr,∃ v,(part f.1 x.cells.toArray f.2).run prog w=.ok v w/\(Op.equalIn 9999 f.1 v v).run prog w=.ok true w:=by
 intro f hf
 have key:∀ (o:Nat) (n:Int),x.cells.toArray[o]?=some (i64 n)->∃ v,(part 3 x.cells.toArray o).run prog w=.ok v w/\(Op.equalIn 9999 3 v v).run prog w=.ok true w:=λo n h=>
  ⟨_,DG underlying3 h,by rw [run_equalIn_int w 9998 3 _ _ _ _ underlying3];simp⟩
 have key2:∀ (o:Nat) (n:Int),x.cells.toArray[o]?=some (i32 n)->∃ v,(part 21 x.cells.toArray o).run prog w=.ok v w/\(Op.equalIn 9999 21 v v).run prog w=.ok true w:=λo n h=>
  ⟨_,DG underlying21 h,by rw [run_equalIn_int w 9998 21 _ _ _ _ underlying21];simp⟩
 simp only [bCr,List.mem_cons,List.not_mem_nil,or_false] at hf;rcases hf with rfl|rfl|rfl|rfl|rfl|rfl
 ·cases x<;>exact key _ _ rfl
 ·refine ⟨_,aFx underlying83 rfl rM,?_⟩;have e:x.cells.toArray.extract 1 (1+6)=x.ins.cells.toArray:=by cases x<;>rfl
  rw [e];exact aZx.refl (ML x.ins 9997)
 iterate 3
  ·cases x<;>exact key _ _ rfl
 ·cases x<;>exact key2 _ _ rfl
theorem XD {x:cJ} {cs ds:Array Y} (hc:cs=x.cells.toArray) (hd:ds=x.cells.toArray) {a b:Operand} (hk:K (.bool true) w):V prog (do eqGuard .eql 180 a b (.agg cs) (.agg ds);binOp .eql 180 (.agg cs) (.agg ds)) w K:=by
 subst hc hd;exact eqA bIw rfl (aHh x) hk
theorem aGc {i:gN} (h:i.okT):(i.op=28->i.n=0/\i.imm=0/\i.cond=0)/\(i.op=43->i.d=0/\i.n=0/\i.m=0/\i.cond=0)/\i.op≠41/\i.op≠42/\i.op≠43/\i.op≠40:=by
 rcases h with ⟨h1,_,_,h7,h8,h9⟩|⟨h1,_⟩|⟨h1,_⟩|⟨h1,_⟩|⟨h1,_⟩|⟨h1,_⟩|⟨h1,_⟩
 ·exact ⟨λ_=>⟨h7,h8,h9⟩,λe=>by omega,by omega,by omega,by omega,by omega⟩
 all_goals exact ⟨λe=>by omega,λe=>by omega,by omega,by omega,by omega,by omega⟩
theorem aPh {x:cJ} (h:x.okI) (hk:∀ w',aE w w'->K (.bool true) w'):aC prog 177 #[.agg x.cells.toArray] w K:=by
 apply aWg;unfold PE;refine bx λb w1 hb x1=>?_;have hb:aY w1 b x.cells:=hb;have no:∀ {a b:Int} {P Q:Prop},a≠b->Q->aI (.bool (decide (a=b))) P Q:=λh hq=>aB (λe=>absurd e h) λ_=>hq;have yes:∀ {a:Int} {P Q:Prop},P->aI (.bool (decide (a=a))) P Q:=λhp=>aB (λ_=>hp) λh=>absurd rfl h;cases x with
 | one i=>
  have hb:aY w1 b [i64 1,i64 i.op,i64 i.d,i64 i.n,i64 i.m,i64 i.imm,i64 i.cond,i64 0,i64 0,i64 0,i32 0]:=hb;have hi:i.okT:=h;obtain ⟨r1,r2,r3⟩:=aGc hi;refine bC hb aZ aG rfl (aH.2 (yes ?_));refine iF hb rV rfl ?_;refine EO eO (aGy hb nI rfl (l:=i.cells) rfl ?_);refine KF AW (WZ i) ?_;refine XD (x:=.one i) rfl rfl ?_;refine lO.2 ?_;refine EO eO ?_;refine lO.2 ?_;refine aGy hb nI rfl (l:=i.cells) rfl ?_;refine lO.2 ?_;refine uD r1 r2 λw2 x2=>jC ?_;rw [zN hi,if_pos rfl];refine lO.2 ?_;refine EO eO ?_;refine lO.2 ?_;refine aGy (hb.ext x2) nI rfl (l:=i.cells) rfl ?_;refine lO.2 ?_;refine aPo r3 λw3 x3=>jC ?_;rw [if_pos rfl];exact hk w3 ((x1.trans x2).trans x3)
 | place l=>
  have hb:aY w1 b [i64 2,i64 0,i64 0,i64 0,i64 0,i64 0,i64 0,i64 l,i64 0,i64 0,i32 0]:=hb;have hl:0<=l/\l<=2000:=h;refine bC hb aZ aG rfl (aH.2 (no (by decide) (aH.2 (yes ?_))));refine iF hb rV rfl (bC hb cB aG rfl ?_);refine KF AW rfl (XD (x:=.place l) rfl rfl ?_);refine wR hb cB aG rfl xM (wR hb cB aG rfl LJ ?_);rw [decide_eq_true hl.1,decide_eq_true hl.2];exact hk w1 x1
 | jump c l=>
  have hb:aY w1 b [i64 3,i64 0,i64 0,i64 0,i64 0,i64 0,i64 0,i64 l,i64 c,i64 0,i32 0]:=hb;obtain ⟨hl,hc⟩:(0<=l/\l<=2000)/\(0<=c/\c<=14):=h;refine bC hb aZ aG rfl (aH.2 (no (by decide) (aH.2 (no (by decide) (aH.2 (yes ?_))))));refine iF hb rV rfl (bC hb cB aG rfl (bC hb eA aG rfl ?_));refine KF AW rfl (XD (x:=.jump c l) rfl rfl ?_);refine wR hb cB aG rfl xM (wR hb cB aG rfl LJ ?_);refine wR hb eA aG rfl xM (wR hb eA aG rfl LJ ?_);rw [decide_eq_true hl.1,decide_eq_true hl.2,decide_eq_true hc.1,decide_eq_true hc.2];exact hk w1 x1
 | load r n=>
  have hb:aY w1 b [i64 4,i64 0,i64 0,i64 0,i64 0,i64 0,i64 0,i64 0,i64 0,i64 r,i32 n]:=hb;obtain ⟨hr0,hr1⟩:0<=r/\r<=7:=h;refine bC hb aZ aG rfl (aH.2 (no (by decide) (aH.2 (no (by decide) (aH.2 (no (by decide) (aH.2 (yes ?_))))))));refine iF hb rV rfl (bC hb eN aG rfl (bC hb fK kK rfl ?_));refine KF AW rfl (XD (x:=.load r n) rfl rfl ?_);refine wR hb eN aG rfl xM (wR hb eN aG rfl AG ?_);rw [show decide (r>=0)=true from decide_eq_true hr0,show decide (r < 8)=true from decide_eq_true (by omega)];exact hk w1 x1
theorem aPi {x:cJ} (h:x.okI) (hk:∀ w',aE w w'->K (.bool false) w'):aC prog 176 #[.agg x.cells.toArray] w K:=by
 apply aWh;unfold PF;refine bx λb w1 hb x1=>?_;have hb:aY w1 b x.cells:=hb;refine iF hb rV x.len ?_;exact aPh h λw2 x2=>dC.2 (hk w2 (x1.trans x2))
def tK (w:O) (v:Y) (l:List cJ):Prop:=aA w v 11 l.length (itC l)
theorem tK.ext {w':O} {v:Y} {l:List cJ} (h:tK w v l) (hx:aE w w'):tK w' v l:=aA.ext h hx
theorem JQ {l:List cJ} {j:Nat} {x:cJ} (h:l[j]?=some x):((itC l).drop (((j:Int)).toNat*11)).take 11=x.cells:=by
 rw [Int.toNat_natCast];exact yE cJ.len h
theorem aQs {v:Y} {l:List cJ} (hv:tK w v l) (hl:l.length<=1000000) (h:∀ x∈l,x.okI) (hk:∀ w',aE w w'->K (i64 (-1)) w'):aC prog 211 #[v,.func (.func 176) #[] #[]] w K:=by
 apply aUw;unfold NZ;refine fQ wW hv ?_;refine ⟨λv w'=>∃ j:Nat,v=i64 j/\j<=l.length/\aE w w',λv _=>l.length - (RowKit.intOf v).toNat,⟨0,rfl,Nat.zero_le _,aE.refl _⟩,?_⟩;rintro _ w1 ⟨j,rfl,hj,x1⟩ _;refine aW.2 (aB (λhlt=>?_) λhge=>hk w1 x1);obtain ⟨x,hx⟩:=bE (l:=l) (j:=j) (by omega);refine uI wW rV (hv.ext x1) (by omega) (by omega) (JQ hx) x.len ?_;refine ⟨_,#[],rfl,aPi (h x (List.mem_of_getElem? hx)) λw2 x2=>aP.2 (bA.2 ?_)⟩;rw [aM (by omega),bK];exact ⟨⟨j+1,rfl,by omega,x1.trans x2⟩,by simp only [aL];omega⟩
theorem UG {v:Y} {l:List cJ} (hv:tK w v l) (hl:l.length<=1000000) (h:∀ x∈l,x.okI) (hk:∀ w',aE w w'->K (.bool false) w'):aC prog 175 #[v,.func (.func 176) #[] #[]] w K:=by
 apply aWi;unfold PG;exact aQs hv hl h λw1 x1=>kO.2 (hk w1 x1)
def yK (l:List cJ):List Y:=(List.range 2001).map λ(q:Nat)=>i64 ((((jV l).count (q:Int)):Nat):Int)
theorem yH (l:List cJ):(yK l).length=2001:=by simp [yK]
theorem yJ {l:List cJ} {q:Nat} (h:q < 2001):(yK l)[q]?=some (i64 ((((jV l).count (q:Int)):Nat):Int)):=by
 simp only [yK,List.getElem?_map,List.getElem?_range h];rfl
theorem aIr:yK []=List.replicate 2001 (i64 0):=by
 apply List.ext_getElem?;intro q;by_cases h:q < 2001
 ·rw [yJ h,List.getElem?_replicate_of_lt h];rfl
 ·rw [List.getElem?_eq_none (by rw [yH];omega),List.getElem?_eq_none (by rw [List.length_replicate];omega)]
theorem UI {l:List cJ} {q:Nat} (h:q < 2001):(yK l).set q (i64 ((((jV l).count (q:Int)+1):Nat):Int))=yK (l++[.place q]):=by
 apply List.ext_getElem?;intro k;by_cases hk:k < 2001
 ·rw [List.getElem?_set,yJ hk,yJ hk,qX,List.count_append,show jV [cJ.place (q:Int)]=[(q:Int)] from rfl];by_cases hq:q=k
  ·subst hq;rw [if_pos rfl,if_pos (by rw [yH];exact h),List.count_singleton_self]
  ·rw [if_neg hq,List.count_singleton,if_neg (by simp;omega)];rfl
 ·rw [List.getElem?_eq_none (by rw [List.length_set,yH];omega),List.getElem?_eq_none (by rw [yH];omega)]
theorem wO {l:List cJ} {x:cJ} (h:x.pl=[]):yK (l++[x])=yK l:=by
 unfold yK;rw [qX,show jV [x]=[] from by simp [jV,h],List.append_nil]
theorem uZ {l:List cJ} {j:Nat} {x:cJ} (h:l[j]?=some x):l.take (j+1)=l.take j++[x]:=by
 rw [List.take_add_one,h];rfl
theorem aDe {l:List cJ} (h:tR l) {q:Nat} (hq:(q:Int)∈jV l):(jV l).count (q:Int)=1:=h.nd.count.trans (if_pos hq)
theorem bBj {v:Y} {l:List cJ} (hv:tK w v l) (h:tR l) (hk:∀ w',aE w w'->K (.bool true) w'):aC prog 120 #[v] w K:=by
 apply aYm;unfold RJ;have hl:=h.len;refine fQ wW hv (iH.2 ?_);rw [decide_eq_false (by omega)];refine pK.2 (pK.2 ?_);refine UG hv (by omega) h.ok λw1 x1=>jC ?_;rw [if_neg (by decide)];refine aP.2 ?_;refine zA bCv λw2 hB x2=>?_
 have hB:bO w2 w1.heap.size (yK []) 263:=by
  rw [aIr];exact hB
 have x02:=x1.trans x2;have s2:=x1.size;generalize hg:w1.heap.size=g at hB s2;refine fQ wW (hv.ext x02) ?_;refine ⟨λv w'=>∃ j:Nat,v=i64 j/\j<=l.length/\aE w w'/\bO w' g (yK (l.take j)) 263,λv _=>l.length - (RowKit.intOf v).toNat,⟨0,rfl,Nat.zero_le _,x02,by simpa using hB⟩,?_⟩;rintro _ w3 ⟨j,rfl,hj,x3,hB3⟩ _;refine aW.2 (aB (λhlt=>?_) λhge=>?_)
 ·obtain ⟨x,hx⟩:=bE (l:=l) (j:=j) (by omega);have hox:=h.ok x (List.mem_of_getElem? hx);refine uI wW rV (hv.ext x3) (by omega) (by omega) (JQ hx) x.len ?_;refine rX SH (by simpa [Value.cells] using x.len) (by simpa [Value.cells] using tB x) λw4 h5 x4=>?_;have h5:bO w4 w3.heap.size x.cells 180:=h5;have x04:=x3.trans x4;have hB4:=hB3.ext x4
  have nx:∀ {w'},aE w w'->bO w' g (yK (l.take (j+1))) 263->V prog (binOp .add 3 (i64 j) (i64 1)) w' λt w5=>(∃ j:Nat,t=i64 j/\j<=l.length/\aE w w5/\bO w5 g (yK (l.take j)) 263)/\l.length - (RowKit.intOf t).toNat < l.length - (RowKit.intOf (i64 (j:Int))).toNat:=λhx hb=>by
   refine kQ (by omega) ?_;exact ⟨⟨j+1,rfl,by omega,hx,hb⟩,by simp only [aL];omega⟩
  cases x with
  | place q=>
   have h5:bO w4 w3.heap.size [i64 2,i64 0,i64 0,i64 0,i64 0,i64 0,i64 0,i64 q,i64 0,i64 0,i32 0] 180:=h5;obtain ⟨q,rfl⟩:∃ n:Nat,q=n:=⟨q.toNat,by have:0<=q/\q<=2000:=hox;omega⟩;have hq:q < 2001:=by have:0<=(q:Int)/\(q:Int)<=2000:=hox;omega
   refine bC h5.boxed aZ aG rfl (aH.2 (aB (λ_=>?_) λe=>absurd rfl e));refine bC h5.boxed cB aG rfl ?_;refine V.ok (VS underlying263 bW (by omega) (by omega)) ?_;obtain ⟨d,hd,ha⟩:=aG.ex;have hc:=hB4.cell q;rw [yJ hq] at hc
   have hcnt:(jV (l.take j)).count (q:Int)<=6000:=by
    have h1:=(List.Sublist.count_le (q:Int) (l₁:=jV (l.take j)) (l₂:=jV l) (by
     conv=>rhs;rw [<- List.take_append_drop j l,qX]
     exact List.sublist_append_left _ _))
    have h2:=(List.nodup_iff_count.1 h.nd) (q:Int);omega
   refine V.ok (jD hd ha (v:=i64 ((((jV (l.take j)).count (q:Int)):Nat):Int)) (by simpa using hc)) (bA.2 ?_);rw [aM (by omega)];refine V.ok (VS underlying263 bW (by omega) (by omega)) ?_;refine U.ok (mW bW rfl (by simpa using hc) (by simpa using hB4.frozen q)) ?_;have hs:=hB4.set q (i64 ((((jV (l.take j)).count (q:Int)+1):Nat):Int));rw [UI hq,<- uZ hx] at hs;have e1:((0+((q:Int)).toNat:Nat))=q:=by simp
   rw [e1];exact nx (x04.setCell (by omega) _) (by push_cast at hs ⊢;exact hs)
  | one i=>
   refine bC h5.boxed aZ aG rfl (aH.2 (aB (λe=>absurd e (by decide)) λ_=>?_));exact nx x04 (by rw [uZ hx,wO rfl];exact hB4)
  | jump c q=>
   refine bC h5.boxed aZ aG rfl (aH.2 (aB (λe=>absurd e (by decide)) λ_=>?_));exact nx x04 (by rw [uZ hx,wO rfl];exact hB4)
  | load r n=>
   refine bC h5.boxed aZ aG rfl (aH.2 (aB (λe=>absurd e (by decide)) λ_=>?_));exact nx x04 (by rw [uZ hx,wO rfl];exact hB4)
 ·have e:l.take j=l:=List.take_of_length_le (by omega);rw [e] at hB3;refine fQ wW (hv.ext x3) ?_;refine ⟨λv w'=>∃ j:Nat,v=i64 j/\j<=l.length/\aE w3 w',λv _=>l.length - (RowKit.intOf v).toNat,⟨0,rfl,Nat.zero_le _,aE.refl _⟩,?_⟩;rintro _ w4 ⟨k,rfl,hkl,x4⟩ _;have x04:=x3.trans x4;refine aW.2 (aB (λhlt=>?_) λhge=>hk w4 x04);obtain ⟨x,hx⟩:=bE (l:=l) (j:=k) (by omega);have hxm:=List.mem_of_getElem? hx;have hox:=h.ok x hxm;refine uI wW rV (hv.ext x04) (by omega) (by omega) (JQ hx) x.len ?_;refine rX SH (by simpa [Value.cells] using x.len) (by simpa [Value.cells] using tB x) λw5 h7 x5=>?_;have h7:bO w5 w4.heap.size x.cells 180:=h7;have hB5:=(hB3.ext x4).ext x5
  have nx:V prog (binOp .add 3 (i64 k) (i64 1)) w5 λt w6=>(∃ j:Nat,t=i64 j/\j<=l.length/\aE w3 w6)/\l.length - (RowKit.intOf t).toNat < l.length - (RowKit.intOf (i64 (k:Int))).toNat:=by
   refine kQ (by omega) ?_;exact ⟨⟨k+1,rfl,by omega,x4.trans x5⟩,by simp only [aL];omega⟩
  have lbl:∀ {q:Int} {R:Y->O->Prop},x.cells[7]?=some (i64 q)->q∈jV l->0<=q/\q<=2000->R (.bool false) w5 ->
    gd (.bool true) true (λK=>V prog (Instr.fieldAt 180 (.pointer (some ⟨w4.heap.size,0,none⟩)) 2) w5 K) w5 λt46 w40=>gd (.bool true) true (λK=>V prog (Instr.loadAt 3 t46) w40 K) w40 λt47 w41=>gd (.bool true) true (λK=>V prog (Instr.indexAt 263 (.pointer (some ⟨g,0,none⟩)) t47) w41 K) w41 λt48 w42=>gd (.bool true) true (λK=>V prog (Instr.loadAt 3 t48) w42 K) w42 λt49 w43=>gd (.bool true) true (λK=>V prog (do eqGuard .neq 3 (.tmp 49) (.const (i64 1)) t49 (i64 1);binOp .neq 3 t49 (i64 1)) w43 K) w43 λt50 w44=>aF (.bool true) t50 (.bool false) λt51=>R t51 w44:=by
   intro q R hc hq hr hR;obtain ⟨q,rfl⟩:∃ n:Nat,q=n:=⟨q.toNat,by omega⟩;obtain ⟨d,hd,ha⟩:=aG.ex;refine lO.2 ?_;refine V.ok (cB.ex w5 _ 0) ?_;refine lO.2 ?_;refine V.ok (jD hd ha (h7.boxed _ _ hc)) ?_;refine lO.2 ?_;refine V.ok (VS underlying263 bW (by omega) (by omega)) ?_;refine lO.2 ?_;have hcc:=hB5.cell q;rw [yJ (by omega),aDe h hq] at hcc;refine V.ok (jD hd ha (v:=i64 1) (by simpa using hcc)) ?_;refine lO.2 ?_;refine cH.2 (jC ?_);rw [if_pos rfl];exact hR
  cases x with
  | one i=>
   refine bC h7.boxed aZ aG rfl (aH.2 ?_);simp only [show decide ((1:Int)=2)=false from rfl,pK];refine bC h7.boxed aZ aG rfl (aH.2 ?_);simp only [show decide ((1:Int)=3)=false from rfl,aV,Bool.false_eq_true,reduceIte,lG,aP];exact nx
  | load r n=>
   refine bC h7.boxed aZ aG rfl (aH.2 ?_);simp only [show decide ((4:Int)=2)=false from rfl,pK];refine bC h7.boxed aZ aG rfl (aH.2 ?_);simp only [show decide ((4:Int)=3)=false from rfl,aV,Bool.false_eq_true,reduceIte,lG,aP];exact nx
  | place q=>
   have hq:q∈jV l:=List.mem_flatMap.2 ⟨_,hxm,List.mem_singleton.2 rfl⟩;refine bC h7.boxed aZ aG rfl (aH.2 ?_);rw [show decide ((2:Int)=2)=true from rfl];refine tP.2 (tP.2 (tP.2 ?_));refine jC ?_;rw [if_pos rfl];exact lbl rfl hq hox (aP.2 nx)
  | jump c q=>
   have hq:q∈jV l:=h.jl q (List.mem_flatMap.2 ⟨_,hxm,List.mem_singleton.2 rfl⟩);refine bC h7.boxed aZ aG rfl (aH.2 ?_);simp only [show decide ((3:Int)=2)=false from rfl,pK];refine bC h7.boxed aZ aG rfl (aH.2 ?_);rw [show decide ((3:Int)=3)=true from rfl];refine jC ?_;rw [if_neg (by decide)];exact lbl rfl hq hox.1 (aP.2 nx)
end Go.Proofs.YtjcmcfidblhnnaaGreatDoor
namespace Go.Proofs.YtjcmcfidblhnnaaGreatDoor
open Tryz
open Go.Vc
variable {f:List Nat} {applet d:Int} {R k:Nat}
def gN.size (i:gN):Nat:=if i.op=43 then 4 else 2
def jP (l:List gN):Nat:=(l.map gN.size).sum
def qF (reg u:Int):Nat->List gN
 | 0=>[]
 | k+1=>⟨1,reg,0,reg,8,0⟩::(if u / 256 ^ k % 256 > 0 then [⟨10,reg,0,0,u / 256 ^ k % 256,0⟩] else [])++qF reg u k
def sO (u:Int):Nat:=if u / 16777216≠0 then 3 else if u / 65536≠0 then 2 else if u / 256≠0 then 1 else 0
def sJ (reg n:Int):List gN:=let u:=n % 4294967296;⟨8,reg,0,0,u / 256 ^ sO u,0⟩::qF reg u (sO u)
def oR (f:Nat) (a b:Int):List gN:=[⟨if f > 0 then 43 else 42,0,0,0,b - a - 4,0⟩]
def HQ (c:Int):Int:=if c % 2=0 then c+1 else c - 1
def mN (c:Int) (f:Nat) (a b:Int):List gN:=
 if c=14 then oR f a b else match f with
  | 0=>[⟨41,0,0,0,b - a - 4,c⟩]
  | g+1=>⟨41,0,0,0,(if g > 0 then 4 else 2) - 2,HQ c⟩::oR g (a+2) b
def tN (c:Int):Nat:=if c=14 then 1 else 2
def cJ.size (x:cJ) (f:Nat):Nat:=
 match x with
 | .one i=>i.size
 | .place _=>0
 | .jump _ _=>2+2*f
 | .load r n=>jP (sJ r n)
def sQ (l:List cJ) (f:List Nat) (k:Nat):Nat:=((List.zipWith cJ.size l f).take k).sum
def xX (l:List cJ) (f:List Nat) (q:Int):Nat->Int
 | 0=>-1
 | k+1=>match l[k]? with
  | some (.place q')=>if q'=q then (sQ l f k:Int) else xX l f q k
  | _=>xX l f q k
def DO (l:List cJ) (f:List Nat) (q:Int):Int:=xX l f q l.length
def iV (l:List cJ) (f:List Nat) (k:Nat):Bool:=
 match l[k]? with
 | some (.jump c q)=>(mN c (f.getD k 0) (sQ l f k) (DO l f q)).all bS
 | _=>true
def rN (l:List cJ) (f:List Nat):List Nat:=(List.range f.length).map λk=>if iV l f k then f.getD k 0 else f.getD k 0+1
structure AA (l:List cJ) (f:List Nat):Prop where
 len:f.length=l.length
 jump:∀ k c q,l[k]?=some (.jump c q)->f.getD k 0<=tN c
 other:∀ k,(∀ c q,l[k]?≠some (.jump c q))->f.getD k 0=0
theorem SF (l:List gN):jP l % 2=0:=by
 induction l with
 | nil=>rfl
 | cons x l ih=>
  have h:x.size % 2=0:=by unfold gN.size;split<;>rfl
  unfold jP at *;rw [List.map_cons,List.sum_cons];omega
theorem aBk (x:cJ) (f:Nat):x.size f % 2=0:=by
 cases x with
 | one i=>show i.size % 2=0;unfold gN.size;split<;>rfl
 | place l=>rfl
 | jump c l=>show (2+2*f) % 2=0;omega
 | load r n=>exact SF _
theorem KX:∀ l:List Nat,(∀ x∈l,x % 2=0)->l.sum % 2=0
 | [],_=>rfl
 | x::l,h=>by
  have:=KX l λy hy=>h y (List.mem_cons_of_mem _ hy);have:=h x List.mem_cons_self;rw [List.sum_cons];omega
theorem JJ:∀ {l:List cJ} {f:List Nat} {y:Nat},y∈List.zipWith cJ.size l f->∃ x∈l,∃ g∈f,y=cJ.size x g
 | [],_,_,h=>by simp at h
 | _::_,[],_,h=>by simp at h
 | x::l,g::f,y,h=>by
  rw [List.zipWith_cons_cons] at h;rcases List.mem_cons.1 h with h|h
  ·exact ⟨x,List.mem_cons_self,g,List.mem_cons_self,h⟩
  ·obtain ⟨x',h1,g',h2,h3⟩:=JJ h;exact ⟨x',List.mem_cons_of_mem _ h1,g',List.mem_cons_of_mem _ h2,h3⟩
theorem NC (l:List cJ) (f:List Nat) (k:Nat):sQ l f k % 2=0:=KX _ λy hy=>by
 obtain ⟨x,_,g,_,rfl⟩:=JJ (List.mem_of_mem_take hy);exact aBk x g
theorem DN (r u:Int):∀ k,jP (qF r u k)<=4*k
 | 0=>Nat.le_refl _
 | k+1=>by
  have ih:=DN r u k;unfold qF;split<;>simp [jP,gN.size] at*<;> omega
theorem MQ (u:Int):sO u<=3:=by unfold sO;split;omega;split;omega;split<;>omega
theorem GX (r n:Int):jP (sJ r n)<=14:=by
 have h1:=DN r (n % 4294967296) (sO (n % 4294967296));have h2:=MQ (n % 4294967296);simp [sJ,jP,gN.size] at *;omega
theorem aGk (c:Int):tN c<=2:=by unfold tN;split<;>omega
theorem AA.le2 {l:List cJ} (h:AA l f) (k:Nat):f.getD k 0<=2:=by
 cases hk:l[k]? with
 | none=>rw [h.other k λc q=>(by rw [hk];exact nofun)];omega
 | some x=>
  by_cases hx:∃ c q,x=.jump c q
  ·obtain ⟨c,q,rfl⟩:=hx;exact Nat.le_trans (h.jump k c q hk) (aGk c)
  ·rw [h.other k λc q=>(by rw [hk];intro he;injection he with he;exact hx ⟨c,q,he⟩)];omega
theorem aPc (x:cJ) {f:Nat} (h:f<=2):x.size f<=14:=by
 cases x with
 | one i=>show i.size<=14;unfold gN.size;split<;>omega
 | place l=>exact Nat.zero_le _
 | jump c l=>show 2+2*f<=14;omega
 | load r n=>exact GX r n
theorem AA.mem2 {l:List cJ} (h:AA l f):∀ g∈f,g<=2:=λg hg=>by
 obtain ⟨k,hk,rfl⟩:=List.getElem_of_mem hg;have:=h.le2 k
 rwa [List.getD_eq_getElem?_getD,List.getElem?_eq_getElem hk] at this
theorem KW:∀ l:List Nat,(∀ x∈l,x<=14)->l.sum<=14*l.length
 | [],_=>Nat.le_refl _
 | x::l,h=>by
  have:=KW l λy hy=>h y (List.mem_cons_of_mem _ hy);have:=h x List.mem_cons_self;rw [List.sum_cons,List.length_cons];omega
theorem AA.at_le {l:List cJ} (h:AA l f) (k:Nat):sQ l f k<=14*l.length:=by
 refine Nat.le_trans (KW _ λy hy=>?_) ?_
 ·obtain ⟨x,_,g,hg,rfl⟩:=JJ (List.mem_of_mem_take hy);exact aPc x (h.mem2 g hg)
 ·rw [List.length_take,List.length_zipWith];omega
theorem aGz {l:List cJ} (h:AA l f) {q:Int} (hq:q∈jV l):0<=DO l f q/\DO l f q<=14*l.length/\DO l f q % 2=0:=by
 obtain ⟨x,hx,hq⟩:=List.mem_flatMap.1 hq;obtain ⟨k,hk,rfl⟩:=List.getElem_of_mem hx
 have hx:l[k]?=some (.place q):=by
  rw [List.getElem?_eq_getElem hk];cases hc:l[k] with
  | place p=>rw [hc] at hq;simp only [cJ.pl,List.mem_singleton] at hq;rw [hq]
  | _=>rw [hc] at hq;cases hq
 have key:∀ j,k < j->0<=xX l f q j/\xX l f q j<=14*l.length/\xX l f q j % 2=0:=λj=>by
  induction j with
  | zero=>omega
  | succ j ih=>
   intro hj;have ha:=h.at_le j;have hb:=NC l f j;unfold xX;by_cases hjk:k=j
   ·subst hjk;rw [hx];simp only [if_true];omega
   ·have ih:=ih (by omega);split
    ·split
     ·omega
     ·exact ih
    ·exact ih
 exact key _ hk
theorem LG (h0:-16777216<=d) (h1:d<=16777214) (h2:d % 2=0):bS ⟨43,0,0,0,d,0⟩=true:=by
 have:d.tmod 2=0:=Int.tmod_eq_zero_of_dvd (Int.dvd_of_emod_eq_zero h2);simp [bS,h0,h1,this]
theorem aEz {c:Int} (h0:-256<=d) (h1:d<=254) (h2:d % 2=0) (h3:0<=c/\c<=13):bS ⟨41,0,0,0,d,c⟩=true:=by
 have e:d.tmod 2=0:=Int.tmod_eq_zero_of_dvd (Int.dvd_of_emod_eq_zero h2);have hf:cL 41=some (0xd000,[bI 0 8 (-256) 254 2,⟨4,8,4,0,13,1⟩]):=rfl;unfold bS;rw [if_neg (by dsimp only;decide),if_neg (by dsimp only;decide)];dsimp only;rw [hf];have a0:=bZ (sl:=[bI 0 8 (-256) 254 2,⟨4,8,4,0,13,1⟩]) (i:=⟨41,0,0,0,d,c⟩) (k:=0) rfl rfl;have a1:=bZ (sl:=[bI 0 8 (-256) 254 2,⟨4,8,4,0,13,1⟩]) (i:=⟨41,0,0,0,d,c⟩) (k:=1) rfl rfl;have a2:=bZ (sl:=[bI 0 8 (-256) 254 2,⟨4,8,4,0,13,1⟩]) (i:=⟨41,0,0,0,d,c⟩) (k:=2) rfl rfl;have a3:=dW (sl:=[bI 0 8 (-256) 254 2,⟨4,8,4,0,13,1⟩]) (i:=⟨41,0,0,0,d,c⟩) (k:=3) (s:=bI 0 8 (-256) 254 2) rfl h0 h1 e;have a4:=dW (sl:=[bI 0 8 (-256) 254 2,⟨4,8,4,0,13,1⟩]) (i:=⟨41,0,0,0,d,c⟩) (k:=4) (s:=⟨4,8,4,0,13,1⟩) rfl h3.1 h3.2 (Int.tmod_one _);dsimp only;rw [a0,a1,a2,a3,a4];rfl
theorem SM {l:List cJ} (hl:tR l) (h:AA l f) {c q:Int} (hk:l[k]?=some (.jump c q)) (hf:f.getD k 0=tN c):iV l f k=true:=by
 have h1:=h.at_le k;have h2:=NC l f k;have hm:cJ.jump c q∈l:=List.mem_of_getElem? hk;have hq:q∈tA l:=List.mem_flatMap.2 ⟨_,hm,List.mem_singleton.2 rfl⟩;obtain ⟨h3,h4,h5⟩:=aGz h (hl.jl q hq);have h6:=hl.len;obtain ⟨-,hc0,hc1⟩:cJ.okI (.jump c q):=hl.ok _ hm;unfold iV;rw [hk];dsimp only;rw [hf];unfold mN tN;by_cases hc:c=14
 ·simp only [hc,if_true];simp only [oR,List.all_cons,List.all_nil,Bool.and_true];exact LG (by omega) (by omega) (by omega)
 ·simp only [hc,if_false,oR,List.all_cons,List.all_nil,Bool.and_true,Bool.and_eq_true];refine ⟨aEz (by simp) (by simp) (by simp) ?_,LG (by omega) (by omega) (by omega)⟩;unfold HQ;split<;>omega
theorem mZ (l:List cJ) (f:List Nat):(rN l f).length=f.length:=by simp [rN]
theorem pI (l:List cJ) (f:List Nat) (hk:k < f.length):(rN l f).getD k 0=if iV l f k then f.getD k 0 else f.getD k 0+1:=by
 rw [List.getD_eq_getElem?_getD,rN,List.getElem?_map,List.getElem?_range hk];rfl
theorem AA.grow {l:List cJ} (hl:tR l) (h:AA l f):AA l (rN l f):=by
 refine ⟨by rw [mZ,h.len],λk c q hk=>?_,λk hk=>?_⟩
 ·have hlt:k < f.length:=by rw [h.len];exact (List.getElem?_eq_some_iff.1 hk).1
  rw [pI l f hlt];have h1:=h.jump k c q hk;split
  ·exact h1
  ·rename_i hr
   by_cases he:f.getD k 0=tN c
   ·exact absurd (SM hl h hk he) hr
   ·omega
 ·by_cases hlt:k < f.length
  ·rw [pI l f hlt]
   have h1:iV l f k=true:=by
    unfold iV;split
    ·rename_i c q he;exact absurd he (hk c q)
    ·rfl
   rw [h1,if_pos rfl];exact h.other k hk
  ·rw [List.getD_eq_getElem?_getD,List.getElem?_eq_none (by rw [mZ];omega)];rfl
def MC (f:List Nat):Nat:=(f.map λg=>3 - g).sum
theorem IU:∀ (a b:List Nat),a.length=b.length->(∀ k,a.getD k 0<=b.getD k 0)->(∃ k,k < a.length/\a.getD k 0 < b.getD k 0)->a.sum < b.sum
 | [],[],_,_,h=>by obtain ⟨k,h,_⟩:=h;cases h
 | [],_::_,h,_,_=>by cases h
 | _::_,[],h,_,_=>by cases h
 | x::a,y::b,hl,hle,⟨k,hk,hlt⟩=>by
  have h0:x<=y:=hle 0;rw [List.sum_cons,List.sum_cons];have hl':a.length=b.length:=by simpa using hl
  have hle':∀ k,a.getD k 0<=b.getD k 0:=λk=>hle (k+1)
  have sle:∀ (a b:List Nat),a.length=b.length->(∀ k,a.getD k 0<=b.getD k 0)->a.sum<=b.sum:=λa=>by
   induction a with
   | nil=>intro b _ _;exact Nat.zero_le _
   | cons x a ih=>
    intro b hb hh;cases b with
    | nil=>cases hb
    | cons y b=>
     have:=ih b (by simpa using hb) λk=>hh (k+1);have:x<=y:=hh 0;rw [List.sum_cons,List.sum_cons];omega
  cases k with
  | zero=>
   have h1:x < y:=hlt;have:=sle a b hl' hle';omega
  | succ k=>
   have:=IU a b hl' hle' ⟨k,by simpa using hk,hlt⟩;omega
theorem aGu {l:List cJ} (hl:tR l) (h:AA l f) (hg:∃ k,k < l.length/\iV l f k=false):MC (rN l f) < MC f:=by
 have get:∀ (f:List Nat) k,k < f.length->(f.map λg=>3 - g).getD k 0=3 - f.getD k 0:=λf k hk=>by
  rw [List.getD_eq_getElem?_getD,List.getElem?_map,List.getD_eq_getElem?_getD,List.getElem?_eq_getElem hk];rfl
 refine IU _ _ (by simp [mZ]) (λk=>?_) ?_
 ·by_cases hk:k < f.length
  ·rw [get _ k (by rw [mZ];exact hk),get f k hk,pI l f hk];split<;>omega
  ·rw [List.getD_eq_getElem?_getD,List.getElem?_eq_none (by simp [mZ];omega)];exact Nat.zero_le _
 ·obtain ⟨k,hk,hr⟩:=hg;rw [<- h.len] at hk;refine ⟨k,by simpa [mZ] using hk,?_⟩;rw [get _ k (by rw [mZ];exact hk),get f k hk,pI l f hk,hr];have:=(h.grow hl).le2 k;rw [pI l f hk,hr] at this;simp only [Bool.false_eq_true,if_false] at *;omega
def cJ.top:cJ->Nat
 | .one _=>2
 | .place _=>0
 | .jump _ _=>6
 | .load _ _=>14
def oC (l:List cJ):Nat:=(l.map cJ.top).sum
theorem pW (a b:List cJ):oC (a++b)=oC a+oC b:=by unfold oC;rw [List.map_append,List.sum_append]
theorem zD (x:cJ) (l:List cJ):oC (x::l)=x.top+oC l:=by unfold oC;rw [List.map_cons,List.sum_cons]
theorem aGb {i:gN} (h:i.okT):i.size=2:=by
 unfold gN.size;rw [if_neg];rcases h with h|h|h|h|h|h|h<;>omega
theorem aPv {x:cJ} {f:Nat} (h:x.okI) (hf:f<=2):x.size f<=x.top:=by
 cases x with
 | one i=>exact Nat.le_of_eq (aGb h)
 | place l=>exact Nat.le_refl _
 | jump c l=>show 2+2*f<=6;omega
 | load r n=>exact GX r n
theorem VA:∀ (l:List cJ) (f:List Nat),(∀ x∈l,x.okI)->(∀ g∈f,g<=2)->∀ k,((List.zipWith cJ.size l f).take k).sum<=oC l
 | _,_,_,_,0=>by rw [List.take_zero];exact Nat.zero_le _
 | [],_,_,_,k+1=>by simp
 | _::_,[],_,_,k+1=>by simp
 | x::l,g::f,h,hf,k+1=>by
  have ih:=VA l f (λy hy=>h y (List.mem_cons_of_mem _ hy)) (λy hy=>hf y (List.mem_cons_of_mem _ hy)) k;have:=aPv (h x List.mem_cons_self) (hf g List.mem_cons_self);rw [List.zipWith_cons_cons,List.take_succ_cons,List.sum_cons,zD];omega
theorem AA.at_top {l:List cJ} (hl:tR l) (h:AA l f) (k:Nat):sQ l f k<=oC l:=VA l f hl.ok h.mem2 k
theorem CK:∀ l:List cJ,(∀ x∈l,∃ i,x=.one i)->oC l=2*l.length
 | [],_=>rfl
 | x::l,h=>by
  have ih:=CK l λy hy=>h y (List.mem_cons_of_mem _ hy);obtain ⟨i,rfl⟩:=h x List.mem_cons_self;rw [zD,ih,List.length_cons];show 2+_=_;omega
theorem aRb (of:List Int) (reg r:Int):∃ i,eLd of reg r=.one i:=by unfold eLd;by_cases h:of.getD r.toNat 0 < 16<;>simp only [h,if_true,if_false]<;>exact ⟨_,rfl⟩
theorem XG (of:List Int) (r reg:Int):∃ i,eSt of r reg=.one i:=by unfold eSt;by_cases h:of.getD r.toNat 0 < 16<;>simp only [h,if_true,if_false]<;>exact ⟨_,rfl⟩
theorem aIk (of:List Int) (l:List Int):oC (jJ of l)=2*l.length:=by
 rw [CK]
 ·simp [jJ]
 ·intro x hx;simp only [jJ,List.mem_map] at hx;obtain ⟨k,-,rfl⟩:=hx;exact aRb _ _ _
theorem aIm (of:List Int) (n:aJ):oC (vK of n)<=2:=by
 unfold vK;split
 ·obtain ⟨i,h⟩:=XG of n.df 0;rw [h];exact Nat.le_refl _
 ·exact Nat.zero_le _
theorem aIo (op:Int):oC (oQ op)<=24:=by
 unfold oQ
 repeat' split
 all_goals simp [oC,cJ.top,iJ,pL,iY,rB,rC,lD]
theorem aRa (op:Int):oC (eUn op)<=6:=by
 unfold eUn
 repeat' split
 all_goals simp [oC,cJ.top,iJ,iY,rB,rC]
theorem aDb {of:List Int} {N tl:Nat} {n:aJ} (hn:pP n k R N):oC (oZ of N applet tl n k)<=36:=by
 have h5:=hn.us5;have hl:=aIk of n.us;have hd:=aIm of n;unfold oZ;rw [pW];have hc:oC kN=10:=rfl;have ht:∀ l,oC (mR l)=12:=λ_=>rfl;cases n with
 | bin op d a b=>
  have hb:=aIo op;have hu:(aJ.bin op d a b).us.length=2:=rfl;dsimp only;rw [pW];omega
 | un op d a=>have hb:=aRa op;dsimp only;rw [pW];omega
 | choose d c a b=>dsimp only;rw [pW,hc];omega
 | tick=>dsimp only;rw [ht];omega
 | const d v=>have e:oC [cJ.load 0 v]=14:=rfl;dsimp only;rw [e];omega
 | goto t=>have e:oC [cJ.jump 14 t]=6:=rfl;dsimp only;rw [e];omega
 | branch c t=>have e:oC [iY 9 0 0,.jump 1 t]=8:=rfl;dsimp only;rw [pW,e];omega
 | getField d f=>have e:oC [tH applet,.one ⟨31,0,1,0,4*f,0⟩]=16:=rfl;dsimp only;rw [e];omega
 | putField f s=>have e:oC [tH applet,.one ⟨32,0,1,0,4*f,0⟩]=16:=rfl;dsimp only;rw [pW,e];omega
 | _=>first
  | (dsimp only;omega)
  | (have e:oC [cJ.one ⟨44,0,0,0,(tl:Int)+1,0⟩]=2:=rfl;dsimp only;rw [pW,e];omega)
theorem zW {p:fN} {of:List Int} {R N:Nat} {applet:Int} (hv:kT p) (hR:p.regs=R) (hN:p.nodes.length=N):∀ k,k<=N->oC (gE p of applet k).1<=8+36*k
 | 0,_=>by
  have hp1:=hv.p1;have hp2:=hv.p2;have hp3:=hv.p3;rw [CK]
  ·simp [gE];omega
  ·intro x hx;simp only [gE,List.mem_map] at hx;obtain ⟨k,-,rfl⟩:=hx;exact XG _ _ _
 | k+1,hk=>by
  have ih:=zW (of:=of) (applet:=applet) hv hR hN k (by omega);obtain ⟨hpk,hrk⟩:=hv.at (k:=k) (by omega);rw [hR,hN] at hrk;have hn:=aDb (of:=of) (applet:=applet) (tl:=(gE p of applet k).2.length) hrk;have e1:(gE p of applet (k+1)).1=(gE p of applet k).1++.place k::oZ of N applet (gE p of applet k).2.length (p.at' k) k:=by rw [<- hN];rfl
  rw [e1,pW,zD];show _+(0+_)<=_;omega
theorem aCz {p:fN} {of:List Int} (hv:kT p) (hR:p.regs=R):oC (mQ p of applet)<=16384:=by
 have:=zW (of:=of) (applet:=applet) hv hR rfl p.nodes.length (Nat.le_refl _);have:=hv.l2;unfold mQ;omega
end Go.Proofs.YtjcmcfidblhnnaaGreatDoor
namespace Go.Proofs.YtjcmcfidblhnnaaGreatDoor
open Tryz
open Go.Vc Go.Tc
theorem GZ (i:iK) (m:jN) (st:Go.Tc.St) (r:List Bool):∀ k,(bG i m st r k).1.length<=m.locals.length+2*k
 | 0=>by simp [bG]
 | k+1=>by
  have ih:=GZ i m st r k;unfold bG;dsimp only;split
  ·have:(jH i m (m.ins k) (st.s k).length).toList.length<=1:=by cases jH i m (m.ins k) (st.s k).length<;>simp
   rw [List.length_append,List.length_cons];omega
  ·exact Nat.le_trans ih (by omega)
theorem aCm (i:iK) (m:jN) (st:Go.Tc.St) (r:List Bool):(oI i m st r).length<=m.locals.length+2*m.code.length:=by
 have:=GZ i m st r m.code.length;unfold oI;dsimp only;rw [List.length_map];exact this
theorem aCl {p:fN} {of:List Int} {R L C:Nat} {applet:Int} (hv:kT p) (hR:p.regs=R) (hl:p.nodes.length<=L+2*C) (hL:L<=10):oC (mQ p of applet)+4<=512+96*C:=by
 have:=zW (of:=of) (applet:=applet) hv hR rfl p.nodes.length (Nat.le_refl _);unfold mQ;omega
end Go.Proofs.YtjcmcfidblhnnaaGreatDoor
namespace Go.Proofs.YtjcmcfidblhnnaaGreatDoor
open Tryz
open Go.Vc
variable {r:Int × List iZ} {d n:Int} {a f k:Nat}
def gN.set (i:gN) (k v:Int):gN:=if k=0 then { i with d:=v } else if k=1 then { i with n:=v } else if k=2 then { i with m:=v } else if k=3 then { i with imm:=v } else { i with cond:=v }
def SR (h:Nat) (s:iZ) (n:Int):Nat:=h ||| (((n.tdiv s.step) % ((2 ^ s.bits.toNat:Nat):Int)).toNat <<< s.shift.toNat)
def BC (r:Int × List iZ) (i:gN):Nat:=r.2.foldl (λh s=>SR h s (i.part s.part)) r.1.toNat
def WI (s:iZ):Nat:=(2 ^ s.bits.toNat - 1) <<< s.shift.toNat
def sG (h:Nat) (x:gN × Nat) (s:iZ):gN × Nat:=
 let n:Int:=(((h &&& WI s) >>> s.shift.toNat:Nat):Int)*s.step
 let g:Int:=s.step*((2 ^ s.bits.toNat:Nat):Int)
 (x.1.set s.part (if n > s.most then n - g else if n < s.least then n+g else n),x.2 &&& (65535 - WI s))
def bBs (h:Nat):Int:=if h >>> 7=0xb000 >>> 7 then 37 else if h >>> 7=0xb080 >>> 7 then 38 else if h >>> 9=0xb400 >>> 9 then 39 else if h >>> 9=0xbc00 >>> 9 then 40 else 45
def opN (h:Nat):Int:=
 let f:=h >>> 11
 if f<=2 then 1+f else if f=3 then 4+((h >>> 9 &&& 3:Nat):Int) else if f<=7 then 8+((f:Int) - 4) else if f=8 then 12+((h >>> 6 &&& 15:Nat):Int)
 else if f=10 then 30 else if f=11 then 29 else if f=12 then 32 else if f=13 then 31 else if f=14 then 34 else if f=15 then 33 else if f=18 then 36 else if f=19 then 35
 else if f=22\/f=23 then bBs h else if f=26\/f=27 then (if h >>> 8=0xdf then 44 else 41) else if f=28 then 42 else 0
def gN.eqB (a b:gN):Bool:=decide (a.op=b.op)&&decide (a.d=b.d)&&decide (a.n=b.n)&&decide (a.m=b.m)&&decide (a.imm=b.imm)&&decide (a.cond=b.cond)
theorem gN.of_eqB {a b:gN} (h:a.eqB b=true):a=b:=by
 obtain ⟨a1,a2,a3,a4,a5,a6⟩:=a;obtain ⟨b1,b2,b3,b4,b5,b6⟩:=b;simp only [gN.eqB,Bool.and_eq_true,decide_eq_true_eq] at h;obtain ⟨⟨⟨⟨⟨h1,h2⟩,h3⟩,h4⟩,h5⟩,h6⟩:=h;rw [h1,h2,h3,h4,h5,h6]
def uO (r:Int × List iZ) (i:gN):Bool:=
 let h:=BC r i
 let x:=r.2.foldl (sG h) (⟨i.op,0,0,0,0,0⟩,h)
 decide (h < 65536)&&decide (h >>> 11≠30)&&decide (h >>> 8≠70)&&decide (opN h=i.op)&&decide (x.2=r.1.toNat)&&x.1.eqB i
structure bHv (r:Int × List iZ) (i:gN):Prop where
 lt:BC r i < 65536
 bl:BC r i >>> 11≠30
 mov:BC r i >>> 8≠70
 op:opN (BC r i)=i.op
 read:r.2.foldl (sG (BC r i)) (⟨i.op,0,0,0,0,0⟩,BC r i)=(i,r.1.toNat)
theorem bHv.of {i:gN} (h:uO r i=true):bHv r i:=by
 simp only [uO,Bool.and_eq_true,decide_eq_true_eq] at h;obtain ⟨⟨⟨⟨⟨h1,h2⟩,h3⟩,h4⟩,h5⟩,h6⟩:=h;exact ⟨h1,h2,h3,h4,Prod.ext (gN.of_eqB h6) h5⟩
def FY (n:Nat) (f:Nat->Bool):Bool:=(List.range n).all f
def zZ (n m:Nat) (f:Nat->Nat->Bool):Bool:=FY n λa=>FY m (f a)
theorem oG {n:Nat} {f:Nat->Bool} (h:FY n f=true) (hk:k < n):f k=true:=List.all_eq_true.1 h k (List.mem_range.2 hk)
theorem jR {n m:Nat} {f:Nat->Nat->Bool} (h:zZ n m f=true) {b:Nat} (ha:a < n) (hb:b < m):f a b=true:=oG (oG h ha) hb
theorem c4:(zZ 8 8 λa b=>zZ 2 8 λo c=>uO (0x1800+512*(o:Int),[aS 0 0,aS 1 3,aS 2 6]) ⟨4+o,a,b,c,0,0⟩)=true:=by kernel_rfl
theorem c8:(zZ 4 8 λo a=>FY 256 λb=>uO (0x2000+o*2048,[aS 0 8,bI 0 8 0 255 1]) ⟨8+o,a,0,0,b,0⟩)=true:=by kernel_rfl
theorem c12:(zZ 8 8 λa b=>FY 16 λo=>uO (0x4000+o*64,[aS 0 0,aS 2 3]) ⟨12+o,a,0,b,0,0⟩)=true:=by kernel_rfl
theorem c31:(zZ 8 8 λa b=>zZ 2 32 λo c=>uO (0x6800 - 0x800*(o:Int),[aS 0 0,aS 1 3,bI 6 5 0 124 4]) ⟨31+o,a,b,0,4*c,0⟩)=true:=by kernel_rfl
theorem c35:(zZ 8 256 λa c=>FY 2 λo=>uO (0x9800 - 0x800*(o:Int),[aS 0 8,bI 0 8 0 1020 4]) ⟨35+o,a,0,0,4*c,0⟩)=true:=by kernel_rfl
theorem c44:(FY 256 λc=>uO (0xdf00,[bI 0 8 0 255 1]) ⟨44,0,0,0,c,0⟩)=true:=by kernel_rfl
theorem c1:(zZ 8 8 λa b=>FY 32 λc=>uO (0,[aS 0 0,aS 2 3,bI 6 5 0 31 1]) ⟨1,a,0,b,c,0⟩)=true:=by kernel_rfl
theorem c41:(zZ 256 14 λa c=>uO (0xd000,[bI 0 8 (-256) 254 2,⟨4,8,4,0,13,1⟩]) ⟨41,0,0,0,2*(a:Int) - 256,c⟩)=true:=by kernel_rfl
theorem c42:(FY 2048 λa=>uO (0xe000,[bI 0 11 (-2048) 2046 2]) ⟨42,0,0,0,2*(a:Int) - 2048,0⟩)=true:=by kernel_rfl
theorem jQ {sl:List iZ} {i:gN} {k:Int} {s:iZ} (h:jM sl i k=true) (hf:sl.find? (λs=>decide (s.part=k))=some s):s.least<=i.part k/\i.part k<=s.most/\(i.part k).tmod s.step=0:=by
 unfold jM at h;rw [hf] at h;simpa [and_assoc] using h
theorem fV {sl:List iZ} {i:gN} {k:Int} (h:jM sl i k=true) (hf:sl.find? (λs=>decide (s.part=k))=none):i.part k=0:=by
 unfold jM at h;rw [hf] at h;simpa using h
theorem kG {i:gN} (h:bS i=true) (hf:cL i.op=some r) (h1:i.op≠28) (h2:i.op≠43):jM r.2 i 0=true/\jM r.2 i 1=true/\jM r.2 i 2=true/\jM r.2 i 3=true/\jM r.2 i 4=true:=by
 unfold bS at h;rw [if_neg h1,if_neg h2,hf] at h;simpa [and_assoc] using h
theorem jW {a:Int} (h:0<=a):∃ k:Nat,a=k:=⟨a.toNat,by omega⟩
def uU (op:Int):Prop:=op=1\/op=4\/op=5\/(8<=op/\op<=27)\/op=31\/op=32\/op=35\/op=36\/op=41\/op=42\/op=44
theorem XS {i:gN} (h:bS i=true) (ho:uU i.op):∃ r,cL i.op=some r/\bHv r i:=by
 obtain ⟨op,d,n,m,imm,cond⟩:=i;dsimp only at ho ⊢
 have three:∀ b sl,cL op=some (b,sl)->sl=[aS 0 0,aS 1 3,aS 2 6]->op≠28->op≠43->∃ a1 a2 a3:Nat,(a1 < 8/\a2 < 8/\a3 < 8)/\d=a1/\n=a2/\m=a3/\imm=0/\cond=0:=λb sl hf hs e1 e2=>by
  subst hs;obtain ⟨p0,p1,p2,p3,p4⟩:=kG h hf e1 e2;have q0:0<=d/\d<=7/\d.tmod 1=0:=jQ p0 (s:=aS 0 0) rfl;have q1:0<=n/\n<=7/\n.tmod 1=0:=jQ p1 (s:=aS 1 3) rfl;have q2:0<=m/\m<=7/\m.tmod 1=0:=jQ p2 (s:=aS 2 6) rfl;have q3:imm=0:=fV p3 rfl;have q4:cond=0:=fV p4 rfl;obtain ⟨a1,rfl⟩:=jW q0.1;obtain ⟨a2,rfl⟩:=jW q1.1;obtain ⟨a3,rfl⟩:=jW q2.1;exact ⟨a1,a2,a3,⟨by omega,by omega,by omega⟩,rfl,rfl,rfl,q3,q4⟩
 have mem:∀ b sl,cL op=some (b,sl)->sl=[aS 0 0,aS 1 3,bI 6 5 0 124 4]->op≠28->op≠43->∃ a1 a2 a3:Nat,(a1 < 8/\a2 < 8/\a3 < 32)/\d=a1/\n=a2/\m=0/\imm=4*(a3:Int)/\cond=0:=λb sl hf hs e1 e2=>by
  subst hs;obtain ⟨p0,p1,p2,p3,p4⟩:=kG h hf e1 e2;have q0:0<=d/\d<=7/\d.tmod 1=0:=jQ p0 (s:=aS 0 0) rfl;have q1:0<=n/\n<=7/\n.tmod 1=0:=jQ p1 (s:=aS 1 3) rfl;have q3:0<=imm/\imm<=124/\imm.tmod 4=0:=jQ p3 (s:=bI 6 5 0 124 4) rfl;have q2:m=0:=fV p2 rfl;have q4:cond=0:=fV p4 rfl;obtain ⟨a1,rfl⟩:=jW q0.1;obtain ⟨a2,rfl⟩:=jW q1.1;have hm:=Int.dvd_of_tmod_eq_zero q3.2.2;exact ⟨a1,a2,(imm / 4).toNat,⟨by omega,by omega,by omega⟩,rfl,rfl,q2,by omega,q4⟩
 have stk:∀ b sl,cL op=some (b,sl)->sl=[aS 0 8,bI 0 8 0 1020 4]->op≠28->op≠43->∃ a1 a3:Nat,(a1 < 8/\a3 < 256)/\d=a1/\n=0/\m=0/\imm=4*(a3:Int)/\cond=0:=λb sl hf hs e1 e2=>by
  subst hs;obtain ⟨p0,p1,p2,p3,p4⟩:=kG h hf e1 e2;have q0:0<=d/\d<=7/\d.tmod 1=0:=jQ p0 (s:=aS 0 8) rfl;have q3:0<=imm/\imm<=1020/\imm.tmod 4=0:=jQ p3 (s:=bI 0 8 0 1020 4) rfl;have q1:n=0:=fV p1 rfl;have q2:m=0:=fV p2 rfl;have q4:cond=0:=fV p4 rfl;obtain ⟨a1,rfl⟩:=jW q0.1;have hm:=Int.dvd_of_tmod_eq_zero q3.2.2;exact ⟨a1,(imm / 4).toNat,⟨by omega,by omega⟩,rfl,q1,q2,by omega,q4⟩
 rcases ho with rfl|rfl|rfl|⟨g1,g2⟩|rfl|rfl|rfl|rfl|rfl|rfl|rfl
 ·have hf:cL 1=some (0,[aS 0 0,aS 2 3,bI 6 5 0 31 1]):=rfl;refine ⟨_,hf,?_⟩;obtain ⟨p0,p1,p2,p3,p4⟩:=kG h hf (by dsimp only;decide) (by dsimp only;decide);have q0:0<=d/\d<=7/\d.tmod 1=0:=jQ p0 (s:=aS 0 0) rfl;have q2:0<=m/\m<=7/\m.tmod 1=0:=jQ p2 (s:=aS 2 3) rfl;have q3:0<=imm/\imm<=31/\imm.tmod 1=0:=jQ p3 (s:=bI 6 5 0 31 1) rfl;have q1:n=0:=fV p1 rfl;have q4:cond=0:=fV p4 rfl;obtain ⟨a1,rfl⟩:=jW q0.1;obtain ⟨a2,rfl⟩:=jW q2.1;obtain ⟨a3,rfl⟩:=jW q3.1;subst q1 q4;exact .of (oG (jR c1 (a:=a1) (b:=a2) (by omega) (by omega)) (k:=a3) (by omega))
 ·obtain ⟨a1,a2,a3,⟨k1,k2,k3⟩,rfl,rfl,rfl,rfl,rfl⟩:=three _ _ rfl rfl (by decide) (by decide);exact ⟨_,rfl,.of (jR (jR c4 k1 k2) (a:=0) (b:=a3) (by decide) k3)⟩
 ·obtain ⟨a1,a2,a3,⟨k1,k2,k3⟩,rfl,rfl,rfl,rfl,rfl⟩:=three _ _ rfl rfl (by decide) (by decide);exact ⟨_,rfl,.of (jR (jR c4 k1 k2) (a:=1) (b:=a3) (by decide) k3)⟩
 ·by_cases g3:op<=11
  ·have hf:cL op=some (0x2000+(op - 8)*2048,[aS 0 8,bI 0 8 0 255 1]):=by unfold cL;rw [if_neg (by omega),if_pos ⟨g1,g3⟩]
   refine ⟨_,hf,?_⟩;obtain ⟨p0,p1,p2,p3,p4⟩:=kG h hf (by dsimp only;omega) (by dsimp only;omega);have q0:0<=d/\d<=7/\d.tmod 1=0:=jQ p0 (s:=aS 0 8) rfl;have q3:0<=imm/\imm<=255/\imm.tmod 1=0:=jQ p3 (s:=bI 0 8 0 255 1) rfl;have q1:n=0:=fV p1 rfl;have q2:m=0:=fV p2 rfl;have q4:cond=0:=fV p4 rfl;obtain ⟨a1,rfl⟩:=jW q0.1;obtain ⟨a3,rfl⟩:=jW q3.1;subst q1 q2 q4;obtain ⟨o,rfl⟩:∃ o:Nat,op=8+o:=⟨(op - 8).toNat,by omega⟩;have:=oG (jR c8 (a:=o) (b:=a1) (by omega) (by omega)) (k:=a3) (by omega);rw [show (8+(o:Int) - 8)=o from by omega];exact .of this
  ·have hf:cL op=some (0x4000+(op - 12)*64,[aS 0 0,aS 2 3]):=by unfold cL;rw [if_pos ⟨by omega,g2⟩]
   refine ⟨_,hf,?_⟩;by_cases g4:op=28
   ·omega
   obtain ⟨p0,p1,p2,p3,p4⟩:=kG h hf g4 (by dsimp only;omega);have q0:0<=d/\d<=7/\d.tmod 1=0:=jQ p0 (s:=aS 0 0) rfl;have q2:0<=m/\m<=7/\m.tmod 1=0:=jQ p2 (s:=aS 2 3) rfl;have q1:n=0:=fV p1 rfl;have q3:imm=0:=fV p3 rfl;have q4:cond=0:=fV p4 rfl;obtain ⟨a1,rfl⟩:=jW q0.1;obtain ⟨a2,rfl⟩:=jW q2.1;subst q1 q3 q4;obtain ⟨o,rfl⟩:∃ o:Nat,op=12+o:=⟨(op - 12).toNat,by omega⟩;have:=oG (jR c12 (a:=a1) (b:=a2) (by omega) (by omega)) (k:=o) (by omega);rw [show (12+(o:Int) - 12)=o from by omega];exact .of this
 ·obtain ⟨a1,a2,a3,⟨k1,k2,k3⟩,rfl,rfl,rfl,rfl,rfl⟩:=mem _ _ rfl rfl (by decide) (by decide);exact ⟨_,rfl,.of (jR (jR c31 k1 k2) (a:=0) (b:=a3) (by decide) k3)⟩
 ·obtain ⟨a1,a2,a3,⟨k1,k2,k3⟩,rfl,rfl,rfl,rfl,rfl⟩:=mem _ _ rfl rfl (by decide) (by decide);exact ⟨_,rfl,.of (jR (jR c31 k1 k2) (a:=1) (b:=a3) (by decide) k3)⟩
 ·obtain ⟨a1,a3,⟨k1,k3⟩,rfl,rfl,rfl,rfl,rfl⟩:=stk _ _ rfl rfl (by decide) (by decide);exact ⟨_,rfl,.of (oG (jR c35 k1 k3) (k:=0) (by decide))⟩
 ·obtain ⟨a1,a3,⟨k1,k3⟩,rfl,rfl,rfl,rfl,rfl⟩:=stk _ _ rfl rfl (by decide) (by decide);exact ⟨_,rfl,.of (oG (jR c35 k1 k3) (k:=1) (by decide))⟩
 ·have hf:cL 41=some (0xd000,[bI 0 8 (-256) 254 2,⟨4,8,4,0,13,1⟩]):=rfl;refine ⟨_,hf,?_⟩;obtain ⟨p0,p1,p2,p3,p4⟩:=kG h hf (by dsimp only;decide) (by dsimp only;decide);have q3:(-256)<=imm/\imm<=254/\imm.tmod 2=0:=jQ p3 (s:=bI 0 8 (-256) 254 2) rfl;have q4:0<=cond/\cond<=13/\cond.tmod 1=0:=jQ p4 (s:=⟨4,8,4,0,13,1⟩) rfl;have q0:d=0:=fV p0 rfl;have q1:n=0:=fV p1 rfl;have q2:m=0:=fV p2 rfl;subst q0 q1 q2;obtain ⟨a4,rfl⟩:=jW q4.1;have hm:=Int.dvd_of_tmod_eq_zero q3.2.2;obtain ⟨a3,rfl⟩:∃ a:Nat,imm=2*(a:Int) - 256:=⟨((imm+256) / 2).toNat,by omega⟩;exact .of (jR c41 (a:=a3) (b:=a4) (by omega) (by omega))
 ·have hf:cL 42=some (0xe000,[bI 0 11 (-2048) 2046 2]):=rfl;refine ⟨_,hf,?_⟩;obtain ⟨p0,p1,p2,p3,p4⟩:=kG h hf (by dsimp only;decide) (by dsimp only;decide);have q3:(-2048)<=imm/\imm<=2046/\imm.tmod 2=0:=jQ p3 (s:=bI 0 11 (-2048) 2046 2) rfl;have q0:d=0:=fV p0 rfl;have q1:n=0:=fV p1 rfl;have q2:m=0:=fV p2 rfl;have q4:cond=0:=fV p4 rfl;subst q0 q1 q2 q4;have hm:=Int.dvd_of_tmod_eq_zero q3.2.2;obtain ⟨a3,rfl⟩:∃ a:Nat,imm=2*(a:Int) - 2048:=⟨((imm+2048) / 2).toNat,by omega⟩;exact .of (oG c42 (k:=a3) (by omega))
 ·have hf:cL 44=some (0xdf00,[bI 0 8 0 255 1]):=rfl;refine ⟨_,hf,?_⟩;obtain ⟨p0,p1,p2,p3,p4⟩:=kG h hf (by dsimp only;decide) (by dsimp only;decide);have q3:0<=imm/\imm<=255/\imm.tmod 1=0:=jQ p3 (s:=bI 0 8 0 255 1) rfl;have q0:d=0:=fV p0 rfl;have q1:n=0:=fV p1 rfl;have q2:m=0:=fV p2 rfl;have q4:cond=0:=fV p4 rfl;subst q0 q1 q2 q4;obtain ⟨a3,rfl⟩:=jW q3.1;exact .of (oG c44 (k:=a3) (by omega))
def SZ (d m:Int):Nat:=0x4600 ||| (d.toNat >>> 3 <<< 7) ||| (m.toNat <<< 3) ||| (d.toNat &&& 7)
def bCb (d m:Nat):Bool:=
 let h:=SZ d m
 decide (h < 65536)&&decide (h >>> 11≠30)&&decide (h >>> 8=70)&&decide (((h >>> 7 &&& 1) <<< 3 ||| (h &&& 7))=d)&&decide ((h >>> 3 &&& 15)=m)
theorem c28:zZ 15 15 bCb=true:=by kernel_rfl
def cJ.codeK (x:cJ) (f:Nat) (a:Int) (b:Int->Int):List gN:=
 match x with
 | .one i=>[i]
 | .place _=>[]
 | .jump c q=>mN c f a (b q)
 | .load r n=>sJ r n
def oU (l:List cJ) (f:List Nat):Nat->List gN
 | 0=>[]
 | k+1=>oU l f k++match l[k]? with
  | some x=>x.codeK (f.getD k 0) (sQ l f k) (DO l f)
  | none=>[]
theorem GH (a b:List gN):jP (a++b)=jP a+jP b:=by unfold jP;rw [List.map_append,List.sum_append]
theorem EY (f:Nat) (a b:Int):jP (oR f a b)=if f > 0 then 4 else 2:=by
 unfold oR jP gN.size;by_cases h:f > 0<;>simp [h]
theorem TJ {c:Int} (h:f<=tN c) (a b:Int):jP (mN c f a b)=2+2*f:=by
 unfold tN at h;unfold mN;by_cases hc:c=14
 ·rw [if_pos hc] at h;rw [if_pos hc,EY];split<;>omega
 ·rw [if_neg hc] at h;rw [if_neg hc];cases f with
  | zero=>rfl
  | succ g=>
   dsimp only;rw [show ∀ x:gN,x::oR g (a+2) b=[x]++oR g (a+2) b from λ_=>rfl,GH,EY];simp only [jP,List.map_cons,List.map_nil,List.sum_cons,List.sum_nil,gN.size];by_cases hg:g > 0
   ·have:g=1:=by omega
    subst this;rfl
   ·have:g=0:=by omega
    subst this;rfl
theorem UH {x:cJ} (h:∀ c q,x=.jump c q->f<=tN c) (a:Int) (b:Int->Int):jP (x.codeK f a b)=x.size f:=by
 cases x with
 | one i=>show jP [i]=i.size;simp [jP]
 | place l=>rfl
 | jump c q=>exact TJ (h c q rfl) _ _
 | load r n=>rfl
theorem yO {l:List cJ} {f:List Nat} (hf:f.length=l.length) {x:cJ} (hx:l[k]?=some x):sQ l f (k+1)=sQ l f k+x.size (f.getD k 0):=by
 have hk:k < l.length:=(List.getElem?_eq_some_iff.1 hx).1;unfold sQ;rw [List.take_add_one,List.sum_append]
 congr 1
 rw [List.getElem?_zipWith,hx,List.getD_eq_getElem?_getD,List.getElem?_eq_getElem (by omega:k < f.length)];simp
theorem HW {l:List cJ} {f:List Nat} (h:AA l f):∀ k,k<=l.length->jP (oU l f k)=sQ l f k
 | 0,_=>by simp [oU,sQ,jP]
 | k+1,hk=>by
  have ih:=HW h k (by omega);have hx:l[k]?=some l[k]:=List.getElem?_eq_getElem (by omega);unfold oU;rw [GH,ih,hx,yO h.len hx];dsimp only;rw [UH];intro c q he;exact h.jump k c q (by rw [hx,he])
theorem CX {op:Int} (ho:8<=op/\op<=11) (hd:zL d) (hn:0<=n/\n<=255):bS ⟨op,d,0,0,n,0⟩=true:=zN (.inr (.inr (.inl ⟨ho,hd,rfl,rfl,hn,rfl⟩)))
theorem aBs {m:Int} (hd:zL d) (hm:zL m):bS ⟨1,d,0,m,8,0⟩=true:=by
 have hf:cL 1=some (0,[aS 0 0,aS 2 3,bI 6 5 0 31 1]):=rfl;unfold bS;rw [if_neg (by dsimp only;decide),if_neg (by dsimp only;decide)];dsimp only;rw [hf];have a0:=dW (sl:=[aS 0 0,aS 2 3,bI 6 5 0 31 1]) (i:=⟨1,d,0,m,8,0⟩) (k:=0) (s:=aS 0 0) rfl hd.1 hd.2 (Int.tmod_one _);have a1:=bZ (sl:=[aS 0 0,aS 2 3,bI 6 5 0 31 1]) (i:=⟨1,d,0,m,8,0⟩) (k:=1) rfl rfl;have a2:=dW (sl:=[aS 0 0,aS 2 3,bI 6 5 0 31 1]) (i:=⟨1,d,0,m,8,0⟩) (k:=2) (s:=aS 2 3) rfl hm.1 hm.2 (Int.tmod_one _);have a3:=dW (sl:=[aS 0 0,aS 2 3,bI 6 5 0 31 1]) (i:=⟨1,d,0,m,8,0⟩) (k:=3) (s:=bI 6 5 0 31 1) rfl (show (0:Int)<=8 by decide) (show (8:Int)<=31 by decide) (Int.tmod_one _);have a4:=bZ (sl:=[aS 0 0,aS 2 3,bI 6 5 0 31 1]) (i:=⟨1,d,0,m,8,0⟩) (k:=4) rfl rfl;dsimp only;rw [a0,a1,a2,a3,a4];rfl
theorem AK {r u:Int} (hr:zL r):∀ k,∀ i∈qF r u k,bS i=true
 | 0,i,h=>by cases h
 | k+1,i,h=>by
  unfold qF at h;rw [List.mem_append] at h;rcases h with h|h
  ·rcases List.mem_cons.1 h with rfl|h
   ·exact aBs hr hr
   ·split at h
    ·rw [List.mem_singleton] at h;subst h;exact CX (by decide) hr ⟨by omega,by omega⟩
    ·cases h
  ·exact AK hr k i h
theorem aCt {u:Int} (h0:0<=u) (h1:u < 4294967296):0<=u / 256 ^ sO u/\u / 256 ^ sO u<=255:=by
 unfold sO;split
 ·simp only [show (256:Int) ^ 3=16777216 from rfl];omega
 ·split
  ·simp only [show (256:Int) ^ 2=65536 from rfl];omega
  ·split
   ·simp only [show (256:Int) ^ 1=256 from rfl];omega
   ·simp only [show (256:Int) ^ 0=1 from rfl];omega
theorem LZ {r:Int} (hr:zL r):∀ i∈sJ r n,bS i=true:=λi h=>by
 unfold sJ at h;rcases List.mem_cons.1 h with rfl|h
 ·exact CX (by decide) hr (aCt (by omega) (by omega))
 ·exact AK hr _ i h
theorem EZ {l:List cJ} {f:List Nat} (hl:tR l) (hr:∀ k,k < l.length->iV l f k=true):∀ k,k<=l.length->∀ i∈oU l f k,bS i=true
 | 0,_,i,h=>by cases h
 | k+1,hk,i,h=>by
  have hx:l[k]?=some l[k]:=List.getElem?_eq_getElem (by omega);unfold oU at h;rw [hx,List.mem_append] at h;rcases h with h|h
  ·exact EZ hl hr k (by omega) i h
  ·have ho:l[k].okI:=hl.ok _ (List.getElem_mem (by omega));have hk':=hr k (by omega);unfold iV at hk';rw [hx] at hk';dsimp only at h;generalize l[k]=x at *;cases x with
   | one j=>
    rw [List.mem_singleton.1 h];exact zN ho
   | place q=>cases h
   | jump c q=>exact List.all_eq_true.1 hk' i h
   | load r n=>exact LZ ho i h
def aDk (s x:Nat):Nat:=0xf000 ||| (s <<< 10) ||| x
def aDj (j k y:Nat):Nat:=0xd000 ||| (j <<< 13) ||| (k <<< 11) ||| y
def KG (imm:Int) (b:Nat):Nat:=((imm / ((2 ^ b:Nat):Int)) % 2).toNat
def blN (imm:Int):List Nat:=
 let s:=if imm < 0 then 1 else 0
 [aDk s ((imm / 4096) % 1024).toNat,aDj (1 - (KG imm 23 ^^^ s)) (1 - (KG imm 22 ^^^ s)) ((imm / 2) % 2048).toNat]
def FU (i:gN):List Nat:=
 if i.op=28 then [SZ i.d i.m] else if i.op=43 then blN i.imm else match cL i.op with
  | some r=>[BC r i]
  | none=>[]
def LX (h:Nat):gN:=⟨28,(((h >>> 7 &&& 1) <<< 3 ||| (h &&& 7):Nat):Int),0,((h >>> 3 &&& 15:Nat):Int),0,0⟩
def KD:List Nat->Option Nat
 | []=>none
 | h::l=>
  if h >>> 11=30 then match l with
   | []=>none
   | b::_=>if b &&& 0xd000=0xd000 then some 2 else none
  else if h >>> 8=70 then if bS (LX h) then some 1 else none
  else match cL (opN h) with
   | some r=>let x:=r.2.foldl (sG h) (⟨opN h,0,0,0,0,0⟩,h);if x.2=r.1.toNat/\bS x.1=true then some 1 else none
   | none=>none
theorem cHi:(zZ 2 1024 λs x=>decide (aDk s x >>> 11=30)&&decide (aDk s x < 65536))=true:=by kernel_rfl
theorem cLo:(zZ 2 2 λj k=>FY 2048 λy=>decide (aDj j k y &&& 0xd000=0xd000)&&decide (aDj j k y < 65536))=true:=by kernel_rfl
theorem zH {i:gN} (h:bS i=true) (ho:i.op=28):∃ a b:Nat,a < 15/\b < 15/\i=⟨28,a,0,b,0,0⟩:=by
 obtain ⟨op,d,n,m,imm,cond⟩:=i;dsimp only at ho;subst ho;simp only [bS,if_true,Bool.and_eq_true,decide_eq_true_eq] at h;obtain ⟨⟨⟨⟨⟨⟨rfl,rfl,rfl⟩,h2⟩,h3⟩,h4⟩,h5⟩,h6⟩:=h;obtain ⟨a,rfl⟩:=jW h2;obtain ⟨b,rfl⟩:=jW h5;exact ⟨a,b,by omega,by omega,rfl⟩
theorem VB {b:Nat} (_:a < 2) (_:b < 2):1 - (a ^^^ b) < 2:=by omega
theorem UF {i:gN} (h:bS i=true) (ho:uU i.op\/i.op=28\/i.op=43) (l:List Nat):KD (FU i++l)=some (FU i).length/\(∀ x∈FU i,x < 65536)/\(FU i).length*2=(if i.op=43 then 4 else 2):=by
 rcases ho with ho|ho|ho
 ·have e1:i.op≠28:=by unfold uU at ho;intro he;rw [he] at ho;omega
  have e2:i.op≠43:=by unfold uU at ho;intro he;rw [he] at ho;omega
  obtain ⟨r,hf,hb⟩:=XS h ho;have e:FU i=[BC r i]:=by unfold FU;rw [if_neg e1,if_neg e2,hf]
  rw [e,if_neg e2];refine ⟨?_,λx hx=>(by rw [List.mem_singleton.1 hx];exact hb.lt),rfl⟩;rw [List.singleton_append];unfold KD;dsimp only;rw [if_neg hb.bl,if_neg hb.mov,hb.op,hf];dsimp only;rw [hb.read];exact if_pos ⟨rfl,h⟩
 ·obtain ⟨a,b,ha,hb,rfl⟩:=zH h ho;have e:FU ⟨28,a,0,b,0,0⟩=[SZ a b]:=rfl;have hc:=jR c28 ha hb;simp only [bCb,Bool.and_eq_true,decide_eq_true_eq] at hc;obtain ⟨⟨⟨⟨h1,h2⟩,h3⟩,h4⟩,h5⟩:=hc;rw [e];refine ⟨?_,λx hx=>(by rw [List.mem_singleton.1 hx];exact h1),rfl⟩;rw [List.singleton_append];unfold KD;dsimp only;have em:LX (SZ a b)=⟨28,a,0,b,0,0⟩:=by unfold LX;rw [h4,h5]
  rw [if_neg h2,if_pos h3,em,if_pos h];rfl
 ·have e:FU i=blN i.imm:=by unfold FU;rw [if_neg (by omega),if_pos ho]
  have hs:(if i.imm < 0 then 1 else 0:Nat) < 2:=by split<;>omega
  have b1:KG i.imm 23 < 2:=by unfold KG;omega
  have b2:KG i.imm 22 < 2:=by unfold KG;omega
  have g1:=jR cHi hs (b:=((i.imm / 4096) % 1024).toNat) (by omega);have g2:=oG (jR cLo (VB b1 hs) (VB b2 hs)) (k:=((i.imm / 2) % 2048).toNat) (by omega);simp only [Bool.and_eq_true,decide_eq_true_eq] at g1 g2;rw [e,if_pos ho];refine ⟨?_,λx hx=>?_,rfl⟩
  ·show KD (_::_::l)=some 2;unfold KD;dsimp only;rw [if_pos g1.1];rw [if_pos g2.1]
  ·unfold blN at hx;rcases List.mem_cons.1 hx with rfl|hx
   ·exact g1.2
   ·rw [List.mem_singleton.1 hx];exact g2.2
def yZ (l:List gN):List Nat:=l.flatMap FU
def yV (op:Int):Prop:=uU op\/op=28\/op=43
theorem bBr {i:gN} (h:i.okT):yV i.op:=by
 unfold yV uU;rcases h with ⟨h,_⟩|⟨h,_⟩|⟨h,_⟩|⟨h,_⟩|⟨h,_⟩|⟨h,_⟩|⟨h,_⟩<;>omega
theorem MA {r u:Int}:∀ k,∀ i∈qF r u k,yV i.op
 | 0,i,h=>by cases h
 | k+1,i,h=>by
  unfold qF at h;rw [List.mem_append] at h;rcases h with h|h
  ·rcases List.mem_cons.1 h with rfl|h
   ·exact .inl (.inl rfl)
   ·split at h
    ·rw [List.mem_singleton] at h;subst h;exact .inl (by unfold uU;dsimp only;omega)
    ·cases h
  ·exact MA k i h
theorem NA {a b:Int}:∀ i∈oR f a b,yV i.op:=λi h=>by
 unfold oR at h;rw [List.mem_singleton] at h;subst h;dsimp only;split
 ·exact .inr (.inr rfl)
 ·exact .inl (by unfold uU;omega)
theorem aHf {c:Int} {a b:Int}:∀ i∈mN c f a b,yV i.op:=λi h=>by
 unfold mN at h;have h41:yV 41:=.inl (by unfold uU;omega);split at h
 ·exact NA i h
 ·split at h
  ·rw [List.mem_singleton] at h;subst h;exact h41
  ·rcases List.mem_cons.1 h with rfl|h
   ·exact h41
   ·exact NA i h
theorem XU {l:List cJ} {f:List Nat} (hl:∀ x∈l,x.okI):∀ k,k<=l.length->∀ i∈oU l f k,yV i.op
 | 0,_,i,h=>by cases h
 | k+1,hk,i,h=>by
  have hx:l[k]?=some l[k]:=List.getElem?_eq_getElem (by omega);unfold oU at h;rw [hx,List.mem_append] at h;rcases h with h|h
  ·exact XU hl k (by omega) i h
  ·have ho:l[k].okI:=hl _ (List.getElem_mem (by omega));dsimp only at h;generalize l[k]=x at *;cases x with
   | one j=>rw [List.mem_singleton.1 h];exact bBr ho
   | place q=>cases h
   | jump c q=>exact aHf i h
   | load r n=>
    have h:i∈sJ r n:=h;unfold sJ at h;rcases List.mem_cons.1 h with rfl|h
    ·exact .inl (by unfold uU;dsimp only;omega)
    ·exact MA _ i h
def YD (l:List gN):Prop:=∀ i∈l,bS i=true/\yV i.op
theorem WQ:∀ {l:List gN},YD l->(yZ l).length*2=jP l
 | [],_=>rfl
 | i::l,h=>by
  have ih:=WQ (l:=l) λj hj=>h j (List.mem_cons_of_mem _ hj);obtain ⟨h1,h2⟩:=h i List.mem_cons_self;have:=(UF h1 h2 []).2.2;unfold yZ at *;rw [List.flatMap_cons,List.length_append];show _=jP (i::l);unfold jP gN.size at *;rw [List.map_cons,List.sum_cons];split at this<;>split<;>omega
theorem bDc {l:List gN} (h:YD l):∀ x∈yZ l,x < 65536:=λx hx=>by
 obtain ⟨i,hi,hx⟩:=List.mem_flatMap.1 hx;obtain ⟨h1,h2⟩:=h i hi;exact (UF h1 h2 []).2.1 x hx
inductive vQ:List Nat->Prop where
 | nil:vQ []
 | cons {l:List Nat} {n:Nat} (h:KD l=some n) (h1:1<=n) (h2:n<=l.length) (t:vQ (l.drop n)):vQ l
theorem HM:∀ {l:List gN},YD l->vQ (yZ l)
 | [],_=>.nil
 | i::l,h=>by
  have ih:=HM (l:=l) λj hj=>h j (List.mem_cons_of_mem _ hj);obtain ⟨h1,h2⟩:=h i List.mem_cons_self;obtain ⟨g1,-,g3⟩:=UF h1 h2 (yZ l);have e:yZ (i::l)=FU i++yZ l:=by unfold yZ;rw [List.flatMap_cons]
  rw [e];refine .cons g1 (by split at g3<;>omega) (by rw [List.length_append];omega) ?_;rw [List.drop_left];exact ih
theorem HX {l:List cJ} {f:List Nat} (hl:tR l) (hr:∀ k,k < l.length->iV l f k=true):YD (oU l f l.length):=λi hi=>⟨EZ hl hr _ (Nat.le_refl _) i hi,XU hl.ok _ (Nat.le_refl _) i hi⟩
theorem ND {l:List cJ} {f:List Nat} (hl:tR l) (h:AA l f) (hr:∀ k,k < l.length->iV l f k=true):vQ (yZ (oU l f l.length))/\(∀ x∈yZ (oU l f l.length),x < 65536)/\(yZ (oU l f l.length)).length*2=sQ l f l.length/\(yZ (oU l f l.length)).length*2<=oC l:=by
 have hg:=HX hl hr;have h1:=WQ hg;have h2:=HW h l.length (Nat.le_refl _);have h3:=h.at_top hl l.length;exact ⟨HM hg,bDc hg,by omega,by omega⟩
theorem uW (h:a < 65536):(BitVec.ofInt 16 (a:Int)).toNat=a:=by rw [BitVec.toNat_ofInt];omega
theorem IH (h:a < 65536):IntKind.u16.wrap (a:Int)=a:=by
 have e:((a:Int) % (2 ^ 16:Int))=a:=by omega
 unfold IntKind.wrap;simp only [show IntKind.u16.bits=16 from rfl,show IntKind.u16.signed=false from rfl,e,Bool.false_and,Bool.false_eq_true,if_false]
theorem bKy {b:Nat} (ha:a < 65536) (hb:b < 65536):IntKind.u16.wrap (((BitVec.ofInt 16 (a:Int) ||| BitVec.ofInt 16 (b:Int)).toNat:Nat):Int)=((a ||| b:Nat):Int):=by
 rw [BitVec.toNat_or,uW ha,uW hb];exact IH (Nat.or_lt_two_pow (n:=16) ha hb)
theorem bAm {b:Nat} (ha:a < 65536) (hb:b < 65536):IntKind.u16.wrap (((BitVec.ofInt 16 (a:Int) &&& BitVec.ofInt 16 (b:Int)).toNat:Nat):Int)=((a &&& b:Nat):Int):=by
 rw [BitVec.toNat_and,uW ha,uW hb];exact IH (Nat.lt_of_le_of_lt Nat.and_le_left ha)
theorem aIy {b:Nat} (ha:a < 65536) (hb:b < 65536):IntKind.u16.wrap (((BitVec.ofInt 16 (a:Int) &&& ~~~ BitVec.ofInt 16 (b:Int)).toNat:Nat):Int)=((a &&& (65535 - b):Nat):Int):=by
 rw [BitVec.toNat_and,BitVec.toNat_not,uW ha,uW hb];exact IH (Nat.lt_of_le_of_lt Nat.and_le_left ha)
theorem aEp {s:Nat} (h:a*2 ^ s < 65536) (hs:s<=16):IntKind.u16.wrap ((a:Int)*2 ^ (min s 16))=((a <<< s:Nat):Int):=by
 rw [Nat.min_eq_left hs,Nat.shiftLeft_eq];have:=IH h
 push_cast at this
 push_cast
 exact this
theorem aZp {s:Nat} (hs:s<=16):(a:Int).fdiv (2 ^ (min s 16))=((a >>> s:Nat):Int):=by
 rw [Nat.min_eq_left hs,Nat.shiftRight_eq_div_pow,Int.fdiv_eq_ediv_of_nonneg _ (Int.le_of_lt (Int.pow_pos (by decide)))];rw [Int.natCast_ediv,Int.natCast_pow];rfl
theorem aGr {b:Nat} (hb:b<=32):IntKind.i64.wrap (((BitVec.ofInt 64 n &&& BitVec.ofInt 64 ((2 ^ b - 1:Nat):Int)).toNat:Nat):Int)=n % ((2 ^ b:Nat):Int):=by
 have hp:(2:Nat) ^ b<=4294967296:=Nat.pow_le_pow_right (n:=2) (by decide) hb;have h0:0 < (2:Nat) ^ b:=Nat.pow_pos (by decide);have e1:(BitVec.ofInt 64 ((2 ^ b - 1:Nat):Int)).toNat=2 ^ b - 1:=by rw [BitVec.toNat_ofInt];omega
 rw [BitVec.toNat_and,e1,Nat.and_two_pow_sub_one_eq_mod,BitVec.toNat_ofInt]
 have e2:(((n % ((2 ^ 64:Nat):Int)).toNat % 2 ^ b:Nat):Int)=n % ((2 ^ b:Nat):Int):=by
  have h1:0<=n % ((2 ^ 64:Nat):Int):=Int.emod_nonneg _ (by decide);rw [Int.natCast_emod,Int.toNat_of_nonneg h1];refine Int.emod_emod_of_dvd _ ?_;exact Int.natCast_dvd_natCast.2 (Nat.pow_dvd_pow 2 (by omega))
 rw [e2];have h2:0<=n % ((2 ^ b:Nat):Int):=Int.emod_nonneg _ (by omega);have h3:n % ((2 ^ b:Nat):Int) < ((2 ^ b:Nat):Int):=Int.emod_lt_of_pos _ (by omega);exact aM (by omega)
end Go.Proofs.YtjcmcfidblhnnaaGreatDoor
