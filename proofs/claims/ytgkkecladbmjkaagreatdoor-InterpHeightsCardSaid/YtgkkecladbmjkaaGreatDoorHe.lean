/- The maker of applets: numbers. -/
import Derived.Test.YtgkkecladbmjkaaGreatDoorHd
import Derived.Laws.RangeString
set_option maxHeartbeats 4000000
namespace Go.Vc
theorem aEi {P:Program} {w:Ω} {K:O->Ω->Prop} {t:TypeId} {parts:Array (Nat × O)} {v:O} (h:∀ w,(Instr.build t parts).run P w=.ok v w) (hk:K v w):V P (Instr.build t parts) w K:=V.ok (h w) hk
end Go.Vc
namespace Go.Proofs.YtgkkecladbmjkaaGreatDoor
open Tryz
open Go.Vc Go.Tc
variable {w:Ω} {K:O->Ω->Prop}
variable {d k lo n:Nat} {wb:Ω}
def rQ (d k:Nat):Prop:=∀ {c:Mc} {wb w:Ω} {lo n:Nat} {K:O->Ω->Prop},Mk c wb w lo n d->n+k<=800000->(∀ w',Mk c wb w' 0 (n+k) d->K (.tuple #[]) w')->aD prog 180 #[.pointer (some ⟨c.g,0,none⟩)] w K
def tS (d k:Nat):Prop:=∀ {c:Mc} {wb w:Ω} {lo n:Nat} {K:O->Ω->Prop},Mk c wb w lo n d->n+k<=800000->(∀ w',Mk c wb w' 0 (n+k) d->K (.tuple #[]) w')->aD prog 181 #[.pointer (some ⟨c.g,0,none⟩)] w K
theorem kV (hp:rQ d k) (hk2:2<=k) {c:Mc} (h:Mk c wb w lo n d) (hn:n+k+1<=800000) (hk:∀ w',Mk c wb w' 0 (n+k+1) d->K (.tuple #[]) w') :
  aD prog 179 #[.pointer (some ⟨c.g,0,none⟩)] w K:=by
 apply aIj;unfold HD;refine fX h (by omega) λz w1 h1 _=>?_;refine dM (by decide) (by decide) λq hq0 hq1=>?_;refine aF.2 (aL (λhe=>?_) λhe=>?_)
 ·exact hp h1 (by omega) λw2 h2=>hk _ (h2.up (by omega))
 ·refine fX h1 (by omega) λz w2 h2 _=>?_;refine dM (by decide) (by decide) λq hq0 hq1=>?_;exact dH h2 (by omega) λw3 h3=>hk _ (h3.up (by omega))
theorem VP {c:Mc} {i:Int} (h:Mk c wb w lo n d) (h0:0<=i) (h1:i < 12) (hk:∀ z,K (i64 z) w) :
  V prog (Instr.indexAt 301 (.pointer (some ⟨2,0,none⟩)) (i64 i)) w λp w1=>V prog (Instr.loadAt 3 p) w1 K:=by
 refine V.ok (aSx underlying301 gP h0 (by simpa using h1)) ?_;obtain ⟨op,hop⟩:=h.o.bins _ h.fr i.toNat (by omega);exact V.ok (UM (by rw [Nat.zero_add];exact hop)) (hk _)
theorem vH (h20:20<=k) (hd:d<=3) (hs:d < 3->∃ k',rQ (d+1) k'/\tS (d+1) k'/\20<=k'/\k=3*k'+20):rQ d k:=by
 intro c wb w lo n K h hn hk;apply aIh;unfold HC;refine ⟨.inl ⟨_,rfl⟩,ldD h (bT.2 ?_)⟩;rw [aX (by omega),cS];refine ⟨.inl ⟨_,rfl⟩,stD h λw1 h1=>?_⟩;refine fX h1 (by omega) λz0 w2 hh0 _=>?_;refine dM (by decide) (by decide) λq hq0 hq1=>?_;refine ⟨λv w'=>∃ z,v=i64 z/\w'=w2/\0<=z/\z < 12/\(d=3->z < 3),?_,?_⟩
 ·refine ⟨.inl ⟨_,rfl⟩,ldD hh0 (cX.2 (aL (λhg=>?_) λhg=>?_))⟩
  ·refine rm (by decide) λe he h1 h2=>⟨e,rfl,rfl,?_,by omega,λ_=>by omega⟩;rw [he];exact Int.tmod_nonneg _ hq0
  ·exact ⟨q,rfl,rfl,hq0,hq1,λ_=>by omega⟩
 rintro _ _ ⟨z,rfl,rfl,hz0,hz1,hleaf⟩ _;refine ⟨λw'=>Mk c wb w' 0 (n+k) (d+1),?_,?_⟩
 case refine_2=>
  intro w3 h3 _;refine ⟨.inl ⟨_,rfl⟩,ldD h3 (iJ.2 ?_)⟩;rw [aX (by omega),show ((d+1:Nat):Int) - 1=((d:Nat):Int) by omega];exact ⟨.inl ⟨_,rfl⟩,stD h3 λw4 h4=>hk _ h4⟩
 have hc:z=0\/z=1\/z=2\/z=3\/z=4\/z=5\/z=6\/z=7\/z=8\/z=9\/z=10\/z=11:=by omega
 have hdeep:3<=z->∃ k',rQ (d+1) k'/\tS (d+1) k'/\20<=k'/\k=3*k'+20:=λhz=>hs (by omega);rcases hc with rfl|rfl|rfl|rfl|rfl|rfl|rfl|rfl|rfl|rfl|rfl|rfl
 iterate 2
  ·simp only [aW,Int.reduceEq,Int.reduceNeg]
   intros
   refine aEi (v:=.agg (([0,1,2,3,7,-1,64,1073741824]:List Int).map i64).toArray) (λw=>by kernel_rfl) ?_;refine fX hh0 (by omega) λz w1 hh1 _=>?_;refine dM (by decide) (by decide) λq hq0 hq1=>?_;refine aDw underlying300 gP underlying3 (by decide) hq0 (by simpa using hq1) λu hu=>?_;refine dH hh1 (by omega) λw1 hh2=>?_;exact hh2.up (by omega)
 ·simp only [aW,Int.reduceEq,Int.reduceNeg]
  intros
  refine tE hh0 (by omega) λz b w1 hh1=>?_;refine cH.2 (cG.2 ?_);cases b with
  | true=>
   refine aE.2 ?_;refine dH hh1 (by omega) λw1 hh2=>?_;exact hh2.up (by omega)
  | false=>
   refine aA.2 ?_;refine fX hh1 (by omega) λz w1 hh2 _=>?_;refine rm (by decide) λe _ _ _=>?_;refine dH hh2 (by omega) λw1 hh3=>?_;exact hh3.up (by omega)
 ·simp only [aW,Int.reduceEq,Int.reduceNeg]
  intros
  obtain ⟨k2,hpub,hsec,h21,hk3⟩:=hdeep (by decide);refine tE hh0 (by omega) λz b w1 hh1=>?_;refine cH.2 (cG.2 ?_);cases b with
  | true=>
   refine aE.2 ?_;refine dH hh1 (by omega) λw1 hh2=>?_;exact hh2.up (by omega)
  | false=>
   refine aA.2 ?_;refine fX hh1 (by omega) λz w1 hh2 _=>?_;refine rm (by decide) λe _ _ _=>?_;refine dH hh2 (by omega) λw1 hh3=>?_;exact hh3.up (by omega)
 iterate 3
  ·simp only [aW,Int.reduceEq,Int.reduceNeg]
   intros
   obtain ⟨k2,hpub,hsec,h21,hk3⟩:=hdeep (by decide);refine hpub hh0 (by omega) λw1 hh1=>?_;refine hpub hh1 (by omega) λw1 hh2=>?_;refine fX hh2 (by omega) λz w1 hh3 _=>?_;refine dM (by decide) (by decide) λq hq0 hq1=>?_;refine VP hh3 hq0 hq1 λu=>?_;refine dH hh3 (by omega) λw1 hh4=>?_;exact hh4.up (by omega)
 ·simp only [aW,Int.reduceEq,Int.reduceNeg]
  intros
  obtain ⟨k2,hpub,hsec,h21,hk3⟩:=hdeep (by decide);refine fX hh0 (by omega) λz w1 hh1 _=>?_;refine dM (by decide) (by decide) λq hq0 hq1=>?_;refine bT.2 ?_;refine dH hh1 (by omega) λw1 hh2=>?_;refine dH hh2 (by omega) λw1 hh3=>?_;exact hh3.up (by omega)
 ·simp only [aW,Int.reduceEq,Int.reduceNeg]
  intros
  obtain ⟨k2,hpub,hsec,h21,hk3⟩:=hdeep (by decide);refine hpub hh0 (by omega) λw1 hh1=>?_;refine hpub hh1 (by omega) λw1 hh2=>?_;refine aEi (v:=.agg (([17,18]:List Int).map i64).toArray) (λw=>by kernel_rfl) ?_;refine fX hh2 (by omega) λz w1 hh3 _=>?_;refine dM (by decide) (by decide) λq hq0 hq1=>?_;refine aDw underlying302 gP underlying3 (by decide) hq0 (by simpa using hq1) λu hu=>?_;refine dH hh3 (by omega) λw1 hh4=>?_;exact hh4.up (by omega)
 ·simp only [aW,Int.reduceEq,Int.reduceNeg]
  intros
  obtain ⟨k2,hpub,hsec,h21,hk3⟩:=hdeep (by decide);refine rO hh0 (by omega) λw1 hh1=>?_;refine kV hpub (by omega) hh1 (by omega) λw1 hh2=>?_;refine dH hh2 (by omega) λw1 hh3=>?_;exact hh3.up (by omega)
 ·simp only [aW,Int.reduceEq,Int.reduceNeg]
  intros
  obtain ⟨k2,hpub,hsec,h21,hk3⟩:=hdeep (by decide);refine hpub hh0 (by omega) λw1 hh1=>?_;refine aEi (v:=.agg (([15,16,15]:List Int).map i64).toArray) (λw=>by kernel_rfl) ?_;refine fX hh1 (by omega) λz w1 hh2 _=>?_;refine dM (by decide) (by decide) λq hq0 hq1=>?_;refine aDw underlying303 gP underlying3 (by decide) hq0 (by simpa using hq1) λu hu=>?_;refine dH hh2 (by omega) λw1 hh3=>?_;exact hh3.up (by omega)
 ·simp only [aW,Int.reduceEq,Int.reduceNeg]
  intros
  obtain ⟨k2,hpub,hsec,h21,hk3⟩:=hdeep (by decide);refine fX hh0 (by omega) λz w1 hh1 _=>?_;refine dM (by decide) (by decide) λq hq0 hq1=>?_;refine bT.2 ?_;refine rO hh1 (by omega) λw1 hh2=>?_;refine dH hh2 (by omega) λw1 hh3=>?_;exact hh3.up (by omega)
theorem vE (h20:20<=k) (hd:d<=3) (hs:d < 3->∃ k',rQ (d+1) k'/\tS (d+1) k'/\20<=k'/\k=3*k'+20):tS d k:=by
 intro c wb w lo n K h hn hk;apply PX;unfold yL;refine ⟨.inl ⟨_,rfl⟩,ldD h (bT.2 ?_)⟩;rw [aX (by omega),cS];refine ⟨.inl ⟨_,rfl⟩,stD h λw1 h1=>?_⟩;refine fX h1 (by omega) λz0 w2 hh0 _=>?_;refine dM (by decide) (by decide) λq hq0 hq1=>?_;refine ⟨λv w'=>∃ z,v=i64 z/\w'=w2/\0<=z/\z < 9/\(d=3->z < 2),?_,?_⟩
 ·refine ⟨.inl ⟨_,rfl⟩,ldD hh0 (cX.2 (aL (λhg=>?_) λhg=>?_))⟩
  ·refine rm (by decide) λe he h1 h2=>⟨e,rfl,rfl,?_,by omega,λ_=>by omega⟩;rw [he];exact Int.tmod_nonneg _ hq0
  ·exact ⟨q,rfl,rfl,hq0,hq1,λ_=>by omega⟩
 rintro _ _ ⟨z,rfl,rfl,hz0,hz1,hleaf⟩ _;refine ⟨λw'=>Mk c wb w' 0 (n+k) (d+1),?_,?_⟩
 case refine_2=>
  intro w3 h3 _;refine ⟨.inl ⟨_,rfl⟩,ldD h3 (iJ.2 ?_)⟩;rw [aX (by omega),show ((d+1:Nat):Int) - 1=((d:Nat):Int) by omega];exact ⟨.inl ⟨_,rfl⟩,stD h3 λw4 h4=>hk _ h4⟩
 have hc:z=0\/z=1\/z=2\/z=3\/z=4\/z=5\/z=6\/z=7\/z=8:=by omega
 have hdeep:2<=z->∃ k',rQ (d+1) k'/\tS (d+1) k'/\20<=k'/\k=3*k'+20:=λhz=>hs (by omega);rcases hc with rfl|rfl|rfl|rfl|rfl|rfl|rfl|rfl|rfl
 ·simp only [aW,Int.reduceEq]
  intros
  refine tE hh0 (by omega) λz b w1 hh1=>?_;refine cH.2 (cG.2 ?_);cases b with
  | true=>
   refine aE.2 ?_;refine dH hh1 (by omega) λw1 hh2=>?_;exact hh2.up (by omega)
  | false=>
   refine aA.2 ?_;refine dH hh1 (by omega) λw1 hh2=>?_;exact hh2.up (by omega)
 ·simp only [aW,Int.reduceEq]
  intros
  refine fX hh0 (by omega) λz w1 hh1 _=>?_;refine rm (by decide) λe _ _ _=>?_;refine dH hh1 (by omega) λw1 hh2=>?_;exact hh2.up (by omega)
 iterate 2
  ·simp only [aW,Int.reduceEq]
   intros
   obtain ⟨k2,hpub,hsec,h21,hk3⟩:=hdeep (by decide);refine hsec hh0 (by omega) λw1 hh1=>?_;refine hsec hh1 (by omega) λw1 hh2=>?_;refine fX hh2 (by omega) λz w1 hh3 _=>?_;refine dM (by decide) (by decide) λq hq0 hq1=>?_;refine VP hh3 hq0 hq1 λu=>?_;refine dH hh3 (by omega) λw1 hh4=>?_;exact hh4.up (by omega)
 iterate 2
  ·simp only [aW,Int.reduceEq]
   intros
   obtain ⟨k2,hpub,hsec,h21,hk3⟩:=hdeep (by decide);refine rO hh0 (by omega) λw1 hh1=>?_;refine kV hpub (by omega) hh1 (by omega) λw1 hh2=>?_;refine dH hh2 (by omega) λw1 hh3=>?_;exact hh3.up (by omega)
 ·simp only [aW,Int.reduceEq]
  intros
  obtain ⟨k2,hpub,hsec,h21,hk3⟩:=hdeep (by decide);refine hsec hh0 (by omega) λw1 hh1=>?_;refine hsec hh1 (by omega) λw1 hh2=>?_;refine hsec hh2 (by omega) λw1 hh3=>?_;refine dH hh3 (by omega) λw1 hh4=>?_;exact hh4.up (by omega)
 ·simp only [aW,Int.reduceEq]
  intros
  obtain ⟨k2,hpub,hsec,h21,hk3⟩:=hdeep (by decide);refine rO hh0 (by omega) λw1 hh1=>?_;refine kV hpub (by omega) hh1 (by omega) λw1 hh2=>?_;refine fX hh2 (by omega) λz w1 hh3 _=>?_;refine dM (by decide) (by decide) λq hq0 hq1=>?_;refine bT.2 ?_;refine rO hh3 (by omega) λw1 hh4=>?_;refine kV hpub (by omega) hh4 (by omega) λw1 hh5=>?_;refine kV hpub (by omega) hh5 (by omega) λw1 hh6=>?_;refine dH hh6 (by omega) λw1 hh7=>?_;exact hh7.up (by omega)
 ·simp only [aW,Int.reduceEq]
  intros
  obtain ⟨k2,hpub,hsec,h21,hk3⟩:=hdeep (by decide);refine dH hh0 (by omega) λw1 hh1=>?_;exact hh1.up (by omega)
theorem OC:rQ 3 20/\tS 3 20:=⟨vH (by omega) (by omega) λh=>by omega,vE (by omega) (by omega) λh=>by omega⟩
theorem OD:rQ 2 80/\tS 2 80:=⟨vH (by omega) (by omega) λ_=>⟨20,OC.1,OC.2,by omega,by omega⟩,vE (by omega) (by omega) λ_=>⟨20,OC.1,OC.2,by omega,by omega⟩⟩
theorem OE:rQ 1 260/\tS 1 260:=⟨vH (by omega) (by omega) λ_=>⟨80,OD.1,OD.2,by omega,by omega⟩,vE (by omega) (by omega) λ_=>⟨80,OD.1,OD.2,by omega,by omega⟩⟩
theorem pR:rQ 0 800/\tS 0 800:=⟨vH (by omega) (by omega) λ_=>⟨260,OE.1,OE.2,by omega,by omega⟩,vE (by omega) (by omega) λ_=>⟨260,OE.1,OE.2,by omega,by omega⟩⟩
theorem AU {c:Mc} {k:Int} (h:Mk c wb w lo n 0) (hn:n+800<=800000) (hk:∀ w',Mk c wb w' 0 (n+800) 0->K (.tuple #[]) w') :
  aD prog 131 #[.pointer (some ⟨c.g,0,none⟩),i64 k] w K:=by
 apply QD;unfold yQ;refine aF.2 (aL (λh1=>?_) λh1=>aF.2 (aL (λh2=>?_) λh2=>?_))
 ·exact pR.1 h hn hk
 ·exact pR.2 h hn hk
 ·exact rO h (by omega) λw1 h1=>hk _ (h1.up (by omega))
end Go.Proofs.YtgkkecladbmjkaaGreatDoor
namespace Go.Tc
theorem sU {α:Type} {l:List α} {k:Nat} {x:α}:(l.set k x).length=l.length:=List.length_set
end Go.Tc
namespace Go.Proofs.YtgkkecladbmjkaaGreatDoor
open Tryz
open Go.Vc Go.Tc
variable {w:Ω} {K:O->Ω->Prop}
variable {w' w1 wb:Ω} {d g' k lo n pos:Nat}
def Mc.hold (c:Mc) (b:Nat):Mc:={ c with H:=λk=>c.H k\/k=b }
theorem Mk.stay {c:Mc} {b:Nat} (h:Mk c wb w lo n d) (x:aG w w1) (f:Fr (λk=>¬ (c.hold b).H k) w1 w'):Fr (λk=>¬ c.H k) wb w':=
 (h.fr.trans (Fr.of_ext x) λ_ _ h=>h).trans (f.mono (T:=λk=>¬ c.H k) λ_ hk hH=>hk (.inl hH)) λ_ _ h=>h
theorem Mk.hold {c:Mc} {wb w1:Ω} {lo n d b:Nat} (h:Mk c wb w lo n d) (x:aG w w1) (hb:b=w.heap.size) (hlt:b < w1.heap.size):Mk (c.hold b) w1 w1 lo n d:=by
 have hst:∀ w',Fr (λk=>¬ (c.hold b).H k) w1 w'->Fr (λk=>¬ c.H k) wb w':=λw' f=>h.stay x f;have s1:=h.fr.size;have s2:=x.size;have hgB:=h.o.gB;refine ⟨⟨⟨hgB.1,by show c.B<=_;omega⟩,λk hk=>?_,λw' f=>h.o.nums w' (hst w' f),λw' f=>h.o.loc w' (hst w' f),λw' f=>h.o.bins w' (hst w' f),h.o.ln,h.o.ll⟩,Fr.refl _ _,?_⟩
 ·rcases hk with hk|hk
  ·have:=h.o.hH k hk;exact ⟨by omega,this.2⟩
  ·subst hk;refine ⟨hlt,?_⟩;show k≠c.g;omega
 ·obtain ⟨cv,code,pos,a1,a2,a3,a4,a5,a6,a7⟩:=h.at_;refine ⟨cv,code,pos,a1.ext x,x.own a2,a3,a4,a5,a6,λk hk hH=>?_⟩;rcases hH with hH|hH
  ·exact a7 k hk hH
  ·have:=(a2.lt k hk).2;omega
theorem Mk.back {c:Mc} {lo' n' d' b:Nat} (h:Mk c wb w lo n d) (x:aG w w1) (h':Mk (c.hold b) w1 w' lo' n' d'):Mk c wb w' lo' n' d':=by
 obtain ⟨o,fr,cv,code,pos,a1,a2,a3,a4,a5,a6,a7⟩:=h';exact ⟨h.o,h.stay x fr,cv,code,pos,a1,a2,a3,a4,a5,a6,λk hk hH=>a7 k hk (.inl hH)⟩
theorem NN {l:List fO} {x:fO} (h:l[k]?=some x):(hU l)[k*3+1]?=some (i64 x.a):=by
 have:=oR h
 have e:((hU l).drop (k*3))[1]?=some (i64 x.a):=by
  rw [<- List.take_append_drop 3 ((hU l).drop (k*3)),this];rfl
 rwa [List.getElem?_drop] at e
theorem AC:∀ {l:List fO} {k:Nat} {x:fO} {z:Int},l[k]?=some x->(hU l).set (k*3+1) (i64 z)=hU (l.set k ⟨x.op,z,x.b⟩)
 | [],_,_,_,h=>by simp at h
 | y::l,0,x,z,h=>by simp at h;subst h;simp [hU]
 | y::l,k+1,x,z,h=>by
  have:=AC (l:=l) (k:=k) (z:=z) (by simpa using h);simp only [hU,List.flatMap_cons,List.set_cons_succ] at this ⊢;rw [show (k+1)*3+1=k*3+1+3 by omega];simpa using this
structure Code (c:Mc) (wb w:Ω) (lo n d:Nat) (g' cap:Nat) (code:List fO) (pos:Nat):Prop where
 o:Mo c wb
 fr:Fr (λk=>¬ c.H k) wb w
 blk:aY w c.g [.slice (some ⟨g',0,none⟩) code.length cap,c.nv,i64 pos,c.lv,i64 d] 252
 own:w.ownsRow c.B 70 3 (.slice (some ⟨g',0,none⟩) code.length cap) code.length (hU code)
 lo:lo<=code.length
 hi:code.length<=n
 ps:pos<=n
 rg:∀ x∈code,x.rg
 nH:¬ c.H g'
theorem Mk.code {c:Mc} {wb:Ω} {lo n d:Nat} (h:Mk c wb w lo n d) (h1:1<=lo):∃ g' cap code pos,Code c wb w lo n d g' cap code pos:=by
 obtain ⟨o,fr,cv,code,pos,a1,a2,a3,a4,a5,a6,a7⟩:=h;rcases a2.2 with ⟨_,e⟩|⟨g',cap,cur,rfl,_⟩
 ·exact absurd e (by omega)
 ·exact ⟨g',cap,code,pos,o,fr,a1,a2,a3,a4,a5,a6,a7 _ rfl⟩
theorem Code.toMk {c:Mc} {cap:Nat} {code:List fO} (h:Code c wb w lo n d g' cap code pos):Mk c wb w lo n d:=
 ⟨h.o,h.fr,_,code,pos,h.blk,h.own,h.lo,h.hi,h.ps,h.rg,λk hk=>by cases hk;exact h.nH⟩
theorem Code.ext {c:Mc} {wb w':Ω} {lo n d g' cap:Nat} {code:List fO} {pos:Nat} (h:Code c wb w lo n d g' cap code pos) (hx:aG w w'):Code c wb w' lo n d g' cap code pos:=
 ⟨h.o,h.fr.trans (Fr.of_ext hx) λ_ _ h=>h,h.blk.ext hx,hx.own h.own,h.lo,h.hi,h.ps,h.rg,h.nH⟩
theorem aKw {c:Mc} {cap:Nat} {code:List fO} {z:Int} {K':Ω->Prop} (h:Code c wb w lo n d g' cap code pos) (hkl:k < code.length)
  (hk:∀ w' code',code'.length=code.length->Code c wb w' lo n d g' cap code' pos->K' w'):U prog (Instr.storeAt 3 (.pointer (some ⟨g',0+k*3+1,none⟩)) (i64 z)) w λ_ w2=>K' w2:=by
 have hx:code[k]?=some code[k]:=List.getElem?_eq_getElem hkl;obtain ⟨s1,s2⟩:=h.own.stored (k*3+1) (i64 z);have hc:=h.own.cellAt (k*3+1) (by omega);rw [NN hx] at hc;rw [Nat.zero_add];have hgB:=h.o.gB.1;have hgg:c.B<=g':=(h.own.lt g' rfl).1;refine U.ok (kG gP rfl hc (h.own.frozenAt _)) (hk _ (code.set k ⟨code[k].op,z,code[k].b⟩) sU ⟨h.o,h.fr.set h.nH,?_,?_,?_,?_,h.ps,λy hy=>?_,h.nH⟩)
 ·rw [sU];exact h.blk.other (by omega)
 ·rw [sU,<- AC hx];exact s1
 ·rw [sU];exact h.lo
 ·rw [sU];exact h.hi
 ·rcases List.mem_or_eq_of_mem_set hy with hy|rfl
  ·exact h.rg y hy
  ·have:=h.rg code[k] (List.getElem_mem hkl);exact this
theorem aMj {c:Mc} {k a b e:Int} (h:Mk c wb w lo n 0) (hn:n+4000<=700000) {tv mv iv:O} {tl:List Int} {ms:List fV} {is:List yX} (ht:∀ w',Fr (λk=>¬ c.H k) wb w'->aS w' tv tl) (htl:tl.length<=1000000)
  (hm:∀ w',Fr (λk=>¬ c.H k) wb w'->mV w' mv ms) (hi:∀ w',Fr (λk=>¬ c.H k) wb w'->mW w' iv is) (m0:0 < ms.length/\ms.length<=1000) (m4:∀ m∈ms,m.params.length<=4) (i0:is.length<=1000) (i4:∀ x∈is,x.params.length<=4)
  (hk:∀ w',Mk c wb w' 0 (n+4000) 0->K (.tuple #[]) w') :
  aD prog 130 #[.pointer (some ⟨c.g,0,none⟩),.agg #[i64 k,i64 a,i64 b,i64 e],tv,mv,iv] w K:=by
 apply aJx;unfold IM;refine sO λw1 hB1 x1=>?_;have hh0:=h.hold x1 rfl hB1.lt;have fin:∀ {w' lo' n'},Mk (c.hold w.heap.size) w1 w' lo' n' 0->n'<=n+4000->K (.tuple #[]) w':=λhh hle=>hk _ ((h.back x1 hh).up hle);have bx1:∀ {w'},Fr (λk=>¬ (c.hold w.heap.size).H k) w1 w'->fA w' w.heap.size [i64 k,i64 a,i64 b,i64 e]:=λf=>aY.boxed (f.blk hB1 λhn=>hn (.inr rfl));have ht:=λw' f=>ht w' (h.stay (b:=w.heap.size) x1 f);have hm:=λw' f=>hm w' (h.stay (b:=w.heap.size) x1 f);have hi:=λw' f=>hi w' (h.stay (b:=w.heap.size) x1 f);have hll:=hh0.o.ll;have hgc:(c.hold w.heap.size).g=c.g:=rfl;rw [<- hgc];clear hB1;generalize c.hold w.heap.size=c' at *;generalize w.heap.size=rb at *;clear hgc h hk;refine bB (bx1 (Fr.refl _ _)) gW aJ rfl ?_;refine dM (by decide) (by decide) λq hq0 hq1=>?_;have hc:q=0\/q=1\/q=2\/q=3\/q=4\/q=5\/q=6\/q=7\/q=8\/q=9\/q=10\/q=11\/q=12\/q=13\/q=14\/q=15:=by omega
 rcases hc with rfl|rfl|rfl|rfl|rfl|rfl|rfl|rfl|rfl|rfl|rfl|rfl|rfl|rfl|rfl|rfl
 iterate 3
  ·simp only [aW,Int.reduceEq,Int.reduceNeg]
   intros
   have hloc:=hh0.locAt;obtain ⟨cv,code,pos,a1,_⟩:=hh0.at_;refine ⟨.inl ⟨_,rfl⟩,bB (aY.boxed a1) dP aZ rfl (gD aK hloc (aF.2 (aL (λhz=>fin hh0 (by omega)) λhz=>?_)))⟩;have D1:aG w1 w1.drew:=(aG.refl _).drew;have hh1:=hh0.ext D1;have hlocd:=hh1.locAt;have hbx:∀ w',aG w1.drew w'->fA w' c'.g [cv,c'.nv,i64 pos,c'.lv,i64 (0:Nat)]:=λw' hx=>aY.boxed (a1.ext (D1.trans hx));refine aI.mk' (λw'=>aG w1.drew w') (aG.refl _) ?_;refine dU (λw' hx=>(bx1 hh1.fr).ext hx) cT aJ rfl ?_;refine ⟨.inl ⟨_,rfl⟩,dU hbx dP aZ rfl (yY aK hlocd ?_)⟩;refine dM (by omega) (by omega) λr hr0 hr1=>⟨aG.refl _,?_⟩;refine ⟨.inl ⟨_,rfl⟩,bB (hbx _ (aG.refl _)) dP aZ rfl ?_⟩;obtain ⟨r,rfl⟩:∃ r2:Nat,r=r2:=⟨r.toNat,by omega⟩;refine mH aK aJ hlocd (by omega) (by omega) (fB (pV (by omega))) ?_;refine AU hh1 (by omega) λw1 hh2=>?_;refine dH hh2 (by omega) λw1 hh3=>?_;exact fin hh3 (by omega)
 iterate 2
  ·simp only [aW,Int.reduceEq,Int.reduceNeg]
   intros
   refine bB (bx1 hh0.fr) cT aJ rfl ?_;refine dM (by decide) (by decide) λq hq0 hq1=>?_;refine bT.2 ?_;refine rO hh0 (by omega) λw1 hh1=>?_;refine kV pR.1 (by omega) hh1 (by omega) λw1 hh2=>?_;refine iJ.2 ?_;refine AU hh2 (by omega) λw1 hh3=>?_;refine dH hh3 (by omega) λw1 hh4=>?_;exact fin hh4 (by omega)
 ·simp only [aW,Int.reduceEq,Int.reduceNeg]
  intros
  refine bB (bx1 hh0.fr) cT aJ rfl ?_;refine dM (by decide) (by decide) λq hq0 hq1=>?_;refine bT.2 ?_;refine AU hh0 (by omega) λw1 hh1=>?_;refine dH hh1 (by omega) λw1 hh2=>?_;exact fin hh2 (by omega)
 ·simp only [aW,Int.reduceEq,Int.reduceNeg]
  intros
  refine bB (bx1 hh0.fr) cT aJ rfl ?_;refine dM (by decide) (by decide) λq hq0 hq1=>?_;refine bT.2 ?_;refine bB (bx1 hh0.fr) fI aJ rfl ?_;refine dM (by decide) (by decide) λq hq0 hq1=>?_;refine bT.2 ?_;refine ⟨λv w'=>(∃ z,v=i64 z)/\w'=w1,?_,?_⟩
  ·exact aF.2 (aL (λ_=>⟨⟨_,rfl⟩,rfl⟩) λ_=>⟨⟨_,rfl⟩,rfl⟩)
  rintro _ _ ⟨⟨z,rfl⟩,rfl⟩ _;refine rO hh0 (by omega) λw1 hh1=>?_;refine kV pR.1 (by omega) hh1 (by omega) λw1 hh2=>?_;refine rO hh2 (by omega) λw1 hh3=>?_;refine kV pR.1 (by omega) hh3 (by omega) λw1 hh4=>?_;refine kV pR.1 (by omega) hh4 (by omega) λw1 hh5=>?_;refine dH hh5 (by omega) λw1 hh6=>?_;exact fin hh6 (by omega)
 iterate 2
  ·simp only [aW,Int.reduceEq,Int.reduceNeg]
   intros
   refine bB (bx1 hh0.fr) cT aJ rfl ?_;refine dM (by decide) (by decide) λq hq0 hq1=>?_;refine bT.2 ?_;refine bT.2 ?_;refine iJ.2 ?_;refine rO hh0 (by omega) λw1 hh1=>?_;refine kV pR.1 (by omega) hh1 (by omega) λw1 hh2=>?_;refine kV pR.1 (by omega) hh2 (by omega) λw1 hh3=>?_;refine dH hh3 (by omega) λw1 hh4=>?_;exact fin hh4 (by omega)
 iterate 2
  ·simp only [aW,Int.reduceEq,Int.reduceNeg]
   intros
   refine pR.1 hh0 (by omega) λw1 hh1=>?_;refine dH hh1 (by omega) λw1 hh2=>?_;refine bB (bx1 hh2.fr) cT aJ rfl ?_;refine dM (by decide) (by decide) λr hr0 hr1=>?_;by_cases hr:r=0
   case neg=>
    simp only [hr,aW];exact fin hh2 (by omega)
   have htv:=ht _ hh2.fr;subst hr;simp only [aW];refine gD aK htv ?_;by_cases hgt:(tl.length:Int) > 0
   case neg=>
    simp only [hgt,aW];exact fin hh2 (by omega)
   simp only [hgt,aW];obtain ⟨g',cap,code,pos,hcd⟩:=hh2.code (Nat.le_refl _);have D1:aG w1 w1.drew:=(aG.refl _).drew;have hcd:=hcd.ext D1;have hlo:=hcd.lo;have hhi:=hcd.hi;have htv:=htv.ext D1;have hbr:=(bx1 hh2.fr).ext D1;refine aI.mk' (λw'=>aG w1.drew w') (aG.refl _) ?_;refine ⟨.inl ⟨_,rfl⟩,dU (λw' hx=>aY.boxed (hcd.blk.ext hx)) bN gM rfl ?_⟩;refine ⟨.inl ⟨_,rfl⟩,dU (λw' hx=>aY.boxed (hcd.blk.ext hx)) bN gM rfl (yY kD (aC.of_own hcd.own) ?_)⟩;refine aB.ok (λw' _=>nC) ?_;rw [aX (by omega)];refine dU (λw' hx=>hbr.ext hx) fI aJ rfl (yY aK htv ?_);refine dM (by omega) (by omega) λr hr0 hr1=>⟨aG.refl _,?_⟩;obtain ⟨r,rfl⟩:∃ r2:Nat,r=r2:=⟨r.toNat,by omega⟩;refine gR aK aJ htv (λ_ h=>h) (by omega) (by omega) (fB (pV (by omega))) ?_;refine aB.ok (λw' _=>eQ underlying71 nL (by omega) (by omega)) ?_;refine aB.ok (λw' _=>FA.ex bC w' _ _) ?_;rw [show ((code.length:Int) - 1).toNat=code.length - 1 by omega];exact aKw hcd (by omega) λw3 code' _ hc'=>fin hc'.toMk (by omega)
 iterate 2
  ·simp only [aW,Int.reduceEq,Int.reduceNeg]
   intros
   refine bB (bx1 hh0.fr) cT aJ rfl ?_;have hms:=hm _ hh0.fr;refine wZ iB hms ?_;refine dM (by omega) (by omega) λr hr0 hr1=>?_;refine ⟨λv w'=>(∃ z:Nat,v=i64 z/\z < ms.length)/\w'=w1,?_,?_⟩
   ·have hr:(∃ z:Nat,i64 r=i64 z/\z < ms.length):=⟨r.toNat,by rw [Int.toNat_of_nonneg hr0],by omega⟩;refine aF.2 ?_;by_cases hz:r=0
    case neg=>
     simp only [hz,aW];exact ⟨hr,by trivial⟩
    simp only [hz,aW];refine bB (bx1 hh0.fr) fI aJ rfl ?_;refine rm (by decide) λe _ _ _=>?_;refine cX.2 ?_;by_cases he:e > 0
    case neg=>
     simp only [he,aW];rw [hz] at hr;exact ⟨hr,by trivial⟩
    simp only [he,aW];refine wZ iB hms (iJ.2 ?_);rw [aX (by omega)];exact ⟨⟨ms.length - 1,by congr 1;omega,by omega⟩,rfl⟩
   rintro _ w9 ⟨⟨t,rfl,htl2⟩,hw9⟩ _;have hw9:=hw9.symm;subst hw9;obtain ⟨m,hmt⟩:=bQ htl2;have hm4:=m4 m (List.mem_of_getElem? hmt);refine ⟨λv w'=>∃ j:Nat,v=i64 j/\j<=m.params.length/\Mk c' w1 w' 0 (n+800*j) 0,λv _=>m.params.length - (RowKit.intOf v).toNat,⟨0,rfl,Nat.zero_le _,hh0.up (by omega)⟩,?_⟩;rintro _ w2 ⟨j,rfl,hj,h2⟩ _;refine pI iB fD aZ (hm _ h2.fr) hmt λrow hrow=>?_;obtain ⟨pv,lv,cv,rfl,hp,_,_⟩:=hrow;refine ⟨pv,rfl,by decide,gD aK hp (aV.2 (aL (λhlt=>?_) λhge=>?_))⟩
   ·refine pI iB fD aZ (hm _ h2.fr) hmt λrow hrow=>?_;obtain ⟨pv,lv,cv,rfl,hp,_,_⟩:=hrow;refine ⟨pv,rfl,by decide,?_⟩;refine mH aK aJ hp (by omega) (by omega) (fB (pV (by omega))) ?_;refine AU h2 (by omega) λw3 h3=>bT.2 ?_;rw [aX (by omega),cS];exact ⟨⟨j+1,rfl,by omega,h3.up (by omega)⟩,by simp only [aU];omega⟩
   ·refine dH h2 (by omega) λw3 h3=>?_;refine pI iB iQ aJ (hm _ h3.fr) hmt λrow hrow=>?_;obtain ⟨pv,lv,cv,rfl,hp,_,_⟩:=hrow;refine ⟨_,rfl,by decide,aT.2 (aL (λhr=>?_) λhr=>?_)⟩
    ·exact dH h3 (by omega) λw4 h4=>fin h4 (by omega)
    ·exact fin h3 (by omega)
 ·simp only [aW,Int.reduceEq,Int.reduceNeg]
  intros
  have his:=hi _ hh0.fr;refine wZ mF his (aF.2 (aL (λhz=>fin hh0 (by omega)) λhz=>?_));refine bB (bx1 hh0.fr) cT aJ rfl ?_;refine wZ mF his ?_;refine dM (by omega) (by omega) λr hr0 hr1=>?_;obtain ⟨t,rfl⟩:∃ r2:Nat,r=r2:=⟨r.toNat,by omega⟩;obtain ⟨m,hmt⟩:=bQ (l:=is) (j:=t) (by omega);have hm4:=i4 m (List.mem_of_getElem? hmt);refine ⟨λv w'=>∃ j:Nat,v=i64 j/\j<=m.params.length/\Mk c' w1 w' 0 (n+800*j) 0,λv _=>m.params.length - (RowKit.intOf v).toNat,⟨0,rfl,Nat.zero_le _,hh0.up (by omega)⟩,?_⟩;rintro _ w2 ⟨j,rfl,hj,h2⟩ _;refine pI mF cJ aZ (hi _ h2.fr) hmt λrow hrow=>?_;obtain ⟨pv,rfl,hp⟩:=hrow;refine ⟨pv,rfl,by decide,gD aK hp (aV.2 (aL (λhlt=>?_) λhge=>?_))⟩
  ·refine pI mF cJ aZ (hi _ h2.fr) hmt λrow hrow=>?_;obtain ⟨pv,rfl,hp⟩:=hrow;refine ⟨pv,rfl,by decide,?_⟩;refine mH aK aJ hp (by omega) (by omega) (fB (pV (by omega))) ?_;refine AU h2 (by omega) λw3 h3=>bT.2 ?_;rw [aX (by omega),cS];exact ⟨⟨j+1,rfl,by omega,h3.up (by omega)⟩,by simp only [aU];omega⟩
  ·refine dH h2 (by omega) λw3 h3=>?_;refine pI mF cU aJ (hi _ h3.fr) hmt λrow hrow=>?_;obtain ⟨pv,rfl,hp⟩:=hrow;refine ⟨_,rfl,by decide,aT.2 (aL (λhr=>?_) λhr=>?_)⟩
   ·exact dH h3 (by omega) λw4 h4=>fin h4 (by omega)
   ·exact fin h3 (by omega)
 ·simp only [aW,Int.reduceEq,Int.reduceNeg]
  intros
  refine pR.1 hh0 (by omega) λw1 hh1=>?_;refine dH hh1 (by omega) λw1 hh2=>?_;refine dH hh2 (by omega) λw1 hh3=>?_;refine dH hh3 (by omega) λw1 hh4=>?_;exact fin hh4 (by omega)
 ·simp only [aW,Int.reduceEq,Int.reduceNeg]
  intros
  refine bB (bx1 hh0.fr) cT aJ rfl ?_;refine rm (by decide) λe _ _ _=>?_;refine dH hh0 (by omega) λw1 hh1=>?_;refine dH hh1 (by omega) λw1 hh2=>?_;exact fin hh2 (by omega)
end Go.Proofs.YtgkkecladbmjkaaGreatDoor
namespace Go.Vc
end Go.Vc
namespace Go.Proofs.YtgkkecladbmjkaaGreatDoor
open Tryz
open Go.Vc Go.Tc
variable {w:Ω} {K:O->Ω->Prop}
variable {L N d i lo n:Nat} {ty:TypeId} {S:Ω->Prop} {wb:Ω}
structure Rw where
 k:Int
 a:Int
 b:Int
 e:Int
def aPt (_:Ω) (row:List O) (x:Rw):Prop:=row=[i64 x.k,i64 x.a,i64 x.b,i64 x.e]
def cY (w:Ω) (v:O) (l:List Rw):Prop:=(∃ a c,v=.slice a l.length c)/\(0 < l.length->dG aPt 4 w v l)
theorem cY.ext {w':Ω} {v:O} {l:List Rw} (h:cY w v l) (hx:aG w w'):cY w' v l:=⟨h.1,λh0=>dG.ext (λh _=>h) (h.2 h0) hx⟩
theorem cY.of {v:O} {l:List Rw} (h:dG aPt 4 w v l):cY w v l:=by
 obtain ⟨cs,h1⟩:=h.sl;exact ⟨h1.shape,λ_=>h⟩
theorem cY.str {v:O} {l:List Rw} {x:Rw} (h:cY w v l) (hi:l[i]?=some x):dG aPt 4 w v l:=h.2 (by have:=(List.getElem?_eq_some_iff.1 hi).1;omega)
theorem lnR {t:TypeId} {v:O} {l:List Rw} (h:XA prog t 4) (hs:cY w v l) (hk:K (i64 l.length) w):V prog (Builtin.len_ #[t] ty #[v]) w K:=by
 obtain ⟨e,z,b,ht,hi⟩:=h;obtain ⟨⟨a,c,rfl⟩,_⟩:=hs;exact V.ok (kS ht) hk
theorem aSf {L:O->Prop} {t:TypeId} {v:O} {l:List Rw} (h:XA prog t 4) (hs:cY w v l) (hk:L (i64 l.length)):aB prog S (Builtin.len_ #[t] ty #[v]) L:=by
 obtain ⟨e,z,b,ht,hi⟩:=h;obtain ⟨⟨a,c,rfl⟩,_⟩:=hs;exact aB.ok (λw' _=>kS ht) hk
theorem ySS {L:O->Prop} {α:Type} {T:Ω->List O->α->Prop} {sz:Nat} {t x:TypeId} {v:O} {l:List α} {e:α} (h:XA prog t sz) (ht:∃ d z by_,Program.underlying prog x=some d/\mP d=true/\cP prog x z sz by_) (hs:dG T sz w v l) (hx:∀ w',S w'->aG w w') (hi:l[i]?=some e) (hT:∀ w row e,T w row e->row.length=sz)
  (hk:∀ row,T w row e->L (.agg row.toArray)):aB prog S (Instr.indexAt t v (i64 i)) λp=>aB prog S (Instr.loadAt x p) L:=by
 obtain ⟨cs,h1,h2⟩:=hs;obtain ⟨row,h3,h4⟩:=h2 i e hi;have hlt:i < l.length:=(List.getElem?_eq_some_iff.1 hi).1;obtain ⟨e',z,b',hte,hinf⟩:=h;obtain ⟨d,z',by_,g2,g3,g4⟩:=ht;obtain ⟨b,off,cap,rfl,hcell⟩:=h1.there (by omega);refine aB.ok (λw' _=>eQ hte hinf (by omega) (by omega)) (aB.ok (λw' hw=>iY (cs:=row) g2 g3 g4 (hT _ _ _ h4) λj hj=>?_) (hk row h4));obtain ⟨u,hu⟩:∃ u,row[j]?=some u:=⟨_,List.getElem?_eq_getElem hj⟩;rw [hu,Nat.add_assoc];refine (hx w' hw).cell (hcell _ u ?_);rw [<- h3,List.getElem?_take,List.getElem?_drop] at hu;split at hu
 ·simpa using hu
 ·cases hu
theorem wI {t:TypeId} {ts:Array TypeId} {a b:Int}:(Builtin.min_ ts t #[i64 a,i64 b]).run prog w=.ok (i64 (min a b)) w:=by
 rcases UL (P:=prog) (w:=w) (t:=t) (ts:=ts) (a:=a) (b:=b) with h|h
 ·rw [h];have:(if a < b then a else b)=min a b:=by split<;>omega
  rw [this]
 ·rw [h];have:(if b < a then b else a)=min a b:=by split<;>omega
  rw [this]
def Cd (c:Mc) (wb w:Ω) (L N d:Nat):Prop:=Mo c wb/\Fr (λk=>¬ c.H k) wb w/\∃ (cv:O) (code:List fO) (pos:Nat),aY w c.g [cv,c.nv,i64 pos,c.lv,i64 d] 252/\w.ownsRow c.B 70 3 cv code.length (hU code)/\code.length=L/\pos<=N/\(∀ x∈code,x.rg)/\∀ k,cv.ownBlock=some k->¬ c.H k
theorem Cd.mk {c:Mc} (h:Cd c wb w L N d) (h1:L<=n) (h2:N<=n):Mk c wb w 0 n d:=by
 obtain ⟨o,fr,cv,code,pos,a1,a2,a3,a4,a5,a6⟩:=h;exact ⟨o,fr,cv,code,pos,a1,a2,Nat.zero_le _,by omega,by omega,a5,a6⟩
theorem Cd.code {c:Mc} {wb:Ω} {L N d:Nat} (h:Cd c wb w L N d) (h1:0 < L):∃ g' cap code pos,code.length=L/\pos<=N/\Code c wb w L (L+N) d g' cap code pos:=by
 obtain ⟨o,fr,cv,code,pos,a1,a2,a3,a4,a5,a6⟩:=h;rcases a2.2 with ⟨_,e⟩|⟨g',cap,cur,rfl,_⟩
 ·exact absurd e (by omega)
 ·exact ⟨g',cap,code,pos,a3,a4,o,fr,a1,a2,by omega,by omega,by omega,a5,a6 _ rfl⟩
theorem Code.cd {c:Mc} {g' cap:Nat} {code:List fO} {pos:Nat} (h:Code c wb w lo n d g' cap code pos) (h1:code.length=L) (h2:pos<=N):Cd c wb w L N d:=
 ⟨h.o,h.fr,_,code,pos,h.blk,h.own,h1,h2,h.rg,λk hk=>by cases hk;exact h.nH⟩
theorem Mk.cd {c:Mc} (h:Mk c wb w lo n d):∃ L,L<=n/\Cd c wb w L n d:=by
 obtain ⟨o,fr,cv,code,pos,a1,a2,a3,a4,a5,a6,a7⟩:=h;exact ⟨_,a4,o,fr,cv,code,pos,a1,a2,rfl,a5,a6,a7⟩
theorem Cd.ext {c:Mc} {wb w':Ω} {L N d:Nat} (h:Cd c wb w L N d) (hx:aG w w'):Cd c wb w' L N d:=by
 obtain ⟨o,fr,cv,code,pos,a1,a2,a3⟩:=h;exact ⟨o,fr.trans (Fr.of_ext hx) λ_ _ h=>h,cv,code,pos,a1.ext hx,hx.own a2,a3⟩
theorem aTh {c:Mc} (h:Cd c wb w L N d) (hk:K (i64 (L:Nat)) w) :
  V prog (Instr.fieldAt 252 (.pointer (some ⟨c.g,0,none⟩)) 0) w λq w1=>V prog (Instr.loadAt 71 q) w1 λv w2=>V prog (Builtin.len_ #[71] ty #[v]) w2 K:=by
 obtain ⟨o,fr,cv,code,pos,a1,a2,rfl,_⟩:=h;exact bB (aY.boxed a1) bN gM rfl (gD kD (aC.of_own a2) hk)
theorem TM {c:Mc} {B:Nat} {v:O} {code:List fO} {K':Ω->Prop} (h:Cd c wb w L N d) (ho:w.ownsRow B 70 3 v code.length (hU code)) (hB:c.B<=B) (hr:∀ x∈code,x.rg) (hv:∀ k,v.ownBlock=some k->¬ c.H k)
  (hk:∀ w',Cd c wb w' code.length N d->K' w'):V prog (Instr.fieldAt 252 (.pointer (some ⟨c.g,0,none⟩)) 0) w λq w1=>U prog (Instr.storeAt 71 q v) w1 λ_ w2=>K' w2:=by
 obtain ⟨o,fr,cv,code0,pos,a1,a2,a3,a4,a5,a6⟩:=h;have hg:¬ c.H c.g:=λhg=>(o.hH _ hg).2 rfl;have hgB:=o.gB.1;refine yV bN tI a1 (n:=5) rfl (by decide) (bU ho) (hk _ ⟨o,fr.set hg,v,code,pos,a1.set 0 _,?_,rfl,a4,hr,hv⟩);exact aP ((Fr.of_set (S:=λi=>i=c.g) rfl).own ho λk hk he=>by have:=(ho.lt k hk).1;omega) hB
end Go.Proofs.YtgkkecladbmjkaaGreatDoor
namespace Go.Vc
theorem apS {P:Program} {w:Ω} {K:O->Ω->Prop} {t e by_ ty:Nat} (h:XE P t e by_) {B:Nat} {v:O} {n:Nat} {xs:List O} (ho:w.ownsRow B e 1 v n xs) {x:O} {m:Nat} {news:List O} (hs:aC w x 1 m news) (h1:news.all cB=true)
  (hb:(n+m)*by_<=140737488355328) (h63:n+m<=maxLen) (hB:B<=w.heap.size)
  (hk:∀ v' w',w'.ownsRow B e 1 v' (n+m) (xs++news)->w.grownBy w' v.ownBlock->(v'.ownBlock=v.ownBlock\/v'.ownBlock=some w.heap.size)->K v' w') :
  V P (Builtin.append_ #[t,t] ty #[v,x]) w K:=by
 obtain ⟨z,ht,hi,hz⟩:=h;exact apG ht hi hz (by omega) ho hs h1 hb h63 hB hk
end Go.Vc
namespace Go.Proofs.YtgkkecladbmjkaaGreatDoor
open Tryz
open Go.Vc Go.Tc
variable {w:Ω} {K:O->Ω->Prop}
theorem aDs {l:List fO} {k:Nat} {x:fO} (h:l[k]?=some x):(hU l)[k*3+0]?=some (i64 x.op):=by
 have:=oR h
 have e:((hU l).drop (k*3))[0]?=some (i64 x.op):=by
  rw [<- List.take_append_drop 3 ((hU l).drop (k*3)),this];rfl
 rwa [List.getElem?_drop] at e
theorem Cd.weak {c:Mc} {wb:Ω} {L N d N':Nat} (h:Cd c wb w L N d) (h2:N<=N'):Cd c wb w L N' d:=by
 obtain ⟨o,fr,cv,code,pos,a1,a2,a3,a4,a5⟩:=h;exact ⟨o,fr,cv,code,pos,a1,a2,a3,by omega,a5⟩
theorem aOz {rv mv iv:O} {rl:List Rw} {row:List O} {m:fV} {ms:List fV} {is:List yX} (hr:cY w rv rl) (hrow:jK w row m) (hm:mV w mv ms) (hi:mW w iv is) (hb:lY w) (rn:rl.length<=5000000000000) (pl:m.params.length<=1000) (ll:m.locals.length<=1000)
  (m0:0 < ms.length/\ms.length<=1000) (m4:∀ m∈ms,m.params.length<=4) (i0:is.length<=1000) (i4:∀ x∈is,x.params.length<=4)
  (hk:∀ v code w',w'.ownsRow w.heap.size 70 3 v code.length (hU code)->(∀ x∈code,x.rg)->code.length<=700000->aG w w'->K v w') :
  aD prog 84 #[rv,.agg row.toArray,mv,iv] w K:=by
 obtain ⟨pv,lv,cv,rfl,hp,hl,hc⟩:=hrow;apply XM;unfold CO;refine bx λb5 w1 hb5 x1=>?_;have hb5:fA w1 b5 [pv,i64 m.result,lv,cv]:=hb5;have D1:aG w1 w1.drew:=(aG.refl _).drew;have x2:=x1.trans D1;refine aI.mk' (λw'=>aG w1.drew w') (aG.refl _) ?_;refine dU (λw' hx=>hb5.ext (D1.trans hx)) fD aZ rfl ?_;refine dU (λw' hx=>hb5.ext (D1.trans hx)) nY aZ rfl ?_;have hb5:=hb5.ext D1;generalize w1.drew=w2 at x2 hb5;clear D1;refine kC bE [] rfl rfl (by simp) rfl λv3 w3 ho3 x3=>⟨x3,?_⟩;refine SQ bE ho3 (hp.ext (x2.trans x3)) (SU _) (by omega) (by unfold maxLen;omega) x3.size λv4 w4 ho4 hg4=>?_;have x4:aG w2 w4:=x3.grown hg4 λk hk=>(ho3.lt k hk).1;refine ⟨x4,SQ bE ho4 (hl.ext (x2.trans x4)) (SU _) (by omega) (by unfold maxLen;omega) x4.size λlv' w5 ho5 hg5=>?_⟩;have x5:aG w2 w5:=x4.grown hg5 λk hk=>(ho4.lt k hk).1;refine ⟨x5,pX WU [(3,lv')] rfl (by simp [bU ho5]) ?_⟩
 have hloc:aS w5 lv' (m.params++m.locals):=by
  have:=aC.of_own ho5;unfold aS;simpa using this
 clear ho3 ho4 ho5 hg4 hg5;refine sO λw6 hB6 x6=>⟨x5.trans x6,?_⟩;have hB6:aY w6 w5.heap.size [bD,bD,i64 ((0:Nat):Int),lv',i64 ((0:Nat):Int)] 252:=hB6;have x25:=x2.trans x5;have hr:=hr.ext x25;have hm:=hm.ext x25;have hi:=hi.ext x25
 have hbins:lY w5:=λj hj=>by
  obtain ⟨n,hn⟩:=hb j hj;exact ⟨n,x25.cell hn⟩
 have hb5:=hb5.ext x5;have hw5:w.heap.size<=w5.heap.size:=x25.size;generalize hgg:w5.heap.size=g at hB6 hw5;clear x1 x3 x4;have hlocl:(m.params++m.locals).length<=1000000:=by simp;omega
 generalize m.params++m.locals=loc at hloc hlocl;refine ⟨λv w'=>∃ (j:Nat) (nv:O) (nums:List Int),v=i64 j/\j<=rl.length/\nums.length=3*j/\aG w5 w'/\aY w' g [bD,nv,i64 ((0:Nat):Int),lv',i64 ((0:Nat):Int)] 252/\w'.ownsRow (g+1) 3 1 nv nums.length (nums.map i64),λv _=>rl.length - (RowKit.intOf v).toNat,⟨0,bD,[],rfl,Nat.zero_le _,rfl,x6,hB6,World.ownsRow_nil _ _ _ _⟩,?_⟩;rintro _ wB ⟨j,nv,nums,rfl,hj,hnl,xB,hBB,hoB⟩ _;have hlt5:=hBB.lt;refine lnR oN (hr.ext xB) (aV.2 (aL (λhlt=>?_) λhge=>?_))
 ·obtain ⟨x,hx⟩:=bQ (l:=rl) (j:=j) (by omega);have D2:aG wB wB.drew:=(aG.refl _).drew;have xd:=xB.trans D2;have hBd:=hBB.ext D2;have hod:=D2.own hoB;refine aI.mk' (λw'=>aG w5 w'/\aY w' g [bD,nv,i64 ((0:Nat):Int),lv',i64 ((0:Nat):Int)] 252) ⟨xd,hBd⟩ ?_;refine ⟨.inl ⟨_,rfl⟩,dU (λw' hw=>aY.boxed hw.2) dQ aZ rfl ?_⟩;refine ySF oN cT aJ (hr.str hx) (λw' hw=>hw.1) hx λrow hrow=>⟨i64 x.a,by rw [hrow];rfl,by decide,?_⟩;refine ySF oN fI aJ (hr.str hx) (λw' hw=>hw.1) hx λrow hrow=>⟨i64 x.b,by rw [hrow];rfl,by decide,?_⟩;refine ySF oN gV aJ (hr.str hx) (λw' hw=>hw.1) hx λrow hrow=>⟨i64 x.e,by rw [hrow];rfl,by decide,?_⟩;refine kC bE [i64 x.a,i64 x.b,i64 x.e] rfl rfl (by simp) rfl λv7 w7 ho7 x7=>⟨⟨xd.trans x7,hBd.ext x7⟩,?_⟩;have hs7:=hBd.lt;have hs8:=x7.size;refine SQ bE (x7.own hod) (aC.of_own ho7) rfl (by omega) (by unfold maxLen;omega) (by omega) λv8 w8 ho8 hg8=>?_;have hlo:∀ k,nv.ownBlock=some k->g+1<=k:=λk hk=>(hod.lt k hk).1;have x8:aG w5 w8:=(xd.trans x7).grown hg8 λk hk=>by have:=hlo k hk;omega
  have hB8:aY w8 g _ _:=(Fr.of_grown (S:=λk=>nv.ownBlock=some k) hg8 λk hk=>hk).blk (hBd.ext x7) λhk=>by have:=hlo _ hk;omega
  refine ⟨⟨x8,hB8⟩,⟨.inl ⟨_,rfl⟩,aB.ok (λw' hw=>FA.ex dQ w' _ _) ?_⟩⟩;refine sT iI hB8 (n:=5) rfl (by decide) (bU ho8) (bT.2 ?_);rw [aX (by omega),cS];refine ⟨⟨j+1,v8,nums++[x.a,x.b,x.e],rfl,by omega,by simp;omega,x8.setCell (by omega) _,hB8.set 1 _,?_⟩,by simp only [aU];omega⟩;have:=(Fr.of_set (S:=λi=>i=g) (w:=w8) (b:=g) (o:=1) (v:=v8) rfl).own ho8 λk hk he=>by have:=(ho8.lt k hk).1;omega
  simpa using this
 have hf:∀ {w'},Fr (λk=>k=g\/wB.heap.size<=k) wB w'->aS w' nv nums/\aG w5 w':=λf=>⟨aC.of_own (f.own hoB λk hk hS=>by have:=hoB.lt k hk;omega),f.ext xB λk hS=>by have:=xB.size;omega⟩
 have hMo:∀ (H:Nat->Prop) {w1:Ω},Fr (λk=>k=g\/wB.heap.size<=k) wB w1->(∀ k,k < wB.heap.size->¬ H k->k=g)->(∀ k,H k->k < w1.heap.size/\k≠g)->Mo ⟨H,wB.heap.size,g,nv,lv',nums,loc⟩ w1/\∀ w',Fr (λk=>¬ H k) w1 w'->Fr (λk=>k=g\/wB.heap.size<=k) wB w':=by
  intro H w1 f h1 h2;have tr:∀ w',Fr (λk=>¬ H k) w1 w'->Fr (λk=>k=g\/wB.heap.size<=k) wB w':=λw' f'=>f.trans f' λi hi hn=>.inl (h1 i hi hn);refine ⟨⟨⟨hlt5,f.size⟩,h2,λw' f'=>(hf (tr w' f')).1,λw' f'=>hloc.ext (hf (tr w' f')).2,λw' f' j hj=>?_,?_,hlocl⟩,tr⟩
  ·obtain ⟨n,hn⟩:=hbins j hj;exact ⟨n,(hf (tr w' f')).2.cell hn⟩
  ·show nums.length<=_;omega
 refine ⟨λtv v w'=>∃ (j:Nat) (tl:List Int) (cv:O) (code:List fO) (pos:Nat),v=i64 j/\j<=rl.length/\j<=12/\tl.length=j/\Fr (λk=>k=g\/wB.heap.size<=k) wB w'/\aY w' g [cv,nv,i64 (pos:Nat),lv',i64 ((0:Nat):Int)] 252/\w'.ownsRow wB.heap.size 70 3 cv code.length (hU code)/\code.length<=4100*j/\pos<=4100*j/\(∀ x∈code,x.rg)/\w'.ownsRow wB.heap.size 3 1 tv tl.length (tl.map i64)/\∀ k,cv.ownBlock=some k->tv.ownBlock≠some k,
  λ_ v _=>12 - (RowKit.intOf v).toNat,⟨0,[],bD,[],0,rfl,Nat.zero_le _,Nat.zero_le _,rfl,Fr.refl _ _,hBB,World.ownsRow_nil _ _ _ _,Nat.le_refl _,Nat.le_refl _,λ_ h=>by simp at h,World.ownsRow_nil _ _ _ _,λk hk=>by cases hk⟩,?_⟩
 rintro tv _ w9 ⟨j,tl,cv,code,pos,rfl,hj,hj12,htl,fr,hB9,ho9,hc9,hp9,hrg,hot,hne⟩ _;have hs9:=fr.size;have hng:∀ k,tv.ownBlock=some k->wB.heap.size<=k:=λk hk=>(hot.lt k hk).1
 have grow:∀ {K':O->Ω->Prop},(∀ tv' w',Fr (λk=>k=g\/wB.heap.size<=k) wB w'->aY w' g [cv,nv,i64 (pos:Nat),lv',i64 ((0:Nat):Int)] 252->w'.ownsRow wB.heap.size 70 3 cv code.length (hU code)->w'.ownsRow wB.heap.size 3 1 tv' (tl++[(code.length:Int)]).length ((tl++[(code.length:Int)]).map i64)->(∀ k,cv.ownBlock=some k->tv'.ownBlock≠some k)->K' tv' w') ->
   Go.Vc.aM (.pointer (some ⟨g,0,none⟩))/\V prog (Instr.fieldAt 252 (.pointer (some ⟨g,0,none⟩)) 0) w9 λt75 w29=>V prog (Instr.loadAt 71 t75) w29 λt76 w30=>V prog (Builtin.len_ #[71] 3 #[t76]) w30 λt77 w31=>V prog (Instr.buildSlice 42 1 #[(0,t77)]) w31 λt78 w32=>V prog (Builtin.append_ #[42,42] 42 #[tv,t78]) w32 K':=by
  intro K' hK;refine ⟨.inl ⟨_,rfl⟩,bB (aY.boxed hB9) bN gM rfl (gD kD (aC.of_own ho9) ?_)⟩;refine kC bE [i64 (code.length:Nat)] rfl rfl (by simp) rfl λv7 w7 ho7 x7=>?_;have hs7:=x7.size;refine apS bE (x7.own hot) (aC.of_own ho7) rfl (by omega) (by unfold maxLen;omega) (by omega) λv8 w8 ho8 hg8 hl8=>?_;have f8:Fr (λk=>tv.ownBlock=some k) w9 w8:=(Fr.of_ext x7).trans (Fr.of_grown hg8 λk hk=>hk) λ_ _ h=>h;refine hK v8 w8 (fr.trans f8 λi _ hi=>.inr (hng i hi)) (f8.blk hB9 λhk=>by have:=hng _ hk;omega) (f8.own ho9 λk hk hk'=>hne k hk hk') (by simpa using ho8) λk hk hk'=>?_;rcases hl8 with h8|h8
  ·rw [h8] at hk';exact hne k hk hk'
  ·rw [h8] at hk';cases hk';have:=(ho9.lt _ hk).2;omega
 have hold:∀ {tv':O} {w':Ω} {L N:Nat},code.length=L->pos<=N->Fr (λk=>k=g\/wB.heap.size<=k) wB w'->aY w' g [cv,nv,i64 (pos:Nat),lv',i64 ((0:Nat):Int)] 252->w'.ownsRow wB.heap.size 70 3 cv code.length (hU code)->w'.ownsRow wB.heap.size 3 1 tv' (tl++[(code.length:Int)]).length ((tl++[(code.length:Int)]).map i64)->(∀ k,cv.ownBlock=some k->tv'.ownBlock≠some k) ->
   ∃ H:Nat->Prop,Cd ⟨H,wB.heap.size,g,nv,lv',nums,loc⟩ w' w' L N 0/\(∀ w2,Fr (λk=>¬ H k) w' w2->Fr (λk=>k=g\/wB.heap.size<=k) wB w2/\w2.ownsRow wB.heap.size 3 1 tv' (tl++[(code.length:Int)]).length ((tl++[(code.length:Int)]).map i64))/\(∀ k,tv'.ownBlock=some k->H k):=by
  intro tv' w' L N hL hN f' hB' ho' ho2' hne';have hs:=f'.size;have hcv:∀ k,cv.ownBlock=some k->wB.heap.size<=k:=λk hk=>(ho'.lt k hk).1;have htv:∀ k,tv'.ownBlock=some k->k < w'.heap.size/\k≠g/\cv.ownBlock≠some k:=λk hk=>⟨(ho2'.lt k hk).2,by have:=(ho2'.lt k hk).1;omega,λhc=>hne' k hc hk⟩
  obtain ⟨mo,tr⟩:=hMo (λk=>k < w'.heap.size/\k≠g/\cv.ownBlock≠some k) f' (λk hk hH=>by
   apply Classical.byContradiction;intro hkg;exact hH ⟨by omega,hkg,λhc=>by have:=hcv k hc;omega⟩) (λk hk=>⟨hk.1,hk.2.1⟩)
  exact ⟨_,⟨mo,Fr.refl _ _,cv,code,pos,hB',ho',hL,hN,hrg,λk hk hH=>hH.2.2 hk⟩,λw2 f2=>⟨tr w2 f2,f2.own ho2' λk hk hH=>hH (htv k hk)⟩,htv⟩
 refine lnR oN (hr.ext (hf fr).2) (aV.2 ?_);by_cases c0:(j:Int) < (rl.length:Int)/\(j:Int) < 12/\(code.length:Int) < 70
 case pos=>
  obtain ⟨c1,c2,c3⟩:=c0;simp only [c1,c2,aW];refine ⟨.inl ⟨_,rfl⟩,bB (aY.boxed hB9) bN gM rfl (gD kD (aC.of_own ho9) (aV.2 ?_))⟩;simp only [c3,aW];refine grow λtv' w3 f3 hB3 ho3 ho4 hne3=>?_;obtain ⟨H,hcd,hst,htH⟩:=hold rfl (Nat.le_refl _) f3 hB3 ho3 ho4 hne3;have D3:aG w3 w3.drew:=(aG.refl _).drew;obtain ⟨x,hx⟩:=bQ (l:=rl) (j:=j) (by omega);obtain ⟨uv,urun,usl⟩:=uD underlying42 gP (aC.of_own ho4) (lo:=none) (hi':=some (.int .i64 (j:Int))) (a:=0) (b:=j) (.inl ⟨rfl,rfl⟩) (.inr rfl) (by omega) (by simp;omega);refine aI.mk' (λw'=>aG w3 w') D3 ?_;refine ySS oN aNv ((hr.ext (hf f3).2).str hx) (λ_ h=>h) hx (λ_ row e h=>by rw [h];rfl) λrow hrow=>?_;have hrow:row=[i64 x.k,i64 x.a,i64 x.b,i64 x.e]:=hrow;subst hrow;refine aB.ok (λw' _=>urun _) ?_;have mk3:=(hcd.mk (n:=4100*j) hc9 hp9).ext D3;refine aMj (tl:=tl) (ms:=ms) (is:=is) mk3 (by omega) (λw' f=>?_) (by omega) (λw' f=>hm.ext (hf (hst w' f).1).2) (λw' f=>hi.ext (hf (hst w' f).1).2) m0 m4 i0 i4 λw4 h4=>bT.2 ?_
  ·have:=usl w' (aC.of_own (hst w' f).2);unfold aS;rw [htl];simpa [<- htl] using this
  ·rw [aX (by omega),cS];obtain ⟨_,f4,cv4,code4,pos4,b1,b2,b3,b4,b5,b6,b7⟩:=h4;obtain ⟨f5,ho5⟩:=hst _ f4;exact ⟨⟨j+1,tl++[(code.length:Int)],cv4,code4,pos4,rfl,by omega,by omega,by simp [htl],f5,b1,b2,by omega,by omega,b6,ho5,λk hk hk'=>b7 k hk (htH k hk')⟩,by simp only [aU];omega⟩
 have c5:¬ ((j:Int) < (rl.length:Int))\/((j:Int) < (rl.length:Int)/\¬ ((j:Int) < 12))\/((j:Int) < (rl.length:Int)/\(j:Int) < 12/\¬ ((code.length:Int) < 70)):=by omega
 clear c0;rcases c5 with c1|⟨c1,c2⟩|⟨c1,c2,c3⟩
 case' neg.inl=>simp only [c1,aW]
 case' neg.inr.inl=>simp only [c1,c2,aW]
 case' neg.inr.inr=>
  simp only [c1,c2,aW];refine ⟨.inl ⟨_,rfl⟩,bB (aY.boxed hB9) bN gM rfl (gD kD (aC.of_own ho9) (aV.2 ?_))⟩;simp only [c3,aW]
 all_goals
  refine grow λtv' w3 f3 hB3 ho3 ho4 hne3=>?_;obtain ⟨H,hcd,hst,htH⟩:=hold (N:=4100*j) rfl hp9 f3 hB3 ho3 ho4 hne3;have htl':(tl++[(code.length:Int)]).length=j+1:=by simp [htl]
  clear hold grow;generalize tl++[(code.length:Int)]=tl' at *;clear hB9 ho9 hrg hot hne fr hng hs9 hB3 ho3 hne3 f3 hp9 htl;generalize code.length=L at *
  have fin:∀ {w' L N},Cd ⟨H,wB.heap.size,g,nv,lv',nums,loc⟩ w3 w' L N 0->L<=700000->Go.Vc.aM (.pointer (some ⟨g,0,none⟩))/\V prog (Instr.fieldAt 252 (.pointer (some ⟨g,0,none⟩)) 0) w' λt w=>V prog (Instr.loadAt 71 t) w K:=by
   intro w' L N hc hL;obtain ⟨_,f,cv,code,pos,b1,b2,b3,b4,b5,b6⟩:=hc;have hx:=(hf (hst _ f).1).2;have:=xB.size;exact ⟨.inl ⟨_,rfl⟩,bB (aY.boxed b1) (by first|exact cL|exact dT|exact bZ|exact dK|exact dS|exact cE|exact eI|exact cC|exact eW|exact dR|exact cK|exact eG|exact dJ|exact eF|exact bO|exact bX|exact cD|exact cV|exact bJ|exact dI|exact eE|exact eC|exact bW|exact eB|exact dD|exact cJ|exact cU|exact eA|exact cI|exact bN) (by first|exact dY|exact fH|exact jC|exact gK|exact dF|exact cM|exact eU|exact gJ|exact iU|exact eY|exact aJ|exact lH|exact mU|exact aZ|exact jY|exact fS|exact rL|exact uK|exact tG|exact gM) rfl (hk _ code w' (aP b2 (show w.heap.size<=wB.heap.size by omega)) b5 (by omega) (x25.trans hx))⟩
  have hmt:∀ {w'},Fr (λk=>¬ H k) w3 w'->fA w' b5 [pv,i64 m.result,lv,_]:=λf=>hb5.ext (hf (hst _ f).1).2;refine ⟨λv w'=>∃ k:Nat,v=i64 k/\k<=L/\Cd ⟨H,wB.heap.size,g,nv,lv',nums,loc⟩ w3 w' L (4100*j) 0,λv _=>L - (RowKit.intOf v).toNat,⟨0,rfl,Nat.zero_le _,hcd⟩,?_⟩;clear hcd;rintro _ w10 ⟨k,rfl,hkL,hcd⟩ _;refine ⟨.inl ⟨_,rfl⟩,aTh hcd (aV.2 (aL (λhlt=>?_) λhge2=>?_))⟩
  ·obtain ⟨g',cap,code',pos',hcl,hpp,hC⟩:=hcd.code (by omega);obtain ⟨x,hx⟩:=bQ (l:=code') (j:=k) (by omega);have hsl:=aC.of_own hC.own
   have nxt:∀ {w'},Cd ⟨H,wB.heap.size,g,nv,lv',nums,loc⟩ w3 w' L (4100*j) 0->V prog (binOp .add 3 (i64 k) (i64 1)) w' λt w2=>(∃ k:Nat,t=i64 k/\k<=L/\Cd ⟨H,wB.heap.size,g,nv,lv',nums,loc⟩ w3 w2 L (4100*j) 0)/\L - (RowKit.intOf t).toNat < L - (RowKit.intOf (i64 (k:Int))).toNat:=by
    intro w' hc';refine mR (by omega) ?_;exact ⟨⟨k+1,rfl,by omega,hc'⟩,by simp only [aU];omega⟩
   refine ⟨.inl ⟨_,rfl⟩,bB (aY.boxed hC.blk) (by first|exact cL|exact dT|exact bZ|exact dK|exact dS|exact cE|exact eI|exact cC|exact eW|exact dR|exact cK|exact eG|exact dJ|exact eF|exact bO|exact bX|exact cD|exact cV|exact bJ|exact dI|exact eE|exact eC|exact bW|exact eB|exact dD|exact cJ|exact cU|exact eA|exact cI|exact bN) (by first|exact dY|exact fH|exact jC|exact gK|exact dF|exact cM|exact eU|exact gJ|exact iU|exact eY|exact aJ|exact lH|exact mU|exact aZ|exact jY|exact fS|exact rL|exact uK|exact tG|exact gM) rfl ?_⟩;refine aNq kD bV (by first|exact dY|exact fH|exact jC|exact gK|exact dF|exact cM|exact eU|exact gJ|exact iU|exact eY|exact aJ) hsl (by omega) (by omega) (aDs hx) (aF.2 ?_);by_cases h24:x.op=24
   case neg=>simp only [h24,aW];exact nxt hcd
   simp only [h24,aW];refine ⟨.inl ⟨_,rfl⟩,bB (aY.boxed hC.blk) (by first|exact cL|exact dT|exact bZ|exact dK|exact dS|exact cE|exact eI|exact cC|exact eW|exact dR|exact cK|exact eG|exact dJ|exact eF|exact bO|exact bX|exact cD|exact cV|exact bJ|exact dI|exact eE|exact eC|exact bW|exact eB|exact dD|exact cJ|exact cU|exact eA|exact cI|exact bN) (by first|exact dY|exact fH|exact jC|exact gK|exact dF|exact cM|exact eU|exact gJ|exact iU|exact eY|exact aJ|exact lH|exact mU|exact aZ|exact jY|exact fS|exact rL|exact uK|exact tG|exact gM) rfl ?_⟩;refine aNq kD bC (by first|exact dY|exact fH|exact jC|exact gK|exact dF|exact cM|exact eU|exact gJ|exact iU|exact eY|exact aJ) hsl (by omega) (by omega) (NN hx) (aV.2 ?_);by_cases ha0:x.a < 0
   case neg=>simp only [ha0,aW];exact nxt hcd
   simp only [ha0,aW];refine ⟨λv w'=>∃ q:Nat,v=i64 q/\q < tl'.length/\w'=w10,λv _=>tl'.length - (RowKit.intOf v).toNat,⟨0,rfl,by omega,rfl⟩,?_⟩;rintro _ w11 ⟨q,rfl,hq,hw⟩ _;have hw:=hw.symm;subst hw;have hot:=aC.of_own (hst _ hC.fr).2;refine gD aK hot (iJ.2 ?_);rw [aX (by omega)];refine aV.2 ?_;by_cases c0:(q:Int) < (tl'.length:Int) - 1/\bM tl' q<=(k:Int)
   case pos=>
    obtain ⟨c1,c2⟩:=c0;simp only [c1,aW];refine mH aK aJ hot (by omega) (by omega) (fB (pV (by omega))) (FW.2 ?_);simp only [c2,aW];refine mR (by omega) ?_;exact ⟨⟨q+1,rfl,by omega,rfl⟩,by simp only [aU];omega⟩
   have c5:¬ ((q:Int) < (tl'.length:Int) - 1)\/((q:Int) < (tl'.length:Int) - 1/\¬ (bM tl' q<=(k:Int))):=by omega
   clear c0;rcases c5 with c1|⟨c1,c2⟩
   case' neg.inl=>simp only [c1,aW]
   case' neg.inr=>
    simp only [c1,aW];refine mH aK aJ hot (by omega) (by omega) (fB (pV (by omega))) (FW.2 ?_);simp only [c2,aW]
   all_goals
    have D1:aG w10 w10.drew:=(aG.refl _).drew;have hC:=hC.ext D1;have hot:=hot.ext D1;refine aI.mk' (λw'=>aG w10.drew w') (aG.refl _) ?_;refine ⟨.inl ⟨_,rfl⟩,dU (λw' hx=>aY.boxed (hC.blk.ext hx)) (by first|exact cL|exact dT|exact bZ|exact dK|exact dS|exact cE|exact eI|exact cC|exact eW|exact dR|exact cK|exact eG|exact dJ|exact eF|exact bO|exact bX|exact cD|exact cV|exact bJ|exact dI|exact eE|exact eC|exact bW|exact eB|exact dD|exact cJ|exact cU|exact eA|exact cI|exact bN) (by first|exact dY|exact fH|exact jC|exact gK|exact dF|exact cM|exact eU|exact gJ|exact iU|exact eY|exact aJ|exact lH|exact mU|exact aZ|exact jY|exact fS|exact rL|exact uK|exact tG|exact gM) rfl ?_⟩;refine yY aK hot ?_;refine aB.ok (λw' _=>nC) (aB.ok (λw' _=>lG) (aB.ok (λw' _=>wI) ?_));rw [show IntKind.i64.wrap ((tl'.length:Int) - 1)=(tl'.length:Int) - 1 from aX (by omega),show IntKind.i64.wrap ((q:Int)+1)=(q:Int)+1 from aX (by omega)];obtain ⟨r,hr2,hr3⟩:∃ r:Nat,min ((tl'.length:Int) - 1) ((q:Int)+1)=r/\r < tl'.length:=⟨min (tl'.length - 1) (q+1),by omega,by omega⟩
    rw [hr2];refine gR aK aJ hot (λ_ h=>h) (by omega) (by omega) (fB (pV hr3)) ?_;refine aB.ok (λw' _=>eQ underlying71 nL (by omega) (by omega)) ?_;refine aB.ok (λw' _=>FA.ex bC w' _ _) ?_;rw [Int.toNat_natCast];exact aKw hC (by omega) λw12 code2 hl2 hC2=>nxt (hC2.cd (by omega) hpp)
  refine ⟨λw'=>∃ L',L'<=60000/\Cd ⟨H,wB.heap.size,g,nv,lv',nums,loc⟩ w3 w' L' 60000 0,?_,?_⟩
  ·refine bB (hmt hcd.2.1) (by first|exact cL|exact dT|exact bZ|exact dK|exact dS|exact cE|exact eI|exact cC|exact eW|exact dR|exact cK|exact eG|exact dJ|exact eF|exact bO|exact bX|exact cD|exact cV|exact bJ|exact dI|exact eE|exact eC|exact bW|exact eB|exact dD|exact cJ|exact cU|exact eA|exact cI|exact bN|exact dQ|exact fK|exact dP|exact fJ|exact gW|exact cT|exact fI|exact gV|exact dC|exact dB|exact dA|exact iW|exact gU|exact fU|exact fT|exact bI|exact jT|exact jS|exact kH|exact iA|exact cO|exact bK|exact hY|exact kX|exact bV|exact bC|exact nZ|exact fD|exact iQ) (by first|exact dY|exact fH|exact jC|exact gK|exact dF|exact cM|exact eU|exact gJ|exact iU|exact eY|exact aJ) rfl (aT.2 (aL (λhr=>?_) λhr=>⟨L,by omega,hcd.weak (by omega)⟩));refine bB (hmt hcd.2.1) (by first|exact cL|exact dT|exact bZ|exact dK|exact dS|exact cE|exact eI|exact cC|exact eW|exact dR|exact cK|exact eG|exact dJ|exact eF|exact bO|exact bX|exact cD|exact cV|exact bJ|exact dI|exact eE|exact eC|exact bW|exact eB|exact dD|exact cJ|exact cU|exact eA|exact cI|exact bN|exact dQ|exact fK|exact dP|exact fJ|exact gW|exact cT|exact fI|exact gV|exact dC|exact dB|exact dA|exact iW|exact gU|exact fU|exact fT|exact bI|exact jT|exact jS|exact kH|exact iA|exact cO|exact bK|exact hY|exact kX|exact bV|exact bC|exact nZ|exact fD|exact iQ) (by first|exact dY|exact fH|exact jC|exact gK|exact dF|exact cM|exact eU|exact gJ|exact iU|exact eY|exact aJ) rfl ?_
   refine AU (hcd.mk (n:=49200) (by omega) (by omega)) (by omega) λw11 h11=>?_;obtain ⟨L',h1,h2⟩:=h11.cd;exact ⟨L',by omega,h2.weak (by omega)⟩
  rintro w11 ⟨L',hL',hcd'⟩ _;refine dH (hcd'.mk (n:=60000) (by omega) (by omega)) (by omega) λw12 h12=>?_;obtain ⟨L2,hL2,hcd2⟩:=h12.cd;refine ⟨.inl ⟨_,rfl⟩,aTh hcd2 (cX.2 (aL (λhg=>?_) λhg=>fin hcd2 (by omega)))⟩;have hsB:wB.heap.size<=w12.heap.size:=(hst _ hcd2.2.1).1.size;refine bld rM [(0,i64 39)] rfl rfl ?_;refine xT underlying71 nL rfl (by decide) [.agg #[i64 39,i64 0,i64 0]] rfl rfl (by intro v hv;rw [List.mem_singleton] at hv;subst hv;rfl) (by decide) (by decide) λuv w13 ho13 x13=>?_;refine ⟨.inl ⟨_,rfl⟩,TM (code:=[⟨39,0,0⟩]) (hcd2.ext x13) ho13 hsB (by intro x hx;rw [List.mem_singleton] at hx;subst hx;exact ⟨by decide,by decide⟩) (λk hk hH=>?_) λw14 hcd4=>?_⟩
  ·have h1:=(ho13.lt k hk).1;have h2:=(hcd2.1.hH k hH).1;have h3:=hcd2.2.1.size;omega
  refine bB (hmt hcd4.2.1) (by first|exact cL|exact dT|exact bZ|exact dK|exact dS|exact cE|exact eI|exact cC|exact eW|exact dR|exact cK|exact eG|exact dJ|exact eF|exact bO|exact bX|exact cD|exact cV|exact bJ|exact dI|exact eE|exact eC|exact bW|exact eB|exact dD|exact cJ|exact cU|exact eA|exact cI|exact bN|exact dQ|exact fK|exact dP|exact fJ|exact gW|exact cT|exact fI|exact gV|exact dC|exact dB|exact dA|exact iW|exact gU|exact fU|exact fT|exact bI|exact jT|exact jS|exact kH|exact iA|exact cO|exact bK|exact hY|exact kX|exact bV|exact bC|exact nZ|exact fD|exact iQ) (by first|exact dY|exact fH|exact jC|exact gK|exact dF|exact cM|exact eU|exact gJ|exact iU|exact eY|exact aJ) rfl (aT.2 (aL (λhr=>?_) λhr=>fin hcd4 (by simp)));refine bld rM [(0,i64 1)] rfl rfl (bld rM [(0,i64 39)] rfl rfl ?_);have hsB4:wB.heap.size<=w14.heap.size:=(hst _ hcd4.2.1).1.size;refine xT underlying71 nL rfl (by decide) [.agg #[i64 1,i64 0,i64 0],.agg #[i64 39,i64 0,i64 0]] rfl rfl (by intro v hv;simp only [List.mem_cons,List.not_mem_nil,or_false] at hv;rcases hv with rfl|rfl<;>rfl) (by decide) (by decide) λuv5 w15 ho15 x15=>?_
  refine ⟨.inl ⟨_,rfl⟩,TM (code:=[⟨1,0,0⟩,⟨39,0,0⟩]) (hcd4.ext x15) ho15 hsB4 (by intro x hx;simp only [List.mem_cons,List.not_mem_nil,or_false] at hx;rcases hx with rfl|rfl<;>exact ⟨by decide,by decide⟩) (λk hk hH=>?_) λw16 hcd6=>fin hcd6 (by simp)⟩;have h1:=(ho15.lt k hk).1;have h2:=(hcd4.1.hH k hH).1;have h3:=hcd4.2.1.size;omega
end Go.Proofs.YtgkkecladbmjkaaGreatDoor
namespace Go.Vc
section
variable {P:Program} {w:Ω} {K:O->Ω->Prop}
theorem sX (w:Ω) (s:ByteArray) (pos:Nat) (ty:TypeId) (h:pos < s.size) :
  (Instr.next (.pointer (some ⟨w.heap.size,0,none⟩)) true ty).run P (w.iter s pos)=.ok (.tuple #[.bool true,i64 pos,.int .i32 (Utf8.decode s pos).1]) (w.iter s (pos+(Utf8.decode s pos).2)):=by
 simp only [Instr.next,getObj,setObj,Sem.run_bind,Sem.run,World.iter_heap,Result.andThen,h,if_true,World.iter_set];simp [goInt]
theorem AW {a:Array O} {n:Nat} {v:O} (h:a[n]?=some v) (hk:K v w):V P (Instr.extract (.tuple a) n) w K:=V.ok (by simp [Instr.extract,h]) hk
theorem aLa {t:TypeId} (ht:P.underlying t=some .string) {s:ByteArray} {k:Nat} (h:k<=s.size):(Instr.sliceAt t (.string s) (some (i64 k)) none none).run P w=.ok (.string (s.extract k s.size)) w:=by
 simp [Instr.sliceAt,Instr.slice,run_underlying ht,Instr.sliceBounds,Instr.sliceBound,asIntOf,h]
theorem UP {t e n:TypeId} {z:O} {by_ sz:Nat} (ht:P.underlying t=some (.array n e)) (hi:cP P e z sz by_) {b off:Nat} {k:IntKind} {i:Int} (h0:0<=i) (h1:i < n) :
  (Instr.indexAt t (.pointer (some ⟨b,off,none⟩)) (.int k i)).run P w=.ok (.pointer (some ⟨b,off+i.toNat*sz,none⟩)) w:=by
 simp [Instr.indexAt,asIntOf,run_underlying ht,Instr.sureAddr,dN hi,h0,h1,fL]
end
end Go.Vc
namespace Go.Proofs.YtgkkecladbmjkaaGreatDoor
open Tryz
open Go.Vc Go.Tc
variable {w:Ω} {K:O->Ω->Prop}
variable {vs:List ByteArray}
def nmB:List ByteArray:=[⟨#[97,108,112,104,97]⟩,⟨#[98,195,169,116,97]⟩,⟨#[103,45,49]⟩,⟨#[100,46,195,191]⟩]
structure mQ (w:Ω):Prop where
 f:w.cell? ⟨0,195,none⟩=some (.int .u8 2)
 a0:w.cell? ⟨1,0,none⟩=some (.int .u8 128)
 a1:w.cell? ⟨1,1,none⟩=some (.int .u8 191)
theorem mQ.ext {w':Ω} (h:mQ w) (hx:aG w w'):mQ w':=⟨hx.cell h.f,hx.cell h.a0,hx.cell h.a1⟩
def aMg (t:ByteArray) (vs:List ByteArray):Prop:=t.size<=8/\(t.size=0\/(∃ c,t[0]?=some c/\c.toNat < 128/\t.extract 1 t.size∈vs)\/(∃ c,t[0]?=some 195/\t[1]?=some c/\128<=c.toNat/\c.toNat<=191/\t.extract 2 t.size∈vs))
theorem MD {s:ByteArray} (hT:mQ w) (h0:s∈vs) (hvs:∀ t∈vs,aMg t vs) (hk:∀ w',aG w w'->K (.bool true) w'):aD prog 142 #[.string s] w K:=by
 apply aJn;unfold IF;refine ⟨λv w'=>∃ t,t∈vs/\v=.string t/\aG w w',λv _=>match v with|.string s=>s.size|_=>0,⟨s,h0,rfl,aG.refl _⟩,?_⟩;rintro _ w1 ⟨t,ht,rfl,x1⟩ _;obtain ⟨h8,hc⟩:=hvs t ht;refine V.ok (qJ underlying9) (cX.2 ?_);have hsz:∀ {j:Nat} {c:UInt8},t[j]?=some c->j < t.size:=λh=>(getElem?_eq_some_iff.1 h).1;have hex:∀ k,(t.extract k t.size).size=t.size - k:=λk=>by simp
 rcases hc with hz|⟨c,hc0,hlt,hmem⟩|⟨c,hc0,hc1,hlo,hhi,hmem⟩
 ·have:¬ (t.size:Int) > 0:=by omega
  simp only [this,aW];exact hk _ x1
 ·have hs:=hsz hc0;have e1:(t.size:Int) > 0:=by omega
  simp only [e1,aW];refine V.ok (rW underlying9 hc0) (aV.2 ?_);have e2:(c.toNat:Int) < 128:=by omega
  simp only [e2,aW];refine V.ok (aLa (k:=1) underlying9 (by omega)) ?_;refine ⟨λv w'=>v=.string (t.extract 1 t.size)/\w'=w1,V.ok (qJ underlying9) (cX.2 ?_),?_⟩
  ·have e3:¬ ((t.extract 1 t.size).size:Int) > 8:=by rw [hex];omega
   simp only [e3,aW];exact ⟨trivial,trivial⟩
  ·rintro _ _ ⟨rfl,rfl⟩ _;refine ⟨⟨_,hmem,rfl,x1⟩,?_⟩;show (t.extract 1 t.size).size < t.size;rw [hex];omega
 ·have hs0:=hsz hc0;have hs:=hsz hc1;have e1:(t.size:Int) > 0:=by omega
  simp only [e1,aW];refine V.ok (rW underlying9 hc0) (aV.2 ?_);have e2:¬ (((195:UInt8).toNat:Nat):Int) < 128:=by decide
  simp only [e2,aW];have hT1:=hT.ext x1;refine V.ok (UP underlying288 mM (by decide) (by decide)) ?_;refine V.ok (aNb hT1.f) ?_;refine V.ok (v:=.int .u8 2) (w':=w1) (by kernel_rfl) ?_;refine V.ok (v:=i64 2) (w':=w1) (by kernel_rfl) ?_;refine V.ok (v:=.int .u8 0) (w':=w1) (by kernel_rfl) ?_;refine V.ok (UP underlying291 KL (by decide) (by decide)) ?_;obtain ⟨d,z,by_,g1,g2,g3⟩:=aNu;refine V.ok (iY (cs:=[.int .u8 128,.int .u8 191]) g1 g2 g3 rfl λj hj=>?_) ?_
  ·match j,hj with
   | 0,_=>exact hT1.a0
   | 1,_=>exact hT1.a1
  refine asB aMn rfl rfl λb2 w2 hb2 x2=>?_;have hb2:fA w2 b2 [.int .u8 128,.int .u8 191]:=hb2;refine aF.2 ?_;simp only [aW,Int.reduceEq];have D1:aG w2 w2.drew:=(aG.refl _).drew;refine aI.mk' (λw'=>aG w2 w') D1 ?_;refine aB.ok (λw' _=>qJ underlying9) (aB.ok (λw' _=>nE) ?_);have e3:¬ (t.size:Int) < 2:=by omega
  simp only [e3,aW];refine aB.ok (λw' _=>rW underlying9 hc1) ?_;refine dU (λw' hw=>hb2.ext hw) jT uK rfl (aB.ok (λw' _=>nE) ?_);have e4:¬ (c.toNat:Int) < 128:=by omega
  simp only [e4,aW];refine dU (λw' hw=>hb2.ext hw) jS uK rfl ?_;refine aB.ok (λw' _=>rW underlying9 hc1) (aB.ok (λw' _=>nE) ?_);have e5:¬ (191:Int) < (c.toNat:Int):=by omega
  simp only [e5,aW];refine V.ok (aLa (k:=2) underlying9 (by omega)) ?_;refine ⟨⟨_,hmem,rfl,(x1.trans x2).trans D1⟩,?_⟩;show (t.extract 2 t.size).size < t.size;rw [hex];omega
def rnB (c:Nat):Bool:=(97<=c&&c<=122)||(48<=c&&c<=57)||c == 45||c == 46||(224<=c&&c<=255)
theorem zK {c:Nat} (h:rnB c=true):(97<=c/\c<=122)\/(¬ (97<=c)/\48<=c/\c<=57)\/c=45\/c=46\/(224<=c/\c<=255):=by
 simp only [rnB,Bool.or_eq_true,Bool.and_eq_true,decide_eq_true_eq,beq_iff_eq] at h;omega
theorem RV {c:Nat} (h:rnB c=true) (hk:K (.bool true) w):aD prog 242 #[.int .i32 c] w K:=by
 apply aGz;unfold GA;rcases zK h with ⟨h1,h2⟩|⟨h0,h1,h2⟩|rfl|rfl|⟨h1,h2⟩
 ·have a1:(c:Int)>=97:=by omega
  have a2:(c:Int)<=122:=by omega
  simp only [a1,a2,aW];exact hk
 ·have a1:¬ (c:Int)>=97:=by omega
  have a2:(c:Int)>=48:=by omega
  have a3:(c:Int)<=57:=by omega
  simp only [a1,a2,a3,aW];exact hk
 ·simp only [show ((45:Nat):Int)=45 from rfl,aW,Int.reduceGE];exact hk
 ·simp only [show ((46:Nat):Int)=46 from rfl,aW,Int.reduceEq,Int.reduceGE];exact hk
 ·have a1:(c:Int)>=97:=by omega
  have a2:¬ (c:Int)<=122:=by omega
  have a3:(c:Int)>=48:=by omega
  have a4:¬ (c:Int)<=57:=by omega
  have a5:¬ (c:Int)=45:=by omega
  have a6:¬ (c:Int)=46:=by omega
  have a7:(c:Int)>=224:=by omega
  have a8:(c:Int)<=255:=by omega
  simp only [a1,a2,a3,a4,a5,a6,a7,a8,aW];exact hk
def aNo (s:ByteArray) (vs:List ByteArray) (ps:List Nat):Prop:=(s∈vs/\∀ t∈vs,aMg t vs)/\(1<=s.size/\s.size<=16)/\0∈ps/\∀ p∈ps,p < s.size->rnB (Utf8.decode s p).1=true/\p+(Utf8.decode s p).2∈ps/\0 < (Utf8.decode s p).2
theorem VV {s:ByteArray} {ps:List Nat} (hT:mQ w) (h:aNo s vs ps):aD prog 109 #[.string s] w (lL True w):=by
 obtain ⟨⟨h1,h2⟩,⟨h3,h4⟩,h5,h6⟩:=h;apply aKn;suffices key:∀ R:O->Ω->Prop,(∀ w',aG w w'->R (.bool true) w')->yS (.string s) w R from key _ λ_ hx=>lL.yes trivial hx;intro R hR;unfold yS;refine V.ok (qJ underlying9) (aV.2 ?_);have e1:¬ (s.size:Int) < 1:=by omega
 simp only [e1,aW];refine V.ok (qJ underlying9) (cX.2 ?_);have e2:¬ (s.size:Int) > 16:=by omega
 simp only [e2,aW];refine MD hT h1 h2 λw1 x1=>eJ.2 ?_;simp only [aW];refine V.ok (run_range_string _ _ _ underlying9) ?_;refine ⟨λw'=>∃ p∈ps,w'=w1.iter s p,λw'=>mu λq=>∃ p∈ps,w'=w1.iter s p/\s.size - p=q,⟨0,h5,rfl⟩,?_⟩;rintro _ ⟨p0,hp0,rfl⟩ _;obtain ⟨p,hp,hpe,hmu⟩:=BT (p:=λq=>∃ p∈ps,w1.iter s p0=w1.iter s p/\s.size - p=q) ⟨_,p0,hp0,rfl,rfl⟩;rw [hpe];rw [hpe] at hmu;by_cases hlt:p < s.size
 ·obtain ⟨g1,g2,g3⟩:=h6 p hp hlt;refine V.ok (sX _ _ _ _ hlt) (AW (v:=.bool true) rfl (aE.2 (AW (v:=.int .i32 ((Utf8.decode s p).1:Nat)) rfl ?_)))
  have hmu':mu (λq=>∃ p'∈ps,w1.iter s (p+(Utf8.decode s p).2)=w1.iter s p'/\s.size - p'=q) < mu (λq=>∃ p'∈ps,w1.iter s p=w1.iter s p'/\s.size - p'=q):=by
   rw [<- hmu];exact Nat.lt_of_le_of_lt (VH ⟨_,g2,rfl,rfl⟩) (by omega)
  generalize (Utf8.decode s p).2=wd at *;generalize (Utf8.decode s p).1=c at *;rcases zK g1 with ⟨h1,h2⟩|⟨h0,h1,h2⟩|rfl|rfl|⟨h1,h2⟩
  ·have a1:(c:Int)>=97:=by omega
   have a2:(c:Int)<=122:=by omega
   simp only [a1,a2,aW];exact ⟨⟨_,g2,rfl⟩,hmu'⟩
  ·have a1:¬ (c:Int)>=97:=by omega
   have a2:(c:Int)>=48:=by omega
   have a3:(c:Int)<=57:=by omega
   simp only [a1,a2,a3,aW];exact ⟨⟨_,g2,rfl⟩,hmu'⟩
  ·simp only [show ((45:Nat):Int)=45 from rfl,aW,Int.reduceGE];exact ⟨⟨_,g2,rfl⟩,hmu'⟩
  ·simp only [show ((46:Nat):Int)=46 from rfl,aW,Int.reduceEq,Int.reduceGE];exact ⟨⟨_,g2,rfl⟩,hmu'⟩
  ·have a1:(c:Int)>=97:=by omega
   have a2:¬ (c:Int)<=122:=by omega
   have a3:(c:Int)>=48:=by omega
   have a4:¬ (c:Int)<=57:=by omega
   have a5:¬ (c:Int)=45:=by omega
   have a6:¬ (c:Int)=46:=by omega
   have a7:(c:Int)>=224:=by omega
   have a8:(c:Int)<=255:=by omega
   simp only [a1,a2,a3,a4,a5,a6,a7,a8,aW];exact ⟨⟨_,g2,rfl⟩,hmu'⟩
 ·refine V.ok (run_next_end _ _ _ _ hlt) (AW rfl (aA.2 ?_));exact hR _ (x1.trans ((aG.refl _).alloc _))
theorem RW {s:ByteArray} {ps:List Nat} (hT:mQ w) (h:aNo s vs ps) (hne:(s.toList == ({ data:=#[] }:ByteArray).toList)=false):aD prog 224 #[.string s] w (lL True w):=by
 obtain ⟨⟨h1,h2⟩,⟨h3,h4⟩,h5,h6⟩:=h;apply aHd;suffices key:∀ R:O->Ω->Prop,(∀ w',aG w w'->R (.bool true) w')->yB (.string s) w R from key _ λ_ hx=>lL.yes trivial hx;intro R hR;unfold yB;refine V.ok vG ?_;rw [hne];simp only [aW];refine V.ok (qJ underlying9) (cX.2 ?_);have e2:¬ (s.size:Int) > 16:=by omega
 simp only [e2,aW];refine MD hT h1 h2 λw1 x1=>eJ.2 ?_;simp only [aW];refine V.ok (run_range_string _ _ _ underlying9) ?_;refine ⟨λw'=>∃ p∈ps,w'=w1.iter s p,λw'=>mu λq=>∃ p∈ps,w'=w1.iter s p/\s.size - p=q,⟨0,h5,rfl⟩,?_⟩;rintro _ ⟨p0,hp0,rfl⟩ _;obtain ⟨p,hp,hpe,hmu⟩:=BT (p:=λq=>∃ p∈ps,w1.iter s p0=w1.iter s p/\s.size - p=q) ⟨_,p0,hp0,rfl,rfl⟩;rw [hpe];rw [hpe] at hmu;by_cases hlt:p < s.size
 ·obtain ⟨g1,g2,g3⟩:=h6 p hp hlt;refine V.ok (sX _ _ _ _ hlt) (AW (v:=.bool true) rfl (aE.2 (AW (v:=.int .i32 ((Utf8.decode s p).1:Nat)) rfl ?_)));refine RV g1 (eJ.2 (aA.2 ⟨⟨_,g2,rfl⟩,?_⟩));show mu _ < mu _;rw [<- hmu];exact Nat.lt_of_le_of_lt (VH ⟨_,g2,rfl,rfl⟩) (by omega)
 ·refine V.ok (run_next_end _ _ _ _ hlt) (AW rfl (aA.2 ?_));exact hR _ (x1.trans ((aG.refl _).alloc _))
def VJ (t:ByteArray) (vs:List ByteArray):Bool:=vs.any λu=>decide (u.data=t.data)
theorem BU {t:ByteArray} (h:VJ t vs=true):t∈vs:=by
 simp only [VJ,List.any_eq_true,decide_eq_true_eq] at h;obtain ⟨u,hu,he⟩:=h;have:u=t:=ByteArray.ext he;subst this;exact hu
def TK (t:ByteArray) (vs:List ByteArray):Bool:=
 decide (t.size<=8)&&(decide (t.size=0)||(match t[0]? with
  | some c=>(decide (c.toNat < 128)&&VJ (t.extract 1 t.size) vs)||(decide (c=195)&&(match t[1]? with
   | some d=>decide (128<=d.toNat/\d.toNat<=191)&&VJ (t.extract 2 t.size) vs
   | none=>false))
  | none=>false))
theorem TJ {t:ByteArray} (h:TK t vs=true):aMg t vs:=by
 simp only [TK,Bool.and_eq_true,Bool.or_eq_true,decide_eq_true_eq] at h;refine ⟨h.1,?_⟩;rcases h.2 with h2|h2
 ·exact .inl h2
 ·right;cases h0:t[0]? with
  | none=>rw [h0] at h2;cases h2
  | some c=>
   rw [h0] at h2;simp only [Bool.or_eq_true,Bool.and_eq_true,decide_eq_true_eq] at h2;rcases h2 with ⟨a,b⟩|⟨a,b⟩
   ·exact .inl ⟨c,rfl,a,BU b⟩
   ·subst a;cases h1:t[1]? with
    | none=>rw [h1] at b;cases b
    | some d=>
     rw [h1] at b;simp only [Bool.and_eq_true,decide_eq_true_eq] at b;exact .inr ⟨d,rfl,rfl,b.1.1,b.1.2,BU b.2⟩
def VB (s:ByteArray) (vs:List ByteArray) (ps:List Nat):Bool:=
 (VJ s vs&&vs.all λt=>TK t vs)&&decide (1<=s.size/\s.size<=16)&&decide (0∈ps)&&ps.all λp=>!decide (p < s.size)||(rnB (Utf8.decode s p).1&&decide (p+(Utf8.decode s p).2∈ps)&&decide (0 < (Utf8.decode s p).2))
theorem wW {s:ByteArray} {ps:List Nat} (h:VB s vs ps=true):aNo s vs ps:=by
 simp only [VB,Bool.and_eq_true,decide_eq_true_eq,List.all_eq_true] at h;obtain ⟨⟨⟨⟨h1,h2⟩,h3⟩,h4⟩,h5⟩:=h;refine ⟨⟨BU h1,λt ht=>TJ (h2 t ht)⟩,h3,h4,λp hp hlt=>?_⟩;have:=h5 p hp;simp only [hlt,decide_true,Bool.not_true,Bool.false_or,Bool.and_eq_true,decide_eq_true_eq] at this;exact ⟨this.1.1,this.1.2,this.2⟩
theorem uG {s:ByteArray} (h:s∈nmB) (hT:mQ w):sK w s:=by
 have key:∀ {vs:List ByteArray} {ps:List Nat},VB s vs ps=true->(s.toList == ({ data:=#[] }:ByteArray).toList)=false->sK w s:=λh1 h2 w' hx=>⟨VV (hT.ext hx) (wW h1),RW (hT.ext hx) (wW h1) h2,(wW h1).2.1.2⟩;simp only [nmB,List.mem_cons,List.not_mem_nil,or_false] at h;rcases h with rfl|rfl|rfl|rfl
 ·exact key (vs:=[⟨#[97,108,112,104,97]⟩,⟨#[108,112,104,97]⟩,⟨#[112,104,97]⟩,⟨#[104,97]⟩,⟨#[97]⟩,⟨#[]⟩]) (ps:=[0,1,2,3,4,5]) (by kernel_rfl) (by kernel_rfl)
 ·exact key (vs:=[⟨#[98,195,169,116,97]⟩,⟨#[195,169,116,97]⟩,⟨#[116,97]⟩,⟨#[97]⟩,⟨#[]⟩]) (ps:=[0,1,3,4,5]) (by kernel_rfl) (by kernel_rfl)
 ·exact key (vs:=[⟨#[103,45,49]⟩,⟨#[45,49]⟩,⟨#[49]⟩,⟨#[]⟩]) (ps:=[0,1,2,3]) (by kernel_rfl) (by kernel_rfl)
 ·exact key (vs:=[⟨#[100,46,195,191]⟩,⟨#[46,195,191]⟩,⟨#[195,191]⟩,⟨#[]⟩]) (ps:=[0,1,2,4]) (by kernel_rfl) (by kernel_rfl)
theorem uH {n:Int} (hk:∀ s∈nmB,K (.string s) w):aD prog 83 #[i64 n] w K:=by
 apply aQn;unfold OW;refine aEi (v:=.agg (nmB.map Value.string).toArray) (λw=>by kernel_rfl) ?_;refine dM (by decide) (by decide) λq hq0 hq1=>?_;have hc:q=0\/q=1\/q=2\/q=3:=by omega
 rcases hc with rfl|rfl|rfl|rfl
 ·exact V.ok (v:=.string ⟨#[97,108,112,104,97]⟩) (w':=w) (by kernel_rfl) (hk _ (by simp [nmB]))
 ·exact V.ok (v:=.string ⟨#[98,195,169,116,97]⟩) (w':=w) (by kernel_rfl) (hk _ (by simp [nmB]))
 ·exact V.ok (v:=.string ⟨#[103,45,49]⟩) (w':=w) (by kernel_rfl) (hk _ (by simp [nmB]))
 ·exact V.ok (v:=.string ⟨#[100,46,195,191]⟩) (w':=w) (by kernel_rfl) (hk _ (by simp [nmB]))
end Go.Proofs.YtgkkecladbmjkaaGreatDoor
namespace Go.Vc
section
variable {P:Program} {w:Ω} {K:O->Ω->Prop}
theorem aSr {t e sz:Nat} {z:O} {by_:Nat} (ht:P.underlying t=some (.slice e)) (hi:cP P e z sz by_) {v:O} {n:Nat} {cs:List O} (h:aC w v sz n cs) {lo hi':Option O} {a b:Nat} (ha:(lo=none/\a=0)\/lo=some (.int .i64 a)) (hb:(hi'=none/\b=n)\/hi'=some (.int .i64 b)) (hab:a<=b) (hbn:b<=n) :
  ∃ v',(∀ w',(Instr.sliceAt t v lo hi' none).run P w'=.ok v' w')/\∀ w2,aC w2 v sz n cs->aC w2 v' sz (b - a) ((cs.drop (a*sz)).take ((b - a)*sz)):=by
 have hcl:cs.length=n*sz:=h.1;have hmul:(b - a)*sz+a*sz<=n*sz:=by rw [<- Nat.add_mul];exact Nat.mul_le_mul_right _ (by omega)
 rcases h.2 with ⟨rfl,h0⟩|⟨g,off,cap,rfl,h1,h2,_⟩
 ·have ea:a=0:=by omega
  have eb:b=0:=by omega
  subst ea eb;refine ⟨.slice none 0 0,λw'=>?_,λw2 _=>?_⟩
  ·rcases ha with ⟨rfl,_⟩|rfl<;>rcases hb with ⟨rfl,_⟩|rfl<;>simp [Instr.sliceAt,Instr.slice,run_underlying ht,dN hi,Instr.sliceBounds,Instr.sliceBound,asIntOf]
  ·simp;exact aC.nil w2 _
 ·have hb1:(0:Int)<=b/\(b:Int)<=cap:=⟨by omega,by omega⟩;have ha1:(0:Int)<=a/\(a:Int)<=b:=⟨by omega,by omega⟩;have hbc:b<=cap:=by omega
  refine ⟨.slice (if cap=a then some ⟨g,off,none⟩ else (some (⟨g,off,none⟩:Addr)).map (·.add (a*sz))) (b - a) (cap - a),λw'=>?_,λw2 hw2=>?_⟩
  ·rcases ha with ⟨rfl,rfl⟩|rfl<;>rcases hb with ⟨rfl,rfl⟩|rfl<;>simp [Instr.sliceAt,Instr.slice,run_underlying ht,dN hi,Instr.sliceBounds,Instr.sliceBound,asIntOf,hab,hbc]
  ·refine ⟨by rw [List.length_take,List.length_drop];omega,.inr ?_⟩;by_cases hca:cap=a
   ·rw [if_pos hca];have e0:b - a=0:=by omega
    exact ⟨g,off,cap - a,rfl,by omega,by omega,λj u hj=>by rw [e0] at hj;simp at hj⟩
   ·rw [if_neg hca];rcases hw2.2 with ⟨he,_⟩|⟨g',off',cap',he,_,_,h3⟩
    ·cases he
    ·cases he;refine ⟨g,off+a*sz,cap - a,by simp [fL],by omega,by omega,λj u hj=>?_⟩;rw [List.getElem?_take] at hj;split at hj
     ·rw [List.getElem?_drop] at hj;have:=h3 _ _ hj;rw [Nat.add_assoc];exact this
     ·cases hj
end
end Go.Vc
namespace Go.Proofs.YtgkkecladbmjkaaGreatDoor
open Tryz
open Go.Vc Go.Tc
variable {w:Ω} {K:O->Ω->Prop}
variable {g4 gi j sz:Nat} {lv3 mv p1 p2:O} {w':Ω}
theorem dG.part {α:Type} {T:Ω->List O->α->Prop} {t e by_:Nat} {z v:O} {l:List α} (ht:Program.underlying prog t=some (.slice e)) (hi:cP prog e z sz by_) (h:dG T sz w v l) {lo hi':Option O} {a b:Nat} (ha:(lo=none/\a=0)\/lo=some (.int .i64 a)) (hb:(hi'=none/\b=l.length)\/hi'=some (.int .i64 b)) (hab:a<=b) (hbn:b<=l.length) :
  ∃ v',(∀ w',(Instr.sliceAt t v lo hi' none).run prog w'=.ok v' w')/\dG T sz w v' ((l.drop a).take (b - a)):=by
 obtain ⟨cs,h1,h2⟩:=h;obtain ⟨v',hr,hs⟩:=aSr ht hi h1 ha hb hab hbn;refine ⟨v',hr,(cs.drop (a*sz)).take ((b - a)*sz),?_,λk x hk=>?_⟩
 ·have:=hs w h1
  rwa [show ((l.drop a).take (b - a)).length=b - a by simp;omega]
 ·rw [List.getElem?_take] at hk;split at hk
  case isFalse=>cases hk
  rename_i hlt
  rw [List.getElem?_drop] at hk;obtain ⟨row,h3,h4⟩:=h2 (a+k) x hk;refine ⟨row,?_,h4⟩
  have hle:k*sz+sz<=(b - a)*sz:=by
   have:=Nat.mul_le_mul_right sz (show k+1<=b - a by omega);rw [Nat.add_mul,Nat.one_mul] at this;exact this
  have hmin:min sz ((b - a)*sz - k*sz)=sz:=Nat.min_eq_left (by omega);rw [<- h3,List.drop_take,List.drop_drop,List.take_take,Nat.add_mul,hmin]
theorem cY.part {t e by_:Nat} {z v:O} {l:List Rw} (ht:Program.underlying prog t=some (.slice e)) (hi:cP prog e z 4 by_) (h:cY w v l) {lo hi':Option O} {a b:Nat} (ha:(lo=none/\a=0)\/lo=some (.int .i64 a)) (hb:(hi'=none/\b=l.length)\/hi'=some (.int .i64 b)) (hab:a<=b) (hbn:b<=l.length) :
  ∃ v',(∀ w',(Instr.sliceAt t v lo hi' none).run prog w'=.ok v' w')/\cY w v' ((l.drop a).take (b - a)):=by
 by_cases h0:0 < l.length
 ·obtain ⟨v',h1,h2⟩:=dG.part ht hi (h.2 h0) ha hb hab hbn;exact ⟨v',h1,cY.of h2⟩
 ·obtain ⟨⟨a0,c,rfl⟩,_⟩:=h;have el:l=[]:=List.length_eq_zero_iff.1 (by omega);subst el;obtain rfl:a=0:=by simp at hbn;omega
  obtain rfl:b=0:=by simpa using hbn
  refine ⟨.slice (if c=0 then a0 else a0.map (·.add (0*4))) 0 c,λw'=>?_,⟨_,_,rfl⟩,λh=>by simp at h⟩
  rcases ha with ⟨rfl,_⟩|rfl<;>rcases hb with ⟨rfl,_⟩|rfl<;>simp [Instr.sliceAt,Instr.slice,run_underlying ht,dN hi,Instr.sliceBounds,Instr.sliceBound,asIntOf]
theorem QO {t s f o ft n g cap B e:Nat} {ez fz:O} {eb fb:Nat} {xs:List O} {k:Nat} {u:O} {K':Ω->Prop} (_:Program.underlying prog t=some (.slice e)) (_:cP prog e ez sz eb) (_:FA prog s f o) (hft:cP prog ft fz 1 fb)
  (ho:w.ownsRow B e sz (.slice (some ⟨g,0,none⟩) n cap) n xs) (hk:k < n) (hos:o < sz) (hu:cB u=true) (hK:∀ w',w'=w.setCell ⟨g,k*sz+o,none⟩ u->w'.ownsRow B e sz (.slice (some ⟨g,0,none⟩) n cap) n (xs.set (k*sz+o) u)->Fr (λi=>i=g) w w'->K' w') :
  U prog (Instr.storeAt ft (.pointer (some ⟨g,0+k*sz+o,none⟩)) u) w λ_ w2=>K' w2:=by
 have hle:k*sz+sz<=n*sz:=by
  have:=Nat.mul_le_mul_right sz (show k+1<=n by omega);rw [Nat.add_mul,Nat.one_mul] at this;exact this
 obtain ⟨s1,s2⟩:=ho.stored (k*sz+o) u;have hc:=ho.cellAt (k*sz+o) (by omega);have hlt:k*sz+o < xs.length:=by rw [ho.1];omega
 rw [List.getElem?_eq_getElem hlt] at hc;rw [Nat.zero_add];exact U.ok (kG hft hu hc (ho.frozenAt _)) (hK _ rfl s1 (Fr.of_set rfl))
def kB (code:Nat->List fO):List fV:=[⟨[],0,[1,2,3,4],code 0⟩,⟨[1,2],2,[1,2,3,4],code 1⟩,⟨[4,3],3,[1,2],code 2⟩]
def sI (n1 n2:ByteArray):List yX:=[⟨n1,0,[1,2],2⟩,⟨n2,1,[4,3],3⟩]
def OI (lv p1 p2 lv3:O) (c:Nat->O):List O:=[bD,i64 0,lv,c 0,p1,i64 2,lv,c 1,p2,i64 3,lv3,c 2]
theorem CH {lv:O} {c:Nat->O} {code:Nat->List fO} (h:aC w mv 4 3 (OI lv p1 p2 lv3 c)) (hl:aS w lv [1,2,3,4]) (h1:aS w p1 [1,2]) (h2:aS w p2 [4,3]) (h3:aS w lv3 [1,2]) (hc:∀ k,k < 3->nP w (c k) (code k)):mV w mv (kB code):=by
 refine ⟨_,h,λk x hk=>?_⟩
 match k,hk with
 | 0,hk=>cases hk;exact ⟨_,rfl,bD,lv,c 0,rfl,aC.nil _ _,hl,hc 0 (by decide)⟩
 | 1,hk=>cases hk;exact ⟨_,rfl,p1,lv,c 1,rfl,h1,hl,hc 1 (by decide)⟩
 | 2,hk=>cases hk;exact ⟨_,rfl,p2,lv3,c 2,rfl,h2,h3,hc 2 (by decide)⟩
 | k+3,hk=>simp [kB] at hk
theorem WZ {iv q1 q2:O} {n1 n2:ByteArray} (h:aC w iv 4 2 [.string n1,i64 0,q1,i64 2,.string n2,i64 1,q2,i64 3]) (h1:aS w q1 [1,2]) (h2:aS w q2 [4,3]):mW w iv (sI n1 n2):=by
 refine ⟨_,h,λk x hk=>?_⟩
 match k,hk with
 | 0,hk=>cases hk;exact ⟨_,rfl,q1,rfl,h1⟩
 | 1,hk=>cases hk;exact ⟨_,rfl,q2,rfl,h2⟩
 | k+2,hk=>simp [sI] at hk
theorem mO {g:Nat} (h:Chg w g w'):Fr (λk=>k=g) w w':=Fr.of_grown h.grown λk hk=>by cases hk;rfl
structure uZ (g4 gi:Nat) (w:Ω) (v:O) (l:List Int):Prop where
 own:w.ownsRow (g4+1) 3 1 v l.length (l.map i64)
 ne:∀ k,v.ownBlock=some k->k≠gi
theorem uZ.ext {v:O} {l:List Int} (h:uZ g4 gi w v l) (hx:aG w w'):uZ g4 gi w' v l:=⟨hx.own h.own,h.ne⟩
theorem uZ.fr {N:Nat} {v:O} {l:List Int} (h:uZ g4 gi w v l) (f:Fr (λk=>k=gi\/k<=g4\/N<=k) w w') (hN:w.heap.size<=N):uZ g4 gi w' v l:=
 ⟨f.own h.own λk hk hS=>by have:=h.own.lt k hk;have:=h.ne k hk;omega,h.ne⟩
theorem uZ.ints {v:O} {l:List Int} (h:uZ g4 gi w v l):aS w v l:=aC.of_own h.own
theorem uT (n:Int):cB (i64 n)=true:=rfl
theorem qG (s:ByteArray):cB (.string s)=true:=rfl
theorem NG (a:Option Addr) (n c:Nat):cB (.slice a n c)=true:=rfl
theorem AR {code:Nat->List fO} {m:fV} (h:(kB code)[j]?=some m):m.params.length<=4/\m.locals.length<=4:=by
 match j,h with
 | 0,hm=>cases hm;exact ⟨by simp,by simp⟩
 | 1,hm=>cases hm;exact ⟨by simp,by simp⟩
 | 2,hm=>cases hm;exact ⟨by simp,by simp⟩
 | k+3,hm=>simp [kB] at hm
theorem OH {lv v:O} {c:Nat->O} (h:j < 3):(OI lv p1 p2 lv3 c).set (j*4+3) v=OI lv p1 p2 lv3 (λk=>if k=j then v else c k):=by
 match j,h with
 | 0,_=>rfl
 | 1,_=>rfl
 | 2,_=>rfl
theorem OG {lv:O} {c:Nat->O} {code:Nat->List fO} (h:aC w mv 4 3 (OI lv p1 p2 lv3 c)) (hl:aS w lv [1,2,3,4]) (h1:aS w p1 [1,2]) (h2:aS w p2 [4,3]) (h3:aS w lv3 [1,2]) (hc:∀ k,k < 3->nP w (c k) (code k)) :
  aC w mv 4 3 (OI lv p1 p2 lv3 c)/\∀ (k:Nat) (x:fV),(kB code)[k]?=some x->jK w (((OI lv p1 p2 lv3 c).drop (k*4)).take 4) x:=by
 refine ⟨h,λk x hk=>?_⟩
 match k,hk with
 | 0,hk=>cases hk;exact ⟨bD,lv,c 0,rfl,aC.nil _ _,hl,hc 0 (by decide)⟩
 | 1,hk=>cases hk;exact ⟨p1,lv,c 1,rfl,h1,hl,hc 1 (by decide)⟩
 | 2,hk=>cases hk;exact ⟨p2,lv3,c 2,rfl,h2,h3,hc 2 (by decide)⟩
 | k+3,hk=>simp [kB] at hk
theorem aEm {n:Int} {rv:O} {rl:List Rw} (hr:cY w rv rl) (hb:lY w) (hT:mQ w) (rn:rl.length<=5000000000000)
  (hk:∀ p i w',hJ w' p i->kI w' i->i.rg->i.methods.length=3->(∀ m∈i.methods,m.code.length<=700000)->(∀ w'',Fr (λk=>k < w.heap.size) w' w''->mQ w''->hJ w'' p i/\kI w'' i)->(∃ cs:List O,∀ w'',Fr (λk=>k < w.heap.size) w' w''->aC w'' p.mv 4 i.methods.length cs/\∀ (k:Nat) (x:fV),i.methods[k]?=some x->jK w'' ((cs.drop (k*4)).take 4) x)->aG w w'->K (p.val i) w'):aD prog 38 #[i64 n,rv] w K:=by
 apply XR;unfold CY;refine LN iE λw1 hB4 x1=>?_;have hlt4:=hB4.lt;have hg4:w.heap.size<=w.heap.size:=Nat.le_refl _;generalize hgg4:w.heap.size=g4 at hB4 hg4 hlt4;refine kC bE [i64 1,i64 2,i64 3,i64 4] rfl rfl (by simp) rfl λlv w2 hol x2=>?_;refine uH λnm hnm=>?_;refine kC bE [i64 1,i64 2,i64 3,i64 4] rfl rfl (by simp) rfl λfv w3 hof x3=>?_;refine kC bE [i64 1,i64 2] rfl rfl (by simp) rfl λxv w4 hox x4=>?_;have o1:=bU hof;have o2:=bU hox;refine bld WT [(0,.string nm),(1,fv),(4,xv)] rfl (by simp [o1,o2,qG]) ?_;refine zB DY rfl (show ([.string nm,fv,bD,bD,xv]:List O).all cB=true by simp [o1,o2,qG,NG]) λw5 hBi x5=>?_;have hBi:aY w5 w4.heap.size [.string nm,fv,bD,bD,xv] 46:=hBi;have s1:=x1.size;have s2:=x2.size;have s3:=x3.size;have s4:=x4.size;have s5:=x5.size;have R0:∀ {v:O} {l:List Int} {wa wb:Ω},wb.ownsRow wa.heap.size 3 1 v l.length (l.map i64)->w1.heap.size<=wa.heap.size->wb.heap.size<=w4.heap.size->uZ g4 w4.heap.size wb v l:=λho h1 h2=>⟨aP ho (by omega),λk hk=>by have:=(ho.lt k hk).2;omega⟩;have rl5:uZ g4 w4.heap.size w5 lv [1,2,3,4]:=(R0 (l:=[1,2,3,4]) hol (by omega) (by omega)).ext ((x3.trans x4).trans x5);have rf5:uZ g4 w4.heap.size w5 fv [1,2,3,4]:=(R0 (l:=[1,2,3,4]) hof (by omega) (by omega)).ext (x4.trans x5);have rx5:uZ g4 w4.heap.size w5 xv [1,2]:=(R0 (l:=[1,2]) hox (by omega) (by omega)).ext x5
 clear R0 hol hof hox;have x15:=(((x2.trans x3).trans x4).trans x5);have hB4:=hB4.ext x15;have hgi4:g4≠w4.heap.size:=by omega
 have hiw:w4.heap.size < w5.heap.size:=hBi.lt;have hiw0:w.heap.size<=w4.heap.size:=by omega
 have x05:=x1.trans x15;have hr0:=hr;have hr:=hr.ext x05;generalize w4.heap.size=gi at *;have R1:∀ {v:O} {l:List Int} {wa wb:Ω},wb.ownsRow wa.heap.size 3 1 v l.length (l.map i64)->w5.heap.size<=wa.heap.size->uZ g4 gi wb v l:=λho h1=>⟨aP ho (by omega),λk hk=>by have:=(ho.lt k hk).1;omega⟩;refine bT.2 (uH λn1 hn1=>?_);refine kC bE [i64 1,i64 2] rfl rfl (by simp) rfl λq1 w6 hq1 x6=>?_;have s6:=x6.size;have rq1:uZ g4 gi w6 q1 [1,2]:=R1 (l:=[1,2]) hq1 (by omega);have oq1:=bU hq1;refine bld CE [(0,.string n1),(1,i64 0),(2,q1),(3,i64 2)] rfl (by simp [oq1,uT,qG]) ?_;refine bT.2 (lnR oN (hr.ext x6) ?_);refine dM (by decide) (by decide) λ_ _ _=>bT.2 (uH λn2 hn2=>?_);refine kC bE [i64 4,i64 3] rfl rfl (by simp) rfl λq2 w7 hq2 x7=>?_;have s7:=x7.size;have rq2:uZ g4 gi w7 q2 [4,3]:=R1 (l:=[4,3]) hq2 (by omega);have oq2:=bU hq2;refine bld CE [(0,.string n2),(1,i64 1),(2,q2),(3,i64 3)] rfl (by simp [oq2,uT,qG]) ?_;refine xT underlying43 mN rfl (by decide) [.agg #[.string n1,i64 0,q1,i64 2],.agg #[.string n2,i64 1,q2,i64 3]] rfl rfl (by intro v hv;simp only [List.mem_cons,List.not_mem_nil,or_false] at hv;rcases hv with rfl|rfl<;>rfl) (by decide) (by decide) λiv w8 hoi x8=>?_;have s8:=x8.size;have hoi:w8.ownsRow w7.heap.size 180 4 iv 2 [.string n1,i64 0,q1,i64 2,.string n2,i64 1,q2,i64 3]:=hoi
 have x58:=(x6.trans x7).trans x8;refine yV cO EZ (hBi.ext x58) (n:=5) rfl (by decide) (bU hoi) ?_;have hB9:aY (w8.setCell ⟨gi,2,none⟩ iv) gi [.string nm,fv,iv,bD,xv] 46:=(hBi.ext x58).set 2 iv;have f9:Fr (λk=>k=gi\/k<=g4\/w8.heap.size<=k) w8 (w8.setCell ⟨gi,2,none⟩ iv):=Fr.of_set (.inl rfl);have rl9:=(rl5.ext x58).fr f9 (Nat.le_refl _);have rf9:=(rf5.ext x58).fr f9 (Nat.le_refl _);have rx9:=(rx5.ext x58).fr f9 (Nat.le_refl _);have rq19:=(rq1.ext (x7.trans x8)).fr f9 (Nat.le_refl _);have rq29:=(rq2.ext x8).fr f9 (Nat.le_refl _);have hoi9:=f9.own hoi λk hk hS=>by have:=hoi.lt k hk;omega
 have hB49:aY (w8.setCell ⟨gi,2,none⟩ iv) g4 _ _:=(hB4.ext x58).other hgi4;have f59:aG w (w8.setCell ⟨gi,2,none⟩ iv):=(x05.trans x58).setCell hiw0 iv;have xr9:∀ {w'},Fr (λk=>k=gi\/k=g4\/w8.heap.size<=k) (w8.setCell ⟨gi,2,none⟩ iv) w'->aG w w':=λf=>f.ext f59 λk hk=>by omega
 have sz9:(w8.setCell ⟨gi,2,none⟩ iv).heap.size=w8.heap.size:=by simp
 generalize w8.setCell ⟨gi,2,none⟩ iv=w9 at *;have hoi0:=hoi;clear rl5 rf5 rx5 rq1 rq2 hoi hB4 hBi hq1 hq2 f9;have ol:=bU rl9.own;refine bld xU [(2,lv)] rfl (by simp [ol]) ?_;refine kC bE [i64 1,i64 2] rfl rfl (by simp) rfl λp1 w10 hp1 x10=>?_;have s10:=x10.size;have rp1:uZ g4 gi w10 p1 [1,2]:=R1 (l:=[1,2]) hp1 (by omega);have op1:=bU hp1;refine bld xU [(0,p1),(1,i64 2),(2,lv)] rfl (by simp [ol,op1,uT]) ?_;refine kC bE [i64 4,i64 3] rfl rfl (by simp) rfl λp2 w11 hp2 x11=>?_;have s11:=x11.size;have rp2:uZ g4 gi w11 p2 [4,3]:=R1 (l:=[4,3]) hp2 (by omega);have op2:=bU hp2;obtain ⟨lv3,urun,usl⟩:=uD underlying42 gP rl9.ints (lo:=none) (hi':=some (.int .i64 ((2:Nat):Int))) (a:=0) (b:=2) (.inl ⟨rfl,rfl⟩) (.inr rfl) (by decide) (by decide);refine V.ok (urun _) ?_;have ol3:cB lv3=true:=by obtain ⟨a,c,rfl⟩:=(usl _ rl9.ints).shape;rfl
 refine bld xU [(0,p2),(1,i64 3),(2,lv3)] rfl (by simp [ol3,op2,uT]) ?_;refine xT underlying44 lI rfl (by decide) [.agg #[bD,i64 0,lv,bD],.agg #[p1,i64 2,lv,bD],.agg #[p2,i64 3,lv3,bD]] rfl rfl (by intro v hv;simp only [List.mem_cons,List.not_mem_nil,or_false] at hv;rcases hv with rfl|rfl|rfl<;>rfl) (by decide) (by decide) λmv w12 hom x12=>?_;have s12:=x12.size;have hom:w12.ownsRow w11.heap.size 74 4 mv 3 (OI lv p1 p2 lv3 λ_=>bD):=hom
 obtain ⟨gm,cap,rfl⟩:∃ gm cap,mv=.slice (some ⟨gm,0,none⟩) 3 cap:=by
  rcases hom.2 with ⟨_,e⟩|⟨gm,cap,cur,rfl,_⟩
  ·cases e
  ·exact ⟨gm,cap,rfl⟩
 have hgm:=hom.lt gm rfl;have x9b:=x10.trans x11;have x9c:=x9b.trans x12;refine yV bK EY (hB9.ext x9c) (n:=5) rfl (by decide) rfl ?_;have hBC:aY (w12.setCell ⟨gi,3,none⟩ (.slice (some ⟨gm,0,none⟩) 3 cap)) gi [.string nm,fv,iv,.slice (some ⟨gm,0,none⟩) 3 cap,xv] 46:=(hB9.ext x9c).set 3 _;have fC:Fr (λk=>k=gi\/k=g4\/w11.heap.size<=k) w11 (w12.setCell ⟨gi,3,none⟩ (.slice (some ⟨gm,0,none⟩) 3 cap)):=(Fr.of_ext x12).set (.inl rfl);have homC:(w12.setCell ⟨gi,3,none⟩ (.slice (some ⟨gm,0,none⟩) 3 cap)).ownsRow w11.heap.size 74 4 (.slice (some ⟨gm,0,none⟩) 3 cap) 3 (OI lv p1 p2 lv3 λ_=>bD):=(Fr.of_set (S:=λk=>k=gi) rfl).own hom λk hk hS=>by have:=hom.lt k hk;omega
 have hB4C:aY (w12.setCell ⟨gi,3,none⟩ (.slice (some ⟨gm,0,none⟩) 3 cap)) g4 _ _:=(hB49.ext x9c).other hgi4;have szC:(w12.setCell ⟨gi,3,none⟩ (.slice (some ⟨gm,0,none⟩) 3 cap)).heap.size=w12.heap.size:=by simp
 generalize w12.setCell ⟨gi,3,none⟩ (.slice (some ⟨gm,0,none⟩) 3 cap)=wC at *;have hb11:aG w w11:=(aG.refl w).trans (f59.trans x9b);have hr0:∀ {w'},aG w w'->cY w' rv rl:=λhx=>(hr0:cY w rv rl).ext hx
 have hall:∀ {w'},Fr (λk=>k=gi\/k<=g4\/w11.heap.size<=k) w11 w'->aS w' fv [1,2,3,4]/\aS w' xv [1,2]/\aS w' lv [1,2,3,4]/\aS w' p1 [1,2]/\aS w' p2 [4,3]/\aS w' lv3 [1,2]/\mW w' iv (sI n1 n2):=by
  intro w' f;have hN:=Nat.le_refl w11.heap.size;have hl:=((rl9.ext x9b).fr f hN).ints;refine ⟨((rf9.ext x9b).fr f hN).ints,((rx9.ext x9b).fr f hN).ints,hl,((rp1.ext x11).fr f hN).ints,(rp2.fr f hN).ints,usl w' hl,WZ (aC.of_own (f.own (x9b.own hoi9) λk hk hS=>?_)) ((rq19.ext x9b).fr f hN).ints ((rq29.ext x9b).fr f hN).ints⟩;have:=(x9b.own hoi9).lt k hk;omega
 have hallX:∀ {w'},Fr (λk=>k=gi\/k=g4\/w11.heap.size<=k) w11 w'->aG w w':=λf=>f.ext hb11 λk hS=>by omega
 have hS:∀ {w'},Fr (λk=>k=gi\/k=g4\/w11.heap.size<=k) w11 w'->Fr (λk=>k=gi\/k<=g4\/w11.heap.size<=k) w11 w':=λf=>f.mono λk hk=>by omega
 clear rl9 rf9 rx9 rq19 rq29 hoi9 rp1 rp2 hB9 hB49 hom usl urun hp1 hp2;refine lnR oN (hr0 (hallX fC)) ?_;have hgmC:gm < wC.heap.size:=by omega
 refine ⟨λv w'=>∃ (j:Nat) (c:Nat->O) (code:Nat->List fO),v=i64 j/\j<=3/\Fr (λk=>k=gi\/k=g4\/w11.heap.size<=k) w11 w'/\wC.heap.size<=w'.heap.size/\aY w' gi [.string nm,fv,iv,.slice (some ⟨gm,0,none⟩) 3 cap,xv] 46/\aY w' g4 [.string ByteArray.empty,bD,bD,bD,bD] 46/\w'.ownsRow w11.heap.size 74 4 (.slice (some ⟨gm,0,none⟩) 3 cap) 3 (OI lv p1 p2 lv3 c)/\∀ k,w'.ownsRow (gm+1) 70 3 (c k) (code k).length (hU (code k))/\(∀ x∈code k,x.rg)/\(code k).length<=700000,
  λv _=>3 - (RowKit.intOf v).toNat,⟨0,λ_=>bD,λ_=>[],rfl,Nat.zero_le _,fC,Nat.le_refl _,hBC,hB4C,homC,λk=>⟨World.ownsRow_nil _ _ _ _,λ_ h=>by simp at h,Nat.zero_le _⟩⟩,?_⟩
 clear hBC hB4C homC fC;rintro _ wD ⟨j,c,code,rfl,hj,f,hsz,hBi,hB4,hom,hcs⟩ _;obtain ⟨rf,rx,rl',rp1,rp2,rl3,rim⟩:=hall (hS f);have xw:=hallX f;have hms:mV wD (.slice (some ⟨gm,0,none⟩) 3 cap) (kB code):=CH (aC.of_own hom) rl' rp1 rp2 rl3 λk _=>aC.of_own (hcs k).1;refine aV.2 (aL (λhlt=>?_) λhge=>?_)
 ·have hrD:=hr0 xw;have e1:∀ m:Nat,m<=3->V prog (binOp .mul 3 (i64 m) (i64 rl.length)) wD=V prog (binOp .mul 3 (i64 m) (i64 rl.length)) wD:=λ_ _=>rfl
  have e2:∀ m:Nat,m<=3->IntKind.i64.wrap ((m:Int)*(rl.length:Int))=((m*rl.length:Nat):Int):=λm hm=>by
   have:m*rl.length<=3*rl.length:=Nat.mul_le_mul_right _ hm;rw [<- Int.natCast_mul];exact aX (by omega)
  have e3:∀ (m d:Nat),m<=15000000000000->IntKind.i64.wrap (((m:Nat):Int).tdiv ((d:Nat):Int))=((m / d:Nat):Int):=λm d hm=>by
   have h1:((m:Nat):Int).tdiv ((d:Nat):Int)=((m / d:Nat):Int):=by
    rw [Int.tdiv_eq_ediv_of_nonneg (by omega)];rfl
   have h2:m / d<=m:=Nat.div_le_self _ _;rw [h1];clear h1;generalize m / d=q at *;exact aX (by omega)
  have e4:∀ a b:Nat,min ((a:Nat):Int) ((b:Nat):Int)=((min a b:Nat):Int):=λa b=>by omega
  have hj3:j*rl.length<=3*rl.length:=Nat.mul_le_mul_right _ hj;have hj4:(j+1)*rl.length<=3*rl.length:=Nat.mul_le_mul_right _ (by omega);refine OL.2 ?_;rw [e2 j hj];refine (AX (by decide)).2 ?_;rw [show (3:Int)=((3:Nat):Int) from rfl,e3 _ 3 (by omega)];refine V.ok wI (bT.2 ?_);rw [e4,iL (n:=(j:Int)+1) (by omega) (by omega),cS];refine OL.2 ?_;rw [e2 (j+1) (by omega)];refine (AX (by decide)).2 ?_;rw [e3 _ 3 (by omega)];refine V.ok wI ?_;rw [e4];have hd1:j*rl.length / 3<=(j+1)*rl.length / 3:=Nat.div_le_div_right (Nat.mul_le_mul_right _ (by omega));obtain ⟨v1,r1,hs1⟩:=cY.part underlying99 sC hrD (lo:=some (.int .i64 ((min rl.length (j*rl.length / 3):Nat):Int))) (hi':=some (.int .i64 ((min rl.length ((j+1)*rl.length / 3):Nat):Int))) (.inr rfl) (.inr rfl) (by omega) (by omega);refine V.ok (r1 _) ?_;refine ⟨λv w'=>∃ l,cY wD v l/\l.length<=5000000000000/\w'=wD,aF.2 (aL (λhz=>?_) λhz=>⟨_,hs1,by simp;omega,rfl⟩),?_⟩
  ·refine (AX (by decide)).2 ?_;rw [show (2:Int)=((2:Nat):Int) from rfl,e3 _ 2 (by omega)];refine V.ok wI ?_;rw [e4];obtain ⟨v2,r2,hs2⟩:=cY.part underlying99 sC hrD (lo:=none) (hi':=some (.int .i64 ((min rl.length (rl.length / 2):Nat):Int))) (a:=0) (.inl ⟨rfl,rfl⟩) (.inr rfl) (by omega) (by omega);exact V.ok (r2 _) ⟨_,hs2,by simp;omega,rfl⟩
  rintro v3 wD' ⟨l,hl,hll,hwD⟩ _;have hwD:=hwD.symm;subst hwD;have D1:aG wD wD.drew:=(aG.refl _).drew;have hBid:=hBi.ext D1;obtain ⟨m,hm⟩:=bQ (l:=kB code) (j:=j) (by simp [kB];omega);refine aI.mk' (λw'=>aG wD.drew w') (aG.refl _) ?_;refine dU (λw' hx=>aY.boxed (hBid.ext hx)) bK fS rfl ?_;refine dU (λw' hx=>aY.boxed (hBid.ext hx)) bK fS rfl ?_;refine ySS iB nW (hms.ext D1) (λ_ h=>h) hm tD λrow hrow=>?_;refine dU (λw' hx=>aY.boxed (hBid.ext hx)) bK fS rfl ?_;refine dU (λw' hx=>aY.boxed (hBid.ext hx)) cO jY rfl ?_;have xwd:=xw.trans D1;have hmp:=AR hm;refine aOz (hl.ext D1) hrow (hms.ext D1) (rim.ext D1) (λq hq=>?_) hll (by omega) (by omega) ⟨by simp [kB],by simp [kB]⟩ (by simp [kB]) (by simp [sI]) (by simp [sI]) λv4 code4 wE ho4 hrg4 hlen4 xE=>⟨xE,?_⟩
  ·obtain ⟨z,hz⟩:=hb q hq;exact ⟨z,xwd.cell hz⟩
  have x3E:=D1.trans xE;refine aB.ok (λw' _=>eQ underlying44 lI (by omega) (by omega)) ?_;refine aB.ok (λw' _=>FA.ex fZ w' _ _) ?_;rw [Int.toNat_natCast];refine QO underlying44 lI fZ tI (x3E.own hom) (by omega) (by decide) (bU ho4) λwF hwF hoF fF=>bT.2 ?_;rw [aX (by omega),cS];have sE:=x3E.size;have sD:=D1.size;have sF:=fF.size;rw [OH (by omega)] at hoF;refine ⟨⟨j+1,λk=>if k=j then v4 else c k,λk=>if k=j then code4 else code k,rfl,by omega,(f.trans (Fr.of_ext x3E) λ_ _ h=>h).trans fF λk _ hk=>by omega,by omega,fF.blk (hBi.ext x3E) (by omega),fF.blk (hB4.ext x3E) (by omega),hoF,λk=>?_⟩,by simp only [aU];omega⟩;by_cases hkj:k=j
  ·simp only [hkj,if_true];exact ⟨aP (fF.own ho4 λq hq hS=>by have:=(ho4.lt q hq).1;omega) (by omega),hrg4,hlen4⟩
  ·simp only [hkj,if_false];obtain ⟨c1,c2,c3⟩:=hcs k;exact ⟨fF.own (x3E.own c1) λq hq hS=>by have:=(c1.lt q hq).1;omega,c2,c3⟩
 ·refine oY (aY.boxed hBi) jQ rfl ?_;refine DS iE hB4 (l:=[.string nm,fv,iv,.slice (some ⟨gm,0,none⟩) 3 cap,xv]) rfl rfl rfl (by simp [o1,o2,bU hoi0,qG,NG]) λwE hBE hc=>?_;refine ⟨_,rJ underlying46 rfl iE hBE rfl,⟨_,rfl⟩,?_⟩;have fE:Fr (λk=>k=gi\/k=g4\/w11.heap.size<=k) w11 wE:=f.trans ((mO hc).mono λk hk=>.inr (.inl hk)) λ_ _ h=>h;have xw:=hallX fE;have hg4m:g4 < gm:=by omega
  have homE:=(mO hc).own hom λk hk hS=>by have:=(hom.lt k hk).1;omega
  have hcsE:∀ k,wE.ownsRow (gm+1) 70 3 (c k) (code k).length (hU (code k)):=λk=>(mO hc).own (hcs k).1 λq hq hS=>by have:=((hcs k).1.lt q hq).1;omega
  have stay:∀ w'',Fr (λk=>k < g4) wE w''->mQ w''->hJ w'' ⟨fv,iv,.slice (some ⟨gm,0,none⟩) 3 cap,xv⟩ ⟨nm,[1,2,3,4],sI n1 n2,kB code,[1,2]⟩/\kI w'' ⟨nm,[1,2,3,4],sI n1 n2,kB code,[1,2]⟩:=by
   intro w'' f'' hT'';have f3:Fr (λk=>k=gi\/k<=g4\/w11.heap.size<=k) w11 w'':=(hS fE).trans f'' λk _ hk=>by omega
   obtain ⟨rf,rx,rl',rp1,rp2,rl3,rim⟩:=hall f3;refine ⟨⟨rf,rim,CH (aC.of_own (f''.own homE λk hk hS=>by have:=(homE.lt k hk).1;omega)) rl' rp1 rp2 rl3 λk _=>aC.of_own (f''.own (hcsE k) λq hq hS=>by have:=((hcsE k).lt q hq).1;omega),rx⟩,uG hnm hT'',λx hx=>?_⟩;simp only [sI,List.mem_cons,List.not_mem_nil,or_false] at hx;rcases hx with rfl|rfl
   ·exact uG hn1 hT''
   ·exact uG hn2 hT''
  have stayM:∃ cs:List O,∀ w'',Fr (λk=>k < g4) wE w''->aC w'' (.slice (some ⟨gm,0,none⟩) 3 cap) 4 3 cs/\∀ (k:Nat) (x:fV),(kB code)[k]?=some x->jK w'' ((cs.drop (k*4)).take 4) x:=by
   refine ⟨OI lv p1 p2 lv3 c,λw'' f''=>?_⟩;have f3:Fr (λk=>k=gi\/k<=g4\/w11.heap.size<=k) w11 w'':=(hS fE).trans f'' λk _ hk=>by omega
   obtain ⟨rf,rx,rl',rp1,rp2,rl3,rim⟩:=hall f3;exact OG (w:=w'') (aC.of_own (f''.own homE λk hk hS=>by have:=(homE.lt k hk).1;omega)) rl' rp1 rp2 rl3 λk _=>aC.of_own (f''.own (hcsE k) λq hq hS=>by have:=((hcsE k).lt q hq).1;omega)
  have hTE:=hT.ext xw;obtain ⟨hat,hnmE⟩:=stay wE (Fr.refl _ _) hTE;refine hk ⟨fv,iv,.slice (some ⟨gm,0,none⟩) 3 cap,xv⟩ ⟨nm,[1,2,3,4],sI n1 n2,kB code,[1,2]⟩ wE hat hnmE (λm hm x hx=>?_) rfl (λm hm=>?_) (by rw [hgg4];exact stay) (by rw [hgg4];exact stayM) xw
  ·simp only [kB,List.mem_cons,List.not_mem_nil,or_false] at hm;rcases hm with rfl|rfl|rfl
   ·exact (hcs 0).2.1 x hx
   ·exact (hcs 1).2.1 x hx
   ·exact (hcs 2).2.1 x hx
  ·simp only [kB,List.mem_cons,List.not_mem_nil,or_false] at hm;rcases hm with rfl|rfl|rfl
   ·exact (hcs 0).2.2
   ·exact (hcs 1).2.2
   ·exact (hcs 2).2.2
end Go.Proofs.YtgkkecladbmjkaaGreatDoor
namespace Go.Vc
section
variable {P:Program} {w:Ω} {K:O->Ω->Prop}
end
end Go.Vc
namespace Go.Proofs.YtgkkecladbmjkaaGreatDoor
open Tryz
open Go.Vc Go.Tc
variable {w:Ω} {K:O->Ω->Prop}
theorem vF {cs row:List O} {sz k q o:Nat} {v:O} (h:(cs.drop (k*sz)).take sz=row) (hrow:row.length=sz) (ho:o < sz):((cs.set (q*sz+o) v).drop (k*sz)).take sz=if k=q then row.set o v else row:=by
 apply List.ext_getElem?;intro j
 have hj:∀ l:List O,((l.drop (k*sz)).take sz)[j]?=if j < sz then l[k*sz+j]? else none:=λl=>by
  rw [List.getElem?_take,List.getElem?_drop]
 have hr:row[j]?=if j < sz then cs[k*sz+j]? else none:=by rw [<- h,hj]
 rw [hj];by_cases hjs:j < sz
 ·rw [if_pos hjs];by_cases hkq:k=q
  ·subst hkq;rw [if_pos rfl,List.getElem?_set,List.getElem?_set];rw [if_pos hjs] at hr;by_cases hoj:o=j
   ·subst hoj;rw [if_pos rfl,if_pos rfl];have h1:o < row.length:=by omega
    have h2:k*sz+o < cs.length:=by
     have:row[o]?≠none:=by rw [List.getElem?_eq_getElem h1];simp
     rw [hr] at this;exact Nat.lt_of_not_le λhle=>this (List.getElem?_eq_none hle)
    rw [if_pos h1,if_pos h2]
   ·rw [if_neg hoj,if_neg (by omega),hr]
  ·rw [if_neg hkq,List.getElem?_set,if_neg ?_]
   ·rw [hr,if_pos hjs]
   ·intro he;rcases Nat.lt_or_gt_of_ne hkq with hlt|hgt
    ·have:=Nat.mul_le_mul_right sz (show k+1<=q by omega);rw [Nat.add_mul,Nat.one_mul] at this;omega
    ·have:=Nat.mul_le_mul_right sz (show q+1<=k by omega);rw [Nat.add_mul,Nat.one_mul] at this;omega
 ·rw [if_neg hjs];split
  ·rw [List.getElem?_eq_none (by rw [List.length_set];omega)]
  ·rw [List.getElem?_eq_none (by omega)]
end Go.Proofs.YtgkkecladbmjkaaGreatDoor
namespace Go.Tc
def bF.withCode (i:bF) (q:Nat) (code:List fO):bF:={ i with methods:=i.methods.set q { i.meth q with code:=code } }
end Go.Tc
namespace Go.Proofs.YtgkkecladbmjkaaGreatDoor
open Tryz
open Go.Vc Go.Tc
variable {w:Ω} {K:O->Ω->Prop}
variable {B B':Nat} {w':Ω} {i:bF}
structure Apl (w:Ω) (p:cN) (i:bF):Prop where
 at_:hJ w p i
 nm:kI w i
 rg:i.rg
 ml:i.methods.length=3
 cl:∀ m∈i.methods,m.code.length<=2000000
theorem Apl.ext {w':Ω} {p:cN} {i:bF} (h:Apl w p i) (hx:aG w w'):Apl w' p i:=⟨h.at_.ext hx,h.nm.ext hx,h.rg,h.ml,h.cl⟩
theorem VY (l:List fO):(hU l).all cB=true:=List.all_eq_true.2 λv hv=>by
 simp only [hU,List.mem_flatMap,List.mem_cons,List.not_mem_nil,or_false] at hv;obtain ⟨x,_,rfl|rfl|rfl⟩:=hv<;>rfl
def BJ (N0:Nat) (w0:Ω) (v:O) (w':Ω):Prop:=∃ code':List fO,w'.ownsRow N0 70 3 v code'.length (hU code')/\(∀ x∈code',x.rg)/\code'.length<=2000000/\Fr (λk=>N0<=k) w0 w'
structure aTs (S:Nat->Prop) (w:Ω) (p:cN) (i:bF):Prop where
 ap:∀ w'',Fr S w w''->mQ w''->Apl w'' p i
 mt:∃ cs:List O,∀ w'',Fr S w w''->aC w'' p.mv 4 i.methods.length cs/\∀ (k:Nat) (x:fV),i.methods[k]?=some x->jK w'' ((cs.drop (k*4)).take 4) x
abbrev sJ (B:Nat) (w:Ω) (p:cN) (i:bF):Prop:=aTs (λk=>k < B) w p i
theorem sJ.by_ {p:cN} (h:sJ B w p i) (hf:∀ w'',Fr (λk=>k < B') w' w''->Fr (λk=>k < B) w w''):sJ B' w' p i:=by
 obtain ⟨h1,cs,h2⟩:=h;exact ⟨λw'' f hT=>h1 w'' (hf w'' f) hT,cs,λw'' f=>h2 w'' (hf w'' f)⟩
theorem sJ.ext {p:cN} (h:sJ B w p i) (hx:aG w w'):sJ B w' p i:=h.by_ λ_ f=>(Fr.of_ext hx).trans f λ_ _ h=>h
theorem sJ.now {p:cN} (h:sJ B w p i) (hT:mQ w):Apl w p i:=h.ap w (Fr.refl _ _) hT
theorem sJ.chg {g:Nat} {p:cN} (h:sJ B w p i) (f:Fr (λk=>k=g) w w') (hg:g < B) (hB:B'<=B):sJ B' w' p i:=h.by_ λw'' f'=>((f.mono (T:=λk=>k < B) λk hk=>by omega)).trans f' λk _ hk=>by omega
def cN.cells (p:cN) (i:bF):List O:=[.string i.name,p.fv,p.iv,p.mv,p.xv]
theorem Apl.one {p:cN} (h:Apl w p i):(p.cells i).all cB=true:=by
 obtain ⟨a1,c1,e1⟩:=aC.shape h.at_.fl;obtain ⟨_,hx1,_⟩:=h.at_.im;obtain ⟨a2,c2,e2⟩:=aC.shape hx1;obtain ⟨_,hx3,_⟩:=h.at_.mt;obtain ⟨a3,c3,e3⟩:=aC.shape hx3;obtain ⟨a4,c4,e4⟩:=aC.shape h.at_.ex;unfold cN.cells;rw [e1,e2,e3,e4];rfl
theorem aTp {n:Int} {rv:O} {rl:List Rw} (hr:cY w rv rl) (hb:lY w) (hT:mQ w) (rn:rl.length<=5000000000000)
  (hk:∀ p i w',sJ w.heap.size w' p i->(∀ m∈i.methods,m.code.length<=700000)->aG w w'->K (p.val i) w'):aD prog 38 #[i64 n,rv] w K:=
 aEm hr hb hT rn λp i w' _ _ h3 h4 h5 h7 h8 h6=>hk p i w' ⟨λw'' f hT''=>⟨(h7 w'' f hT'').1,(h7 w'' f hT'').2,h3,h4,λm hm=>Nat.le_trans (h5 m hm) (by decide)⟩,h8⟩ h5 h6
def FD (l:List (cN × bF)):List O:=l.flatMap λx=>x.1.cells x.2
def aBv (w:Ω) (row:List O) (x:cN × bF):Prop:=row=x.1.cells x.2/\Apl w x.1 x.2/\rP x.2
def mZ (w:Ω) (v:O) (l:List (cN × bF)):Prop:=dG aBv 5 w v l
theorem mZ.ext {w':Ω} {v:O} {l:List (cN × bF)} (h:mZ w v l) (hx:aG w w'):mZ w' v l:=dG.ext (λh k=>⟨h.1,h.2.1.ext k,h.2.2⟩) h hx
theorem FC:∀ {l:List (cN × bF)} {k:Nat} {x:cN × bF},l[k]?=some x->((FD l).drop (k*5)).take 5=x.1.cells x.2
 | [],_,_,h=>by simp at h
 | y::l,0,x,h=>by simp at h;subst h;simp [FD,cN.cells]
 | y::l,k+1,x,h=>by
  have:=FC (l:=l) (k:=k) (by simpa using h);simp only [FD,List.flatMap_cons] at this ⊢;rw [show (k+1)*5=5+k*5 by omega,<- List.drop_drop,List.drop_left' (by rfl)];exact this
theorem LK (w:Ω) (row:List O) (x:cN × bF) (h:aBv w row x):row.length=5:=by rw [h.1];rfl
def rF (w:Ω) (v:O) (ll:List (List Rw)):Prop:=∃ vs:List O,aC w v 1 ll.length vs/\∀ (k:Nat) (l:List Rw),ll[k]?=some l->∃ u,vs[k]?=some u/\cY w u l/\l.length<=5000000000000
theorem rF.ext {w':Ω} {v:O} {ll:List (List Rw)} (h:rF w v ll) (hx:aG w w'):rF w' v ll:=by
 obtain ⟨vs,h1,h2⟩:=h;refine ⟨vs,h1.ext hx,λk l hk=>?_⟩;obtain ⟨u,h3,h4,h5⟩:=h2 k l hk;exact ⟨u,h3,h4.ext hx,h5⟩
end Go.Proofs.YtgkkecladbmjkaaGreatDoor
namespace Go.Vc
variable {w w':Ω} {o:Nat} {cs:List O} {P:Program} {K:O->Ω->Prop}
theorem KS (w:Ω) (g j:Nat) (c:Array O) (e:TypeId) (fz:Nat × Nat) (u:O) (h:w.heap[g]?=some (.cells c e fz)) :
  (w.setCell ⟨g,j,none⟩ u).heap[g]?=some (.cells (c.setIfInBounds j u) e fz):=by
 simp only [World.setCell,Array.getElem?_modify];rw [if_pos trivial,h];rfl
def lM (w:Ω) (b o:Nat) (cs:List O):Prop:=∃ c e fz,w.heap[b]?=some (.cells c e fz)/\o+cs.length<=c.size/\(fz.1=fz.2\/o+cs.length<=fz.1)/\∀ (j:Nat) v,cs[j]?=some v->c[o+j]?=some v
theorem lM.cell {w:Ω} {b o:Nat} {cs:List O} (h:lM w b o cs) {j:Nat} {v:O} (hj:cs[j]?=some v):w.cell? ⟨b,o+j,none⟩=some v:=by
 obtain ⟨c,e,fz,h1,_,_,h4⟩:=h;simp [World.cell?,h1,h4 j v hj]
theorem lM.lt {b:Nat} (h:lM w b o cs):b < w.heap.size:=by
 obtain ⟨c,e,fz,h1,_⟩:=h;exact (Array.getElem?_eq_some_iff.1 h1).1
theorem lM.of {b:Nat} (h:lM w b o cs) (hw:w'.heap[b]?=w.heap[b]?):lM w' b o cs:=by
 obtain ⟨c,e,fz,h1,h2⟩:=h;exact ⟨c,e,fz,hw.trans h1,h2⟩
theorem lM.ext {b:Nat} (h:lM w b o cs) (hx:aG w w'):lM w' b o cs:=h.of (hx.block b h.lt (by simp))
theorem lM.frozen {w:Ω} {b o:Nat} {cs:List O} (h:lM w b o cs) {j:Nat} (hj:j < cs.length):w.frozen? ⟨b,o+j,none⟩=false:=by
 obtain ⟨c,e,fz,h1,_,h4,_⟩:=h;have:¬ (fz.1<=o+j/\o+j < fz.2):=by omega
 simp only [World.frozen?,h1];simpa using this
theorem lM.set {w:Ω} {b o:Nat} {cs:List O} (h:lM w b o cs) {j:Nat} (hj:j < cs.length) (v:O):lM (w.setCell ⟨b,o+j,none⟩ v) b o (cs.set j v):=by
 obtain ⟨c,e,fz,h1,h2,h3,h4⟩:=h;refine ⟨_,e,fz,KS w b (o+j) c e fz v h1,by simpa using h2,by simpa using h3,λi u hi=>?_⟩;rw [List.getElem?_set] at hi;by_cases hij:j=i
 ·subst hij;rw [if_pos rfl,if_pos hj] at hi;cases hi;have:o+j < c.size:=by omega
  simp [this]
 ·rw [if_neg hij] at hi;rw [Array.getElem?_setIfInBounds_ne (by omega)];exact h4 i u hi
theorem aNs {t x:Nat} (h:XA P t 1) (hl:L1 P x) {b n cap:Nat} (hs:lM w b o cs) {k:IntKind} {i:Int} {u:O} (h0:0<=i) (h1:i < n) (hu:cs[i.toNat]?=some u) (hk:K u w) :
  V P (Instr.indexAt t (.slice (some ⟨b,o,none⟩) n cap) (.int k i)) w λp w1=>V P (Instr.loadAt x p) w1 K:=by
 obtain ⟨e',z',b',ht,hi⟩:=h;obtain ⟨d,hd,ha⟩:=hl;refine V.ok (eQ ht hi h0 h1) ?_;simp only [Nat.mul_one];exact V.ok (iM hd ha (hs.cell hu)) hk
theorem kK {s f j ft:Nat} (hf:FA P s f j) (hl:L1 P ft) {b:Nat} (hs:lM w b o cs) {u:O} (hu:cs[j]?=some u) (hk:K u w) :
  V P (Instr.fieldAt s (.pointer (some ⟨b,o,none⟩)) f) w λq w1=>V P (Instr.loadAt ft q) w1 K:=by
 obtain ⟨d,hd,ha⟩:=hl;exact V.ok (hf.ex w b o) (V.ok (iM hd ha (hs.cell hu)) hk)
end Go.Vc
namespace Go.Proofs.YtgkkecladbmjkaaGreatDoor
open Tryz
open Go.Vc
def gY (w:Ω) (sv:O) (l:List Int):Prop:=(sv=.slice none 0 0/\l=[])\/∃ ad c,sv=.slice (some ad) l.length c/\(0 < l.length->dL w sv l)
theorem gY.ext {w w':Ω} {sv:O} {l:List Int} (h:gY w sv l) (hx:aG w w'):gY w' sv l:=by
 rcases h with h|⟨ad,c,h1,h2⟩
 ·exact .inl h
 ·exact .inr ⟨ad,c,h1,λh0=>(h2 h0).ext hx⟩
theorem aOm {v:O} {l:List Int} {k:Nat} {w:Ω} (h:gY w v l) (hk:k<=1000):aD prog 10 #[v,i64 (k:Int)] w λr w'=>w'.ownsRow w.heap.size 5 1 r (l.take k).length ((l.take k).map u8)/\aG w w':=by
 apply aRs;unfold QE;refine kC lD [] rfl rfl (by simp) rfl λv1 w1 ho1 x1=>?_
 have hln:V prog (Builtin.len_ #[23] 3 #[v]) w1 λt w'=>t=i64 l.length/\w'=w1:=by
  rcases h with ⟨rfl,rfl⟩|⟨ad,c,rfl,_⟩
  iterate 2
   ·exact oA.2 ⟨rfl,rfl⟩
 refine hln.mono λt w' ⟨ht,hw⟩=>?_;subst ht;have hw:=hw.symm;subst hw;refine mn2 λc hc h1 h2=>?_;obtain ⟨b,rfl⟩:∃ b:Nat,c=b:=⟨c.toNat,by rcases hc with rfl|rfl<;>omega⟩;have hb:b=min l.length k:=by omega
 have main:dL w1 v l->V prog (Instr.sliceAt 23 v none (some (i64 (b:Int))) none) w1 λt11 w4=>V prog (Builtin.append_ #[23,23] 23 #[v1,t11]) w4 λr w'=>w'.ownsRow w.heap.size 5 1 r (l.take k).length ((l.take k).map u8)/\aG w w':=λhB=>by
  obtain ⟨v2,hr,hs2⟩:=uD underlying23 mM hB (lo:=none) (hi':=some (i64 b)) (a:=0) (b:=b) (.inl ⟨rfl,rfl⟩) (.inr rfl) (by omega) (by omega);refine V.ok (hr _) ?_;refine SQ lD ho1 (hs2 _ hB) (by rw [List.all_eq_true];intro x hx;exact List.all_eq_true.1 (oJ l) x (List.mem_of_mem_drop (List.mem_of_mem_take hx))) (by omega) (by unfold maxLen;omega) x1.size λv3 w3 ho3 hg3=>?_;refine ⟨?_,x1.grown hg3 λk hk=>(ho1.lt k hk).1⟩;have:=ho3;have e:(l.take k).length=b:=by simp;omega
  rw [e];simp only [Nat.zero_add,List.nil_append,Nat.sub_zero,List.drop_zero] at this;rw [show (l.take k).map u8=(l.map u8).take b from by rw [List.map_take,hb];simp [Nat.min_comm,List.take_eq_take_iff]];exact this
 rcases h with ⟨rfl,rfl⟩|⟨ad,c,rfl,hB⟩
 ·exact main (aC.nil _ _)
 by_cases h0:0 < l.length
 ·exact main ((hB h0).ext x1)
 ·have hl0:l=[]:=List.eq_nil_of_length_eq_zero (by omega);subst hl0;have hb0:b=0:=by simp at hb;exact hb
  subst hb0;refine V.ok (aVm underlying23 mM (Nat.zero_le _)) ?_;obtain ⟨z,ht,hi,hz⟩:=(by exact lD:XE prog 23 5 1);obtain ⟨i,hi',hz',hn,hby⟩:=info_parts hi;obtain ⟨ad',he⟩:∃ ad',(if c=0 then some ad else (some ad).map (·.add 0))=some ad':=by split<;>exact ⟨_,rfl⟩
  rw [he];obtain ⟨v3,w3,hr,h2,h3,_⟩:=run_append_own (P:=prog) w1 w.heap.size 23 23 5 i z 1 1 ht hi' hz' hn hby (by simpa using hz) (by omega) v1 0 [] ho1 ad' 0 c [] rfl (λj u hj=>by simp at hj) (λu hu=>by simp at hu) (by unfold maxLen;omega) (by omega) x1.size;refine V.ok hr ⟨?_,x1.grown h3 λk hk=>(ho1.lt k hk).1⟩;simpa using h2
theorem xR {v:O} {l:List Int} {w:Ω} (h:dL w v l) (hl:l.length<=4294967296):aD prog 58 #[v] w λr w'=>w'.ownsRow w.heap.size 5 1 r l.length (l.map u8)/\aG w w':=by
 apply XO;unfold CS;exact CD (R:=λr w'=>w'.ownsRow w.heap.size 5 1 r l.length (l.map u8)/\aG w w') lD h (oJ l) (by omega) λv' w' h1 h2=>⟨h1,h2⟩
def a1 (d:O):List O:=[i64 (-1),i64 3,i64 0,.bool false,d]
def a2 (d:O):List O:=[i64 (-1),i64 4,i64 0,.bool false,d]
structure aPu (w:Ω) (rb hb ab:Nat) (d1 d2 pub sec:O):Prop where
 room:aY w rb [.pointer (some ⟨hb,0,none⟩),.slice none 0 0,.slice none 0 0,pub,sec] 134
 heap:aY w hb [i64 100,.slice (some ⟨ab,0,none⟩) 2 2] 193
 arr:aY w ab (a1 d1++a2 d2) 127
 lt:ab < hb/\hb < rb
def dk (k:Nat) (d1 d2:O):O:=if k=0 then d1 else d2
def aXt (k:Nat) (d:O):List O:=[i64 (-1),i64 (3+(k:Int)),i64 0,.bool false,d]
theorem bR {w:Ω} {B e s n:Nat} {v:O} {xs:List O} (h:w.ownsRow B e s v n xs):cB v=true:=by
 rcases h.2 with ⟨h1,_⟩|⟨g,cap,cur,h1,_⟩<;>(rw [h1];rfl)
def svc (rb:Nat) (who a b:Int) (av:O):O:=.agg #[.pointer (some ⟨rb,0,none⟩),.pointer none,i64 who,i64 a,i64 b,av]
theorem rC {l:List Int} {a:Nat} (h:a < l.length):(l.map u8)[((a:Nat):Int).toNat]?=some (u8 (l.getD a 0)):=by simp [List.getD,h]
end Go.Proofs.YtgkkecladbmjkaaGreatDoor
namespace Go.Vc
theorem dV {P:Program} {w:Ω} {S:Ω->Prop} {L:O->Prop} {t x:TypeId} {v:O} {n:Nat} {cs:List O} {k:IntKind} {i:Int} {u:O} (h:XA P t 1) (hl:L1 P x) (hs0:aC w v 1 n cs) (hs:∀ w',S w'->aC w' v 1 n cs) (h0:0<=i) (h1:i < n) (hu:cs[i.toNat]?=some u) (hk:L u) :
  aB P S (Instr.indexAt t v (.int k i)) λp=>aB P S (Instr.loadAt x p) L:=by
 obtain ⟨e,z,b',ht,hi⟩:=h;obtain ⟨d,hd,ha⟩:=hl;obtain ⟨b,off,cap,rfl,_⟩:=hs0.there (by omega);refine aB.ok (λw' _=>eQ ht hi h0 h1) (aB.ok (λw' hw=>iM hd ha ?_) hk);obtain ⟨b2,off2,cap2,he,hc⟩:=(hs w' hw).there (by omega);cases he;simpa using hc _ _ hu
end Go.Vc
namespace Go.Proofs.YtgkkecladbmjkaaGreatDoor
open Tryz
open Go.Vc
def qX (l S:List Int) (a i:Nat) (cur:List Int):Prop:=cur.length=l.length/\∀ j,cur[j]?=if a<=j/\j < a+i then S[j - a]? else l[j]?
theorem qX.step {l S cur:List Int} {a i:Nat} (h:qX l S a i cur) (hi:i < S.length) (ha:a+i < l.length):qX l S a (i+1) (cur.set (a+i) (S.getD i 0)):=by
 refine ⟨by simp [h.1],λj=>?_⟩;by_cases hj:a+i=j
 ·subst hj;rw [List.getElem?_set_self (by have:=h.1;omega),if_pos (by omega)];simp [List.getD,hi]
 ·rw [List.getElem?_set_ne hj,h.2 j];by_cases h1:a<=j/\j < a+i
  ·rw [if_pos h1,if_pos (by omega)]
  ·rw [if_neg h1,if_neg (by omega)]
theorem qX.done {l S cur:List Int} {a:Nat} (h:qX l S a S.length cur) (ha:a+S.length<=l.length):cur=l.take a++S++l.drop (a+S.length):=by
 apply List.ext_getElem?;intro j;rw [h.2 j];have hta:(l.take a).length=a:=by simp;omega
 by_cases h1:j < a
 ·rw [if_neg (by omega),List.append_assoc,List.getElem?_append_left (by omega),List.getElem?_take,if_pos h1]
 ·by_cases h2:j < a+S.length
  ·rw [if_pos (by omega),List.append_assoc,List.getElem?_append_right (by omega),hta,List.getElem?_append_left (by omega)]
  ·rw [if_neg (by omega),List.getElem?_append_right (by simp;omega),List.getElem?_drop]
   congr 1
   simp;omega
end Go.Proofs.YtgkkecladbmjkaaGreatDoor
namespace Go.Vc
end Go.Vc
namespace Go.Proofs.YtgkkecladbmjkaaGreatDoor
open Tryz
open Go.Vc
structure aXv (w:Ω) (rb hb ab B B1:Nat) (d1 d2 pub sec:O) (p1 p2 t1 t2:List Int):Prop where
 room:aPu w rb hb ab d1 d2 pub sec
 o1:w.ownsRow B 5 1 d1 p1.length (p1.map u8)
 o2:w.ownsRow B 5 1 d2 p2.length (p2.map u8)
 l1:∀ i,d1.ownBlock=some i->i < B1
 l2:∀ i,d2.ownBlock=some i->i < B1
 q1:w.ownsRow B1 5 1 pub t1.length (t1.map u8)
 q2:w.ownsRow B1 5 1 sec t2.length (t2.map u8)
 ne:∀ i,pub.ownBlock=some i->sec.ownBlock≠some i
 lt:rb < B/\B<=B1/\B1<=w.heap.size
 n1:p1.length<=64
 n2:p2.length<=64
 m1:t1.length<=128
 m2:t2.length<=128
def pk (k:Nat) (p1 p2:List Int):List Int:=if k=0 then p1 else p2
structure bS where
 owner:Int
 label:Int
 life:Int
 share:Bool
 dv:O
 data:List Int
def bS.cells (a:bS):List O:=[i64 a.owner,i64 a.label,i64 a.life,.bool a.share,a.dv]
def iD (ar:List bS):List O:=ar.flatMap bS.cells
theorem qD (ar:List bS):(iD ar).length=ar.length*5:=by
 induction ar with
 | nil=>rfl
 | cons a ar ih=>
  show (a.cells++iD ar).length=_;rw [List.length_append,ih];simp [bS.cells];omega
theorem iS:∀ {ar:List bS} {k:Nat} {a:bS} {j:Nat},ar[k]?=some a->j < 5->(iD ar)[k*5+j]?=a.cells[j]?
 | [],k,a,j,h,_=>by simp at h
 | b::ar,0,a,j,h,hj=>by
  simp at h;subst h;show (b.cells++iD ar)[0*5+j]?=_;rw [List.getElem?_append_left (by simp [bS.cells];omega)];simp
 | b::ar,k+1,a,j,h,hj=>by
  show (b.cells++iD ar)[(k+1)*5+j]?=_;rw [List.getElem?_append_right (by simp [bS.cells];omega)];have:(k+1)*5+j - b.cells.length=k*5+j:=by simp [bS.cells];omega
  rw [this];exact iS (by simpa using h) hj
theorem uC (ar:List bS) (a:bS):iD (ar++[a])=iD ar++a.cells:=by simp [iD]
structure eZ (w:Ω) (hb B:Nat) (size:Int) (g cap:Nat) (ar:List bS):Prop where
 heap:aY w hb [i64 size,.slice (some ⟨g,0,none⟩) ar.length cap] 193
 row:w.ownsRow B 127 5 (.slice (some ⟨g,0,none⟩) ar.length cap) ar.length (iD ar)
 data:∀ a∈ar,w.ownsRow B 5 1 a.dv a.data.length (a.data.map u8)
 len:∀ a∈ar,a.data.length<=64
 dist:∀ (i j:Nat) a b x,ar[i]?=some a->ar[j]?=some b->a.dv.ownBlock=some x->b.dv.ownBlock=some x->i=j
 drow:∀ a∈ar,a.dv.ownBlock≠some g
 lt:B<=w.heap.size
 cnt:ar.length<=1000
 fresh:hb≠g/\∀ a∈ar,a.dv.ownBlock≠some hb
theorem eZ.ext {w w':Ω} {hb B:Nat} {size:Int} {g cap:Nat} {ar:List bS} (h:eZ w hb B size g cap ar) (hx:aG w w'):eZ w' hb B size g cap ar:=
 ⟨h.heap.ext hx,hx.own h.row,λa ha=>hx.own (h.data a ha),h.len,h.dist,h.drow,by have:=h.lt;have:=hx.size;omega,h.cnt,h.fresh⟩
theorem eZ.get {w:Ω} {hb B:Nat} {size:Int} {g cap:Nat} {ar:List bS} (h:eZ w hb B size g cap ar) {k:Nat} {a:bS} (hk:ar[k]?=some a) {j:Nat} (hj:j < 5):w.cell? ⟨g,k*5+j,none⟩=a.cells[j]?:=by
 obtain ⟨u,hu⟩:=bQ (l:=a.cells) (j:=j) (by simp [bS.cells];omega);have:=h.row.cells (g:=g) rfl (k*5+j) u (by rw [iS hk hj];exact hu);rw [fL] at this;rw [hu];simpa using this
def atV (g:Nat) (n:Nat) (r:Int):O:=if 1<=r/\r<=n then .pointer (some ⟨g,(r.toNat - 1)*5,none⟩) else .pointer none
theorem xV {w:Ω} {hb B:Nat} {size:Int} {g cap:Nat} {ar:List bS} (h:eZ w hb B size g cap ar) {r:Int}:aD prog 97 #[.pointer (some ⟨hb,0,none⟩),i64 r] w λv w'=>v=atV g ar.length r/\w'=w:=by
 apply aQa;unfold OO;have hc:=h.cnt;refine aV.2 ?_;by_cases h1:r < 1
 ·simp only [h1,jJ,aH,aE,reduceIte,decide_true];exact ⟨by unfold atV;rw [if_neg (by omega)],trivial⟩
 simp only [h1,dZ,aH,reduceIte,Bool.false_eq_true,decide_false];refine ⟨.inl ⟨_,rfl⟩,?_⟩;refine bB h.heap.boxed cI cM rfl (lA.2 ?_);by_cases h2:r > ((ar.length:Nat):Int)
 ·simp only [h2,cX,aE,decide_true];exact ⟨by unfold atV;rw [if_neg (by omega)],trivial⟩
 simp only [h2,cX,aA,decide_false];refine ⟨.inl ⟨_,rfl⟩,?_⟩;refine bB h.heap.boxed cI cM rfl (iJ.2 ?_);rw [aX (by omega)];refine V.ok (nG (by omega) (by omega)) ⟨?_,(by first|rfl|trivial)⟩;unfold atV;rw [if_pos (by omega)];have:(r - 1).toNat=r.toNat - 1:=by omega
 simp [this]
theorem CG {g n:Nat} {r:Int} {k:Nat} (hk:r=(k:Int)+1) (hn:k < n):atV g n r=.pointer (some ⟨g,k*5,none⟩):=by
 unfold atV;rw [if_pos (by omega)];have:r.toNat - 1=k:=by omega
 rw [this]
theorem gF {a:bS} (h:cB a.dv=true):a.cells.all cB=true:=by
 show (cB (i64 a.owner)&&(cB (i64 a.label)&&(cB (i64 a.life)&&(cB (.bool a.share)&&(cB a.dv&&true)))))=true;rw [h];rfl
theorem rE {w:Ω} {hb B:Nat} {size:Int} {g cap:Nat} {ar:List bS} (h:eZ w hb B size g cap ar) {k:Nat} {a:bS} (hk:ar[k]?=some a) {r:Int} (hr:r=(k:Int)+1) :
  aD prog 56 #[.pointer (some ⟨hb,0,none⟩),i64 r] w λq w'=>(∃ v,q=.tuple #[.agg ({ a with dv:=v }:bS).cells.toArray,.bool true]/\w'.ownsRow w.heap.size 5 1 v a.data.length (a.data.map u8))/\aG w w':=by
 have hkl:k < ar.length:=(List.getElem?_eq_some_iff.1 hk).1;have ham:=List.mem_of_getElem? hk;have hal:=h.len a ham;apply XP;unfold CT;refine LN eX λw1 hz x1=>?_;have h1:=h.ext x1;refine (xV h1).mono λq w2 ⟨hq,hw⟩=>?_;subst hq;have hw:=hw.symm;subst hw;rw [CG hr hkl];refine V.ok (iO underlying194) (aA.2 ⟨.inl ⟨_,rfl⟩,?_⟩);refine V.ok (wJ (cs:=a.cells) rfl λj hj=>h1.get hk hj) ?_;refine zB oC rfl (gF (bR (h.data a ham))) λw3 hc x3=>?_;refine ⟨.inl ⟨_,rfl⟩,?_⟩;have h3:=h1.ext x3;refine V.ok iN (V.ok (jG (h3.get hk (j:=4) (by omega))) ?_);have x13:=x1.trans x3;refine (xR (l:=a.data) (aC.of_own (h3.data a ham)) (by omega)).mono λv w4 ⟨ho,x4⟩=>?_;have x14:=x13.trans x4;refine yV bO lJ (hc.ext x4) rfl (by show 4 < 5;omega) (bR ho) ?_;have hc5:aY (w4.setCell ⟨w1.heap.size,4,none⟩ v) w1.heap.size ({ a with dv:=v }:bS).cells 127:=(hc.ext x4).set 4 v;have f5:Fr (λi=>i=w1.heap.size) w4 (w4.setCell ⟨w1.heap.size,4,none⟩ v):=Fr.of_set rfl;have hzl:=hz.lt;have hcl:=hc.lt;have l1:=x1.size;have l3:=x3.size;have hz5:=f5.blk (hz.ext (x3.trans x4)) (by omega);have ho5:=f5.own ho λi hi=>by have:=(ho.lt i hi).1;omega
 have x5:aG w (w4.setCell ⟨w1.heap.size,4,none⟩ v):=x14.setCell l1 _;generalize w4.setCell ⟨w1.heap.size,4,none⟩ v=w5 at hc5 hz5 ho5 x5 ⊢;refine oY hc5.boxed KJ rfl ?_;refine DS eX hz5 (l:=({ a with dv:=v }:bS).cells) rfl rfl rfl (gF (bR ho)) λw6 h6 hch=>?_;refine ⟨_,rJ underlying127 rfl eX h6 rfl,⟨_,rfl⟩,⟨v,rfl,?_⟩,hch.ext w x5 (Nat.le_refl _)⟩;exact aP (hch.ownRow ho5 (by omega)) (by omega)
def WW:bS:=⟨0,0,0,false,.slice none 0 0,[]⟩
theorem UO {P:Program} {w:Ω} {s e:TypeId} (hs:P.underlying s=some (.pointer e)) {x:Operand} {c:O} :
  (do eqGuard .eql s x (.const c) (.pointer none) (.pointer none);binOp .eql s (.pointer none) (.pointer none)).run P w=.ok (.bool true) w:=by
 simp [eqGuard,binOp,lU,aNd hs]
theorem SP {w:Ω} {hb B:Nat} {size:Int} {g cap:Nat} {ar:List bS} (h:eZ w hb B size g cap ar) {r:Int} (hr:¬ (1<=r/\r<=ar.length)) :
  aD prog 56 #[.pointer (some ⟨hb,0,none⟩),i64 r] w λq w'=>q=.tuple #[.agg WW.cells.toArray,.bool false]/\aG w w':=by
 apply XP;unfold CT;refine LN eX λw1 hz x1=>?_;refine (xV (h.ext x1)).mono λq w2 ⟨hq,hw⟩=>?_;subst hq;have hw:=hw.symm;subst hw;unfold atV;rw [if_neg hr];refine V.ok (UO underlying194) (aE.2 ?_);refine bld kZ [] rfl rfl ?_;refine DS eX hz (l:=WW.cells) rfl rfl rfl rfl λw6 h6 hch=>?_;exact ⟨_,rJ underlying127 rfl eX h6 rfl,⟨_,rfl⟩,rfl,hch.ext w x1 (Nat.le_refl _)⟩
def pF (a:bS) (who:Int):Bool:=decide (a.owner=-1)||decide (a.owner=who)||a.share
theorem aDm {w:Ω} {a:bS} {who:Int}:aD prog 240 #[.agg a.cells.toArray,i64 who] w λr w'=>r=.bool (pF a who)/\aG w w':=by
 apply aHb;unfold GD;refine bx λb w1 hb x1=>?_;refine bB hb dJ aJ rfl (aF.2 ?_);by_cases h1:a.owner=-1
 ·simp only [h1,jJ,aH,reduceIte,decide_true];exact ⟨by simp [pF,h1],x1⟩
 simp only [h1,dZ,aH,reduceIte,Bool.false_eq_true,decide_false];refine bB hb dJ aJ rfl (aF.2 ?_);by_cases h2:a.owner=who
 ·simp only [h2,jJ,aH,reduceIte,decide_true];exact ⟨by simp [pF,h2],x1⟩
 simp only [h2,dZ,aH,reduceIte,Bool.false_eq_true,decide_false];refine bB hb eF mU rfl ?_;exact ⟨by simp [pF,h1,h2],x1⟩
def DG (ar:List bS) (r who:Int):Int:=if 1<=r/\r<=ar.length then (match ar[r.toNat - 1]? with|some a=>if pF a who then 36864 else 28420|none=>28417) else 28417
theorem LC {ar:List bS} {r who:Int} {k:Nat} {a:bS} (hk:ar[k]?=some a) (hr:r=(k:Int)+1):DG ar r who=if pF a who then 36864 else 28420:=by
 have hkl:k < ar.length:=(List.getElem?_eq_some_iff.1 hk).1;unfold DG;rw [if_pos (by omega),show r.toNat - 1=k by omega,hk]
theorem KA {ar:List bS} {r:Int} (h:1<=r/\r<=ar.length):∃ (k:Nat) (a:bS),ar[k]?=some a/\r=(k:Int)+1:=by
 obtain ⟨a,ha⟩:=bQ (l:=ar) (j:=r.toNat - 1) (by omega);exact ⟨_,a,ha,by omega⟩
theorem qQ {ar:List bS} {r who:Int} (h:DG ar r who=36864):∃ (k:Nat) (a:bS),ar[k]?=some a/\r=(k:Int)+1/\pF a who=true:=by
 by_cases h1:1<=r/\r<=ar.length
 ·obtain ⟨k,a,hk,hr⟩:=KA h1;rw [LC hk hr] at h;split at h
  ·rename_i hm;exact ⟨k,a,hk,hr,hm⟩
  ·omega
 ·unfold DG at h;rw [if_neg h1] at h;omega
theorem AL {w:Ω} {hb B:Nat} {size:Int} {g cap:Nat} {ar:List bS} (h:eZ w hb B size g cap ar) {r who:Int} :
  aD prog 217 #[.pointer (some ⟨hb,0,none⟩),i64 r,i64 who] w λq w'=>q=i64 (DG ar r who)/\aG w w':=by
 apply aHk;unfold GL;refine V.ok (iO underlying100) (aA.2 ?_);by_cases h1:1<=r/\r<=ar.length
 ·obtain ⟨k,a,hk,hr⟩:=KA h1;refine (rE h hk hr).mono λq w1 ⟨⟨v,hq,ho⟩,x1⟩=>?_;subst hq;refine cH.2 (cG.2 ?_);refine zB oC rfl (gF (bR ho)) λw2 hc x2=>?_;refine eJ.2 (aA.2 ?_);refine oY hc.boxed KJ rfl ?_;refine aDm.mono λq w3 ⟨hq,x3⟩=>?_;subst hq;have X:=(x1.trans x2).trans x3;rw [LC hk hr];refine eJ.2 (aO.mk (λhn=>⟨?_,X⟩) λhn=>⟨?_,X⟩)
  ·have:pF a who=false:=by
    have h9:pF ({ a with dv:=v }:bS) who=false:=by simpa using hn
    exact h9
   rw [if_neg (by rw [this];simp)]
  ·have:pF a who=true:=by
    have h9:pF ({ a with dv:=v }:bS) who=true:=by simpa using hn
    exact h9
   rw [if_pos this]
 ·refine (SP h h1).mono λq w1 ⟨hq,x1⟩=>?_;subst hq;refine cH.2 (cG.2 ?_);refine zB oC rfl rfl λw2 hc x2=>?_;refine eJ.2 (aE.2 ⟨?_,x1.trans x2⟩);unfold DG;rw [if_neg h1]
def BG (ar:List bS) (r a n who:Int):Int:=if DG ar r who=36864 then (match ar[r.toNat - 1]? with|some x=>if a < 0\/n < 0\/a > x.data.length\/n > x.data.length - a then 28418 else 36864|none=>28418) else DG ar r who
theorem fR {ar:List bS} {r a n who:Int} (h:BG ar r a n who=36864):∃ (k:Nat) (x:bS),ar[k]?=some x/\r=(k:Int)+1/\pF x who=true/\0<=a/\0<=n/\a+n<=x.data.length:=by
 unfold BG at h;split at h
 ·rename_i h1
  obtain ⟨k,x,hk,hr,hm⟩:=qQ h1;rw [show r.toNat - 1=k by omega,hk] at h;simp only at h;split at h
  ·omega
  ·exact ⟨k,x,hk,hr,hm,by omega,by omega,by omega⟩
 ·rename_i h1;exact absurd h h1
theorem QY {w:Ω} {hb B:Nat} {size:Int} {g cap:Nat} {ar:List bS} (h:eZ w hb B size g cap ar) {r a n who:Int} :
  aD prog 241 #[.pointer (some ⟨hb,0,none⟩),i64 r,i64 a,i64 n,i64 who] w λq w'=>q=i64 (BG ar r a n who)/\aG w w':=by
 apply aHa;unfold GC;refine (AL h).mono λq w1 ⟨hq,x1⟩=>?_;subst hq;refine aT.2 (aL (λhne=>?_) λhfine=>?_)
 ·refine ⟨?_,x1⟩;unfold BG;rw [if_neg hne]
 have hfine':DG ar r who=36864:=by omega
 obtain ⟨k,x,hk,hr,hm⟩:=qQ hfine';have hxl:=h.len x (List.mem_of_getElem? hk)
 have er:BG ar r a n who=if a < 0\/n < 0\/a > x.data.length\/n > x.data.length - a then 28418 else 36864:=by
  unfold BG;rw [if_pos hfine',show r.toNat - 1=k by omega,hk]
 rw [er];refine (rE (h.ext x1) hk hr).mono λq w2 ⟨⟨v,hq,ho⟩,x2⟩=>?_;subst hq;refine cH.2 (cG.2 ?_);refine zB oC rfl (gF (bR ho)) λw3 hc x3=>?_;have X:=(x1.trans x2).trans x3;have hs:=aC.of_own (x3.own ho);refine aV.2 ?_;by_cases h1:a < 0
 ·simp only [h1,jJ,aH,aE,reduceIte,decide_true];exact ⟨by rw [if_pos (.inl trivial)],X⟩
 simp only [h1,aV,dZ,aH,reduceIte,Bool.false_eq_true,decide_false];by_cases h2:n < 0
 ·simp only [h2,jJ,aH,aE,reduceIte,decide_true];exact ⟨by rw [if_pos (.inr (.inl trivial))],X⟩
 simp only [h2,dZ,reduceIte,Bool.false_eq_true,decide_false];refine bB hc.boxed bO gJ rfl ?_;refine gD iH hs (cX.2 ?_);by_cases h3:a > ((x.data.length:Nat):Int)
 ·simp only [h3,jJ,aH,aE,reduceIte,decide_true];exact ⟨by rw [if_pos (.inr (.inr (.inl trivial)))],X⟩
 simp only [h3,dZ,aH,reduceIte,Bool.false_eq_true,decide_false];refine bB hc.boxed bO gJ rfl (gD iH hs (iJ.2 ?_));rw [aX (by omega)];by_cases h4:n > ((x.data.length:Nat):Int) - a
 ·simp only [h4,cX,aE,decide_true];exact ⟨by simp,X⟩
 simp only [h4,cX,aA,decide_false];exact ⟨by simp,X⟩
theorem eZ.upd {w w':Ω} {hb B:Nat} {size:Int} {g cap:Nat} {ar:List bS} (h:eZ w hb B size g cap ar) {k:Nat} {x:bS} (hk:ar[k]?=some x) {d':List Int} (hd:d'.length<=64) (ho:w'.ownsRow B 5 1 x.dv d'.length (d'.map u8)) (hf:Fr (λi=>x.dv.ownBlock=some i) w w') :
  eZ w' hb B size g cap (ar.set k { x with data:=d' }):=by
 have hkl:k < ar.length:=(List.getElem?_eq_some_iff.1 hk).1;have hxm:=List.mem_of_getElem? hk;have hlt:=h.lt
 have hrow:iD (ar.set k { x with data:=d' })=iD ar:=by
  apply List.ext_getElem?;intro j;by_cases hj:j < ar.length*5
  ·obtain ⟨a,ha⟩:=bQ (l:=ar) (j:=j / 5) (by omega);have e:j=j / 5*5+j % 5:=by omega
   rw [e,iS ha (Nat.mod_lt _ (by decide))];by_cases hjk:k=j / 5
   ·have:(ar.set k { x with data:=d' })[j / 5]?=some { x with data:=d' }:=by rw [<- hjk,List.getElem?_set_self hkl]
    rw [iS this (Nat.mod_lt _ (by decide))];rw [<- hjk,hk] at ha;cases ha;rfl
   ·have:(ar.set k { x with data:=d' })[j / 5]?=some a:=by rw [List.getElem?_set_ne hjk];exact ha
    rw [iS this (Nat.mod_lt _ (by decide))]
  ·rw [List.getElem?_eq_none (by rw [qD];simp;omega),List.getElem?_eq_none (by rw [qD];omega)]
 have find:∀ {i:Nat} {a:bS},(ar.set k { x with data:=d' })[i]?=some a->∃ b,ar[i]?=some b/\b.dv=a.dv/\((i=k/\a={ x with data:=d' })\/(i≠k/\a=b)):=by
  intro i a hi;by_cases hik:k=i
  ·subst hik;rw [List.getElem?_set_self hkl] at hi;cases hi;exact ⟨x,hk,rfl,.inl ⟨rfl,rfl⟩⟩
  ·rw [List.getElem?_set_ne hik] at hi;exact ⟨a,hi,rfl,.inr ⟨λe=>hik e.symm,rfl⟩⟩
 have each:∀ a∈ar.set k { x with data:=d' },w'.ownsRow B 5 1 a.dv a.data.length (a.data.map u8)/\a.data.length<=64/\a.dv.ownBlock≠some g:=by
  intro a ha;obtain ⟨i,hi⟩:=List.getElem?_of_mem ha;obtain ⟨b,hb',hdv,hc⟩:=find hi;have hbm:=List.mem_of_getElem? hb';rcases hc with ⟨rfl,rfl⟩|⟨hne,rfl⟩
  ·exact ⟨ho,hd,h.drow x hxm⟩
  ·refine ⟨hf.own (h.data a hbm) λj hj he=>hne (h.dist i k a x j hb' hk hj he),h.len a hbm,h.drow a hbm⟩
 refine ⟨?_,?_,λa ha=>(each a ha).1,λa ha=>(each a ha).2.1,λi j a b y hi hj ha hb'=>?_,λa ha=>(each a ha).2.2,by have:=hf.size;omega,by simpa using h.cnt,h.fresh.1,λa ha=>?_⟩
 ·have:=hf.blk h.heap λhe=>h.fresh.2 x hxm he;simpa using this
 ·have:=hf.own h.row λi hi he=>by
   have:g=i:=by simpa [Value.ownBlock] using hi
   exact h.drow x hxm (this▸he)
  rw [hrow];simpa using this
 ·obtain ⟨a',h1,h2,_⟩:=find hi;obtain ⟨b',h3,h4,_⟩:=find hj;exact h.dist i j a' b' y h1 h3 (h2▸ha) (h4▸hb')
 ·obtain ⟨i,hi⟩:=List.getElem?_of_mem ha;obtain ⟨b,hb',hdv,_⟩:=find hi;rw [<- hdv];exact h.fresh.2 b (List.mem_of_getElem? hb')
structure aTv (w:Ω) (rb hb B:Nat) (size:Int) (g cap:Nat) (ar:List bS) (pub sec:O) (tp ts:List Int):Prop where
 room:aY w rb [.pointer (some ⟨hb,0,none⟩),.slice none 0 0,.slice none 0 0,pub,sec] 134
 h:eZ w hb B size g cap ar
 qp:w.ownsRow B 5 1 pub tp.length (tp.map u8)
 qs:w.ownsRow B 5 1 sec ts.length (ts.map u8)
 lp:tp.length<=128
 ls:ts.length<=128
 ne:∀ x,pub.ownBlock=some x->sec.ownBlock≠some x
 np:∀ a∈ar,∀ x,a.dv.ownBlock=some x->pub.ownBlock≠some x
 ns:∀ a∈ar,∀ x,a.dv.ownBlock=some x->sec.ownBlock≠some x
 gp:pub.ownBlock≠some g
 gs:sec.ownBlock≠some g
 lt:rb≠hb
 fresh:∀ x,(x=rb\/x=hb)->x≠g/\(∀ a∈ar,a.dv.ownBlock≠some x)/\pub.ownBlock≠some x/\sec.ownBlock≠some x
def MuG (rb hb g:Nat) (ar:List bS) (pub sec:O) (i:Nat):Prop:=i=rb\/i=hb\/i=g\/(∃ a∈ar,a.dv.ownBlock=some i)\/pub.ownBlock=some i\/sec.ownBlock=some i
theorem NS {w:Ω} {hb B:Nat} {size:Int} {g cap:Nat} {ar:List bS} (h:eZ w hb B size g cap ar) {k:Nat} {x:bS} (hk:ar[k]?=some x) {r:Int} (hr:r=(k:Int)+1) {a:Nat} (ha:a < x.data.length) :
  aD prog 219 #[.pointer (some ⟨hb,0,none⟩),i64 r,i64 (a:Int)] w λq w'=>q=.tuple #[u8 (x.data.getD a 0),.bool true]/\w'=w:=by
 have hxm:=List.mem_of_getElem? hk;have hkl:k < ar.length:=(List.getElem?_eq_some_iff.1 hk).1;have hd:=aC.of_own (h.data x hxm);apply aHi;unfold GJ;refine (xV h).mono λq w1 ⟨hq,hw⟩=>?_;subst hq;have hw:=hw.symm;subst hw;rw [CG hr hkl];refine V.ok (iO underlying194) ?_;simp only [show ¬ ((a:Int) < 0) by omega,aV,dZ,aH,reduceIte,Bool.false_eq_true,decide_false];refine ⟨.inl ⟨_,rfl⟩,?_⟩;refine V.ok iN (V.ok (jG (h.get hk (j:=4) (by omega))) (gD iH hd ?_));simp only [show ¬ ((a:Int)>=((x.data.length:Nat):Int)) by omega,kF,aA,decide_false];refine ⟨.inl ⟨_,rfl⟩,?_⟩;refine V.ok iN (V.ok (jG (h.get hk (j:=4) (by omega))) ?_);exact mH iH uK hd (by omega) (by omega) (rC ha) ⟨rfl,rfl⟩
theorem NB {w:Ω} {hb B:Nat} {size:Int} {g cap:Nat} {ar:List bS} (h:eZ w hb B size g cap ar) {k:Nat} {x:bS} (hk:ar[k]?=some x) {r:Int} (hr:r=(k:Int)+1) {a:Nat} (ha:a < x.data.length) {z:Int} :
  aD prog 220 #[.pointer (some ⟨hb,0,none⟩),i64 r,i64 (a:Int),u8 z] w λ_ w'=>w'.ownsRow B 5 1 x.dv x.data.length ((x.data.set a z).map u8)/\w.grownBy w' x.dv.ownBlock:=by
 have hxm:=List.mem_of_getElem? hk;have hkl:k < ar.length:=(List.getElem?_eq_some_iff.1 hk).1;apply aHh;unfold GI;refine (NS h hk hr ha).mono λq w1 ⟨hq,hw⟩=>?_;subst hq;have hw:=hw.symm;subst hw;refine cH.2 (cG.2 (eJ.2 (aA.2 ?_)));refine (xV h).mono λq w1 ⟨hq,hw⟩=>?_;subst hq;have hw:=hw.symm;subst hw;rw [CG hr hkl];refine ⟨.inl ⟨_,rfl⟩,?_⟩;refine V.ok iN (V.ok (jG (h.get hk (j:=4) (by omega))) ?_);refine stO iH mM (h.data x hxm) (by omega) (by omega) rfl λw3 ho3 hg3=>?_;refine ⟨?_,hg3⟩;rw [List.map_set];simpa using ho3
def aTt (a b:bS):Prop:=b.owner=a.owner/\b.label=a.label/\b.life=a.life/\b.share=a.share/\b.data=a.data
def Wk (st who:Int) (ar ar':List bS):Prop:=ar.length<=ar'.length/\(st≠36864->ar'.length=ar.length)/\∀ (k:Nat) (a:bS),ar[k]?=some a->∃ a',ar'[k]?=some a'/\(aTt a a'\/(st=36864/\pF a who=true))
def aWa (w:Ω) (rb hb B:Nat) (size:Int) (g:Nat) (ar:List bS) (pub sec:O) (who:Int) (r:O) (w':Ω):Prop:=
 ∃ (p st:Int) (g' cap':Nat) (ar':List bS) (pub' sec':O) (tp' ts':List Int),r=.tuple #[i32 p,i64 st]/\aTv w' rb hb B size g' cap' ar' pub' sec' tp' ts'/\Wk st who ar ar'/\Fr (MuG rb hb g ar pub sec) w w'
section
variable {w:Ω} {rb hb B:Nat} {size:Int} {g cap:Nat} {ar:List bS} {pub sec av:O} {tp ts:List Int}
end
end Go.Proofs.YtgkkecladbmjkaaGreatDoor
namespace Go.Vc
section
variable {P:Program} {w:Ω} {K:O->Ω->Prop} {k:IntKind} {t:TypeId} {a b:Int}
theorem wP:(binOp .and t (.int k a) (.int k b)).run P w=.ok (.int k (k.wrap (BitVec.ofInt k.bits a &&& BitVec.ofInt k.bits b).toNat)) w:=by simp [binOp,Op.intBits]
theorem aCv:(binOp .or t (.int k a) (.int k b)).run P w=.ok (.int k (k.wrap (BitVec.ofInt k.bits a ||| BitVec.ofInt k.bits b).toNat)) w:=by simp [binOp,Op.intBits]
theorem UE:(binOp .xor t (.int k a) (.int k b)).run P w=.ok (.int k (k.wrap (BitVec.ofInt k.bits a ^^^ BitVec.ofInt k.bits b).toNat)) w:=by simp [binOp,Op.intBits]
theorem aSw:(Op.unary .xor (.int k a)).run P w=.ok (.int k (k.wrap (BitVec.ofInt k.bits (if k.signed then -1 else k.max) ^^^ BitVec.ofInt k.bits a).toNat)) w:=by simp [Op.unary,Op.intBits]
theorem aSs {k':IntKind} (h:0<=b):(binOp .shl t (.int k a) (.int k' b)).run P w=.ok (.int k (k.wrap (a*2 ^ (min b.toNat k.bits)))) w:=by
 have:¬ b < 0:=by omega
 simp [binOp,Op.shift,this]
theorem MU {k':IntKind} (h:0<=b):(binOp .shr t (.int k a) (.int k' b)).run P w=.ok (.int k (a.fdiv (2 ^ (min b.toNat k.bits)))) w:=by
 have:¬ b < 0:=by omega
 simp [binOp,Op.shift,this]
theorem aTq (b:Int):0<=IntKind.i32.wrap (BitVec.ofInt IntKind.i32.bits b &&& BitVec.ofInt IntKind.i32.bits 31).toNat:=by
 have h:(BitVec.ofInt IntKind.i32.bits b &&& BitVec.ofInt IntKind.i32.bits 31).toNat<=31:=by
  rw [BitVec.toNat_and];exact Nat.le_trans Nat.and_le_right (by decide)
 generalize (BitVec.ofInt IntKind.i32.bits b &&& BitVec.ofInt IntKind.i32.bits 31).toNat=n at h;simp only [IntKind.wrap_i32];omega
end
end Go.Vc
namespace Go.Proofs.YtgkkecladbmjkaaGreatDoor
open Tryz
open Go.Vc
def aWn (f:FuncId):Prop:=∀ a:Int,∃ z:Int,∀ w,aD prog f #[i32 a] w λr w'=>r=i32 z/\w'=w
def aWm (f:FuncId):Prop:=∀ a b:Int,∃ z:Int,∀ w,aD prog f #[i32 a,i32 b] w λr w'=>r=i32 z/\w'=w
section
variable {w:Ω} {rb hb B:Nat} {size:Int} {g cap:Nat} {ar:List bS} {pub sec av:O} {tp ts:List Int}
end
end Go.Proofs.YtgkkecladbmjkaaGreatDoor
namespace Go.Vc
variable {w:Ω} {B n sz:Nat} {P:Program} {z:O}
theorem dX {g e size:Nat} {cs:List O} (hb:aY w g cs e) (hn:cs.length=n*size) (hB:B<=g) (hm:n<=maxLen):w.ownsRow B e size (.slice (some ⟨g,0,none⟩) n n) n cs:=
 ⟨hn,.inr ⟨g,n,cs.toArray,rfl,hB,hb,Nat.le_refl _,hm,by simpa using hn,by rw [<- hn];simp⟩⟩
theorem apZ {K:O->Ω->Prop} {t e by_ ty:Nat} (ht:P.underlying t=some (.slice e)) (hi:cP P e z sz by_) (hz:(z.cells.size == sz)=true) (hsz:0 < sz) {B':Nat} {v:O} {xs:List O} (ho:w.ownsRow B e sz v n xs) {x:O} {m:Nat} {news:List O} (hs:w.ownsRow B' e sz x m news) (hm:0 < m) (h1:news.all cB=true)
  (hb:(n+m)*by_<=140737488355328) (h63:n+m<=maxLen) (hB:B<=w.heap.size)
  (hk:∀ g cap w',w'.ownsRow B e sz (.slice (some ⟨g,0,none⟩) (n+m) cap) (n+m) (xs++news)->w.grownBy w' v.ownBlock->(v.ownBlock=some g\/g=w.heap.size)->K (.slice (some ⟨g,0,none⟩) (n+m) cap) w') :
  V P (Builtin.append_ #[t,t] ty #[v,x]) w K:=by
 obtain ⟨i,hi',hz',hn,hby⟩:=info_parts hi;have hs0:=hs;rcases hs.2 with ⟨_,h0⟩|⟨b,cap,cur,rfl,_⟩
 ·omega
 ·obtain ⟨g,cap,w',hr,h2,h3,h4,h5⟩:=run_append_lies (P:=P) (w:=w) t ty B e i z sz by_ ht hi' hz' hn hby (by simpa using hz) hsz v n xs ho ⟨b,0,none⟩ m cap news hs.1 (hs0.cells rfl) (λu hu=>by rw [qZ];exact List.all_eq_true.1 h1 u hu) hm h63 hb hB _ rfl;exact V.ok hr (hk g cap w' h2 h3 h4)
theorem UF {t e:TypeId} {by_:Nat} (ht:P.underlying t=some (.slice e)) (hi:cP P e z sz by_) {g cap a:Nat} (ha:a<=n) (_:n<=cap) :
  (Instr.sliceAt t (.slice (some ⟨g,0,none⟩) n cap) (some (.int .i64 (a:Int))) none none).run P w=.ok (.slice (if cap=a then some ⟨g,0,none⟩ else some ⟨g,a*sz,none⟩) (n - a) (cap - a)) w:=by
 simp [Instr.sliceAt,Instr.slice,run_underlying ht,dN hi,Instr.sliceBounds,Instr.sliceBound,asIntOf,ha,fL]
end Go.Vc
namespace Go.Proofs.YtgkkecladbmjkaaGreatDoor
open Tryz
open Go.Vc
theorem eZ.cap {w:Ω} {hb B:Nat} {size:Int} {g cap:Nat} {ar:List bS} (h:eZ w hb B size g cap ar):ar.length<=cap/\B<=g/\g < w.heap.size:=by
 refine ⟨?_,h.row.lt _ rfl⟩;rcases h.row.2 with ⟨h',_⟩|⟨g',cap',cur,h',_,_,hc,_⟩
 ·cases h'
 ·cases h';exact hc
theorem eZ.push {w w':Ω} {hb B:Nat} {size:Int} {g cap g' cap':Nat} {ar:List bS} (h:eZ w hb B size g cap ar) (a:bS) (hl:a.data.length<=64) (hcnt:ar.length+1<=1000)
  (hheap:aY w' hb [i64 size,.slice (some ⟨g',0,none⟩) (ar.length+1:Nat) cap'] 193) (hrow:w'.ownsRow B 127 5 (.slice (some ⟨g',0,none⟩) (ar.length+1) cap') (ar.length+1) (iD ar++a.cells))
  (hd:w'.ownsRow w.heap.size 5 1 a.dv a.data.length (a.data.map u8)) (hne:a.dv.ownBlock≠some g') (hg:g'=g\/w.heap.size<=g') (hf:Fr (λi=>i=hb\/i=g) w w') :
  eZ w' hb B size g' cap' (ar++[a]):=by
 have hlt:=h.lt;have hsz:=hf.size;have hc:=h.cap
 have old:∀ b∈ar,w'.ownsRow B 5 1 b.dv b.data.length (b.data.map u8):=λb hbm=>hf.own (h.data b hbm) λi hi he=>by
  rcases he with rfl|rfl
  ·exact h.fresh.2 b hbm hi
  ·exact h.drow b hbm hi
 have find:∀ {i:Nat} {b:bS},(ar++[a])[i]?=some b->(i < ar.length/\ar[i]?=some b)\/(i=ar.length/\b=a):=by
  intro i b hi;by_cases hil:i < ar.length
  ·rw [List.getElem?_append_left hil] at hi;exact .inl ⟨hil,hi⟩
  ·rw [List.getElem?_append_right (by omega)] at hi;have hi':=(List.getElem?_eq_some_iff.1 hi).1;simp at hi';have e:i=ar.length:=by omega
   subst e;simp at hi;exact .inr ⟨rfl,hi.symm⟩
 have low:∀ b∈ar,∀ x,b.dv.ownBlock=some x->x < w.heap.size:=λb hbm x hx=>((h.data b hbm).lt x hx).2;have high:∀ x,a.dv.ownBlock=some x->w.heap.size<=x:=λx hx=>(hd.lt x hx).1;refine ⟨by simpa using hheap,by rw [uC];simpa using hrow,?_,?_,?_,?_,by omega,by simp;omega,?_,?_⟩
 ·intro b hb';rcases List.mem_append.1 hb' with hb'|hb'
  ·exact old b hb'
  ·obtain rfl:=List.mem_singleton.1 hb';exact aP hd (by omega)
 ·intro b hb';rcases List.mem_append.1 hb' with hb'|hb'
  ·exact h.len b hb'
  ·obtain rfl:=List.mem_singleton.1 hb';exact hl
 ·intro i j b c x hi hj hbx hcx;rcases find hi with ⟨_,hi'⟩|⟨rfl,rfl⟩<;>rcases find hj with ⟨_,hj'⟩|⟨rfl,rfl⟩
  ·exact h.dist i j b c x hi' hj' hbx hcx
  ·have:=low b (List.mem_of_getElem? hi') x hbx;have:=high x hcx;omega
  ·have:=low c (List.mem_of_getElem? hj') x hcx;have:=high x hbx;omega
  ·rfl
 ·intro b hb';rcases List.mem_append.1 hb' with hb'|hb'
  ·intro he;rcases hg with rfl|hg
   ·exact h.drow b hb' he
   ·have:=low b hb' _ he;omega
  ·obtain rfl:=List.mem_singleton.1 hb';exact hne
 ·have:=h.heap.lt;have:=h.fresh.1;omega
 ·intro b hb' he;rcases List.mem_append.1 hb' with hb'|hb'
  ·exact h.fresh.2 b hb' he
  ·obtain rfl:=List.mem_singleton.1 hb';have:=high _ he;have:=h.heap.lt;omega
end Go.Proofs.YtgkkecladbmjkaaGreatDoor
namespace Go.Vc
variable {w:Ω} {cs:List O} {o:Nat}
theorem lM.boxed {b:Nat} (h:lM w b 0 cs):fA w b cs:=λ_ _ hj=>h.cell hj
theorem Fr.seg {S:Nat->Prop} {w':Ω} {b:Nat} (f:Fr S w w') (h:lM w b o cs) (hn:¬ S b):lM w' b o cs:=h.of (f.block b h.lt hn)
theorem DR {P:Program} {K:Ω->Prop} {ft b n by_:Nat} {z u:O} (hi:cP P ft z 1 by_) (hb:lM w b 0 cs) (hn:cs.length=n) (ho:o < n) (hu:cB u=true) (hk:K (w.setCell ⟨b,0+o,none⟩ u)) :
  U P (Instr.storeAt ft (.pointer (some ⟨b,0+o,none⟩)) u) w λ_ w2=>K w2:=
 U.ok (kG hi hu (hb.cell (List.getElem?_eq_getElem (by omega))) (hb.frozen (by omega))) hk
end Go.Vc
namespace Go.Proofs.YtgkkecladbmjkaaGreatDoor
open Tryz
open Go.Vc
structure vC where
 what:Int
 a:Int
 b:Int
 c:Int
def vC.cells (e:vC):List O:=[i64 e.what,i64 e.a,i64 e.b,i64 e.c]
def oM (l:List vC):List O:=l.flatMap vC.cells
theorem MG (l m:List vC):oM (l++m)=oM l++oM m:=by simp [oM]
structure PA where
 owner:Int
 label:Int
 life:Int
 share:Bool
 data:List Int
def pa (a:bS):PA:=⟨a.owner,a.label,a.life,a.share,a.data⟩
structure PS where
 size:Int
 ar:List PA
 tp:List Int
 ts:List Int
 tr:List vC
def PS.ev (s:PS) (l:List vC):PS:={ s with tr:=s.tr++l }
structure RP where
 (rb hb B g cap tb:Nat) (size:Int) (ar:List bS) (iv fv pub sec tv:O) (tp ts:List Int) (tr:List vC)
def RP.ps (p:RP):PS:=⟨p.size,p.ar.map pa,p.tp,p.ts,p.tr⟩
@[reducible] def RP.ev1 (p:RP) (tv':O) (e:vC):RP:={ p with tv:=tv',tr:=p.tr++[e] }
def iX (p:RP) (i:Nat):Prop:=i=p.rb\/i=p.hb\/i=p.g\/(∃ a∈p.ar,a.dv.ownBlock=some i)\/p.pub.ownBlock=some i\/p.sec.ownBlock=some i
def lB (p:RP) (i:Nat):Prop:=i=p.tb\/p.tv.ownBlock=some i
def pQ (l:List Int):Prop:=∀ b∈l,0<=b/\b < 256
structure cA (p:RP) (w:Ω):Prop where
 room:lM w p.rb 0 [.pointer (some ⟨p.hb,0,none⟩),p.iv,p.fv,p.pub,p.sec]
 h:eZ w p.hb p.B p.size p.g p.cap p.ar
 qp:w.ownsRow p.B 5 1 p.pub p.tp.length (p.tp.map u8)
 qs:w.ownsRow p.B 5 1 p.sec p.ts.length (p.ts.map u8)
 lp:p.tp.length<=128
 ls:p.ts.length<=128
 ne:∀ x,p.pub.ownBlock=some x->p.sec.ownBlock≠some x
 np:∀ a∈p.ar,∀ x,a.dv.ownBlock=some x->p.pub.ownBlock≠some x
 ns:∀ a∈p.ar,∀ x,a.dv.ownBlock=some x->p.sec.ownBlock≠some x
 gp:p.pub.ownBlock≠some p.g
 gs:p.sec.ownBlock≠some p.g
 lt:p.rb≠p.hb
 fresh:∀ x,(x=p.rb\/x=p.hb)->x≠p.g/\(∀ a∈p.ar,a.dv.ownBlock≠some x)/\p.pub.ownBlock≠some x/\p.sec.ownBlock≠some x
 tbox:aY w p.tb [p.tv] 125
 trow:w.ownsRow p.B 54 4 p.tv p.tr.length (oM p.tr)
 tne:p.tv.ownBlock≠some p.tb
 tfr:∀ i,lB p i->¬ iX p i
 two:2<=p.ar.length
 sz:0<=p.size/\p.size<=1000
 bytes:∀ a∈p.ar,pQ a.data
variable {p:RP} {w w':Ω}
theorem cA.hi (h:cA p w):∀ i,iX p i\/lB p i->i < w.heap.size:=by
 intro i hm;rcases hm with (rfl|rfl|rfl|⟨a,ha,he⟩|he|he)|rfl|he
 ·exact h.room.lt
 ·exact h.h.heap.lt
 ·exact (h.h.row.lt _ rfl).2
 ·exact ((h.h.data a ha).lt _ he).2
 ·exact (h.qp.lt _ he).2
 ·exact (h.qs.lt _ he).2
 ·exact h.tbox.lt
 ·exact (h.trow.lt _ he).2
theorem eZ.frT {S:Nat->Prop} {hb B:Nat} {size:Int} {g cap:Nat} {ar:List bS} (h:eZ w hb B size g cap ar) (hf:Fr S w w') (hn:∀ i,S i->i≠hb/\i≠g/\∀ a∈ar,a.dv.ownBlock≠some i):eZ w' hb B size g cap ar:=
 ⟨hf.blk h.heap λhs=>(hn _ hs).1 rfl,hf.own h.row λi hi hs=>(hn i hs).2.1 (by simpa [Value.ownBlock] using hi.symm),λa ha=>hf.own (h.data a ha) λi hi hs=>(hn i hs).2.2 a ha hi,h.len,h.dist,h.drow,by have:=hf.size;have:=h.lt;omega,h.cnt,h.fresh⟩
theorem cA.fr {S:Nat->Prop} (h:cA p w) (f:Fr S w w') (hn:∀ i,S i->¬ iX p i/\¬ lB p i):cA p w':=
 ⟨f.seg h.room λhs=>(hn _ hs).1 (.inl rfl),h.h.frT f λi hs=>⟨λe=>(hn i hs).1 (.inr (.inl e)),λe=>(hn i hs).1 (.inr (.inr (.inl e))),λa ha e=>(hn i hs).1 (.inr (.inr (.inr (.inl ⟨a,ha,e⟩))))⟩,
  f.own h.qp λi hi hs=>(hn i hs).1 (.inr (.inr (.inr (.inr (.inl hi))))),f.own h.qs λi hi hs=>(hn i hs).1 (.inr (.inr (.inr (.inr (.inr hi))))),h.lp,h.ls,h.ne,h.np,h.ns,h.gp,h.gs,h.lt,h.fresh,
  f.blk h.tbox λhs=>(hn _ hs).2 (.inl rfl),f.own h.trow λi hi hs=>(hn i hs).2 (.inr hi),h.tne,h.tfr,h.two,h.sz,h.bytes⟩
theorem cA.ext (h:cA p w) (hx:aG w w'):cA p w':=h.fr (Fr.of_ext (S:=λ_=>False) hx) λ_ hf=>hf.elim
def oO (p:RP) (who a b:Int) (av:O):O:=.agg #[.pointer (some ⟨p.rb,0,none⟩),.pointer (some ⟨p.tb,0,none⟩),i64 who,i64 a,i64 b,av]
structure nR (p p':RP) (w w':Ω):Prop where
 rb:p'.rb=p.rb
 hb:p'.hb=p.hb
 B:p'.B=p.B
 tb:p'.tb=p.tb
 size:p'.size=p.size
 iv:p'.iv=p.iv
 fv:p'.fv=p.fv
 mu:∀ i,iX p' i\/lB p' i->iX p i\/lB p i\/w.heap.size<=i
 fr:Fr (λi=>iX p i\/lB p i) w w'
theorem nR.of_ext (hx:aG w w'):nR p p w w':=⟨rfl,rfl,rfl,rfl,rfl,rfl,rfl,λ_ hi=>hi.elim .inl λh=>.inr (.inl h),Fr.of_ext hx⟩
theorem nR.trans {p1 p2:RP} {w1 w2:Ω} (h:nR p p1 w w1) (k:nR p1 p2 w1 w2):nR p p2 w w2:=
 ⟨k.rb.trans h.rb,k.hb.trans h.hb,k.B.trans h.B,k.tb.trans h.tb,k.size.trans h.size,k.iv.trans h.iv,k.fv.trans h.fv,λi hi=>by
  rcases k.mu i hi with h1|h1|h1
  ·exact h.mu i (.inl h1)
  ·exact h.mu i (.inr h1)
  ·exact .inr (.inr (Nat.le_trans h.fr.size h1)),h.fr.trans k.fr λi hi hs=>by
  rcases h.mu i hs with h1|h1|h1
  ·exact .inl h1
  ·exact .inr h1
  ·omega⟩
theorem OK (h:cA p w) (hl:p.tr.length<=100000) {e:vC}:aD prog 52 #[.pointer (some ⟨p.tb,0,none⟩),i64 e.what,i64 e.a,i64 e.b,i64 e.c] w λ_ w'=>
  ∃ tv',cA (p.ev1 tv' e) w'/\nR p (p.ev1 tv' e) w w'/\Fr (lB p) w w'/\∀ i,lB (p.ev1 tv' e) i->lB p i\/w.heap.size<=i:=by
 apply aQu;unfold PB;refine ⟨.inl ⟨_,rfl⟩,?_⟩;refine bB h.tbox.boxed eG tG rfl (gD LZ (aC.of_own h.trow) ?_);refine kF.2 ?_;simp only [show ¬ ((p.tr.length:Int)>=200000) by omega,aA,decide_false];refine ⟨.inl ⟨_,rfl⟩,?_⟩;refine bB h.tbox.boxed eG tG rfl ?_;refine bld rN [(0,i64 e.what),(1,i64 e.a),(2,i64 e.b),(3,i64 e.c)] rfl rfl ?_;refine V.ok (v:=.slice (some ⟨w.heap.size,0,none⟩) 1 1) (w':=w.alloc (.cells e.cells.toArray 54)) (by kernel_rfl) ?_;have hb1:aY (w.alloc (.cells e.cells.toArray 54)) w.heap.size e.cells 54:=by unfold aY;rw [heap_alloc_new]
 have x1:aG w (w.alloc (.cells e.cells.toArray 54)):=(aG.refl _).alloc _;generalize w.alloc (.cells e.cells.toArray 54)=w1 at hb1 x1 ⊢;have ho1:w1.ownsRow 0 54 4 (.slice (some ⟨w.heap.size,0,none⟩) 1 1) 1 e.cells:=dX hb1 rfl (Nat.zero_le _) (by unfold maxLen;omega);have h1:=h.ext x1;have hlt:=h1.h.lt;refine apZ underlying50 EX rfl (by omega) h1.trow ho1 (by omega) (by rfl) (by omega) (by unfold maxLen;omega) (by omega) λg' cap' w2 ho2 hg2 hlies=>?_;have f2:Fr (λi=>p.tv.ownBlock=some i) w1 w2:=Fr.of_grown hg2 λk hk=>hk;refine ⟨.inl ⟨_,rfl⟩,?_⟩;refine V.ok KE ?_;have hb2:=f2.blk h1.tbox h.tne;have htl:=h.tbox.lt;have s1:=x1.size;refine sT AD hb2 rfl (by simp) rfl ?_;have f3:Fr (λi=>i=p.tb) w2 (w2.setCell ⟨p.tb,0,none⟩ (.slice (some ⟨g',0,none⟩) (p.tr.length+1) cap')):=Fr.of_set rfl;have hb3:=hb2.set 0 (.slice (some ⟨g',0,none⟩) (p.tr.length+1) cap')
 have hgt:¬ g'=p.tb:=λhe=>by
  rcases hlies with hl|hl
  ·exact h.tne (he▸hl)
  ·omega
 have ho3:=f3.own ho2 λk hk=>by
  have:g'=k:=by simpa [Value.ownBlock] using hk
  omega
 generalize w2.setCell ⟨p.tb,0,none⟩ (.slice (some ⟨g',0,none⟩) (p.tr.length+1) cap')=w3 at f3 hb3 ho3 ⊢;have F:Fr (lB p) w w3:=((Fr.of_ext (S:=λi=>p.tv.ownBlock=some i) x1).trans f2 λ_ _ h=>h).or f3 |>.mono λi hi=>hi.elim .inr .inl;have hS:∀ i,lB p i->¬ iX p i:=h.tfr
 have hlie:∀ i,g'=i->lB p i\/w.heap.size<=i:=λi hi=>by
  subst hi;rcases hlies with hl|hl
  ·exact .inl (.inr hl)
  ·exact .inr (by omega)
 have hgm:¬ iX p g':=λhm=>by
  rcases hlie g' rfl with h'|h'
  ·exact h.tfr _ h' hm
  ·have:=h.hi g' (.inl hm);omega
 refine ⟨.slice (some ⟨g',0,none⟩) (p.tr.length+1) cap',⟨F.seg h.room λhs=>hS _ hs (.inl rfl),h.h.frT F λi hs=>⟨λe=>hS i hs (.inr (.inl e)),λe=>hS i hs (.inr (.inr (.inl e))),λa ha e=>hS i hs (.inr (.inr (.inr (.inl ⟨a,ha,e⟩))))⟩,
  F.own h.qp λi hi hs=>hS i hs (.inr (.inr (.inr (.inr (.inl hi))))),F.own h.qs λi hi hs=>hS i hs (.inr (.inr (.inr (.inr (.inr hi))))),h.lp,h.ls,h.ne,h.np,h.ns,h.gp,h.gs,h.lt,h.fresh,hb3,?_,λhe=>hgt (by simpa [Value.ownBlock] using he),λi hi hm=>?_,h.two,h.sz,h.bytes⟩,⟨rfl,rfl,rfl,rfl,rfl,rfl,rfl,λi hi=>?_,F.mono λi hi=>.inr hi⟩,F,λi hi=>?_⟩
 ·show w3.ownsRow p.B 54 4 (.slice (some ⟨g',0,none⟩) (p.tr.length+1) cap') (p.tr++[e]).length (oM (p.tr++[e]));rw [MG,List.length_append];have:oM [e]=e.cells:=by simp [oM]
  rw [this];exact ho3
 ·rcases hi with hi|hi
  ·exact h.tfr i (.inl hi) hm
  ·have:g'=i:=by simpa [Value.ownBlock] using hi
   exact hgm (this▸hm)
 ·rcases hi with hi|hi|hi
  ·exact .inl hi
  ·exact .inr (.inl (.inl hi))
  ·have:g'=i:=by simpa [Value.ownBlock] using hi
   exact .inr (hlie i this)
 ·rcases hi with hi|hi
  ·exact .inl (.inl hi)
  ·have:g'=i:=by simpa [Value.ownBlock] using hi
   exact hlie i this
theorem zL {P:Program} {w:Ω} {s e:TypeId} (hs:P.underlying s=some (.pointer e)) {x y:Operand} {a:Addr} :
  (do eqGuard .neq s x y (.pointer (some a)) (.pointer none);binOp .neq s (.pointer (some a)) (.pointer none)).run P w=.ok (.bool true) w:=by
 simp [eqGuard,binOp,lU,UR hs]
theorem tZ (h:cA p w) (hl:p.tr.length<=100000) {who a b k q r s:Int} {av:O}:aD prog 214 #[oO p who a b av,i64 k,i64 q,i64 r,i64 s] w λ_ w'=>
  ∃ tv',cA (p.ev1 tv' ⟨k,q,r,s⟩) w'/\nR p (p.ev1 tv' ⟨k,q,r,s⟩) w w'/\Fr (lB p) w w'/\∀ i,lB (p.ev1 tv' ⟨k,q,r,s⟩) i->lB p i\/w.heap.size<=i:=by
 apply aHm;unfold GN;refine bx λb w1 hb x1=>?_;refine bB hb iW rL rfl ?_;refine V.ok (zL underlying48) (aE.2 ?_);refine bB hb iW rL rfl ?_;refine (OK (h.ext x1) hl (e:=⟨k,q,r,s⟩)).mono λ_ w2 ⟨tv',h2,s2,f2,t2⟩=>?_;exact ⟨tv',h2,(nR.of_ext x1).trans s2,(Fr.of_ext (S:=lB p) x1).trans f2 λ_ _ h=>h,λi hi=>(t2 i hi).imp id λh=>Nat.le_trans x1.size h⟩
theorem lO (h:cA p w) (hl:p.tr.length<=100000) {who a b q r s:Int} {av:O}:aD prog 216 #[oO p who a b av,i64 q,i64 r,i64 s] w λ_ w'=>
  ∃ tv',cA (p.ev1 tv' ⟨2,q,r,s⟩) w'/\nR p (p.ev1 tv' ⟨2,q,r,s⟩) w w'/\Fr (lB p) w w'/\∀ i,lB (p.ev1 tv' ⟨2,q,r,s⟩) i->lB p i\/w.heap.size<=i:=by
 apply aHl;unfold GM;refine bx λb w1 hb x1=>?_;refine oY hb fY rfl ?_;refine (tZ (h.ext x1) hl).mono λ_ w2 ⟨tv',h2,s2,f2,t2⟩=>?_;exact ⟨tv',h2,(nR.of_ext x1).trans s2,(Fr.of_ext (S:=lB p) x1).trans f2 λ_ _ h=>h,λi hi=>(t2 i hi).imp id λh=>Nat.le_trans x1.size h⟩
def aVq (a:PA) (who:Int):Bool:=decide (a.owner=-1)||decide (a.owner=who)||a.share
def vB (l:List PA) (r who:Int):Int:=if 1<=r/\r<=l.length then (match l[r.toNat - 1]? with|some a=>if aVq a who then 36864 else 28420|none=>28417) else 28417
def gS (l:List PA) (r a n who:Int):Int:=if vB l r who=36864 then (match l[r.toNat - 1]? with|some x=>if a < 0\/n < 0\/a > x.data.length\/n > x.data.length - a then 28418 else 36864|none=>28418) else vB l r who
def kY (l:List PA) (r:Int):List Int:=match l[r.toNat - 1]? with|some x=>x.data|none=>[]
def DU (l:List PA) (r:Int) (d:List Int):List PA:=match l[r.toNat - 1]? with|some x=>l.set (r.toNat - 1) { x with data:=d }|none=>l
theorem LB (ar:List bS) (r who:Int):DG ar r who=vB (ar.map pa) r who:=by
 unfold DG vB;simp only [List.length_map,List.getElem?_map];cases ar[r.toNat - 1]?<;>rfl
theorem jB (ar:List bS) (r a n who:Int):BG ar r a n who=gS (ar.map pa) r a n who:=by
 unfold BG gS;rw [LB];simp only [List.getElem?_map];cases ar[r.toNat - 1]?<;>rfl
theorem jD {ar:List bS} {r:Int} {k:Nat} {x:bS} (hk:ar[k]?=some x) (hr:r=(k:Int)+1):kY (ar.map pa) r=x.data:=by
 unfold kY;rw [List.getElem?_map,show r.toNat - 1=k by omega,hk];rfl
theorem map_set (ar:List bS) (k:Nat) (y:bS):(ar.set k y).map pa=(ar.map pa).set k (pa y):=by simp
theorem TP {ar:List bS} {r:Int} {k:Nat} {x:bS} (hk:ar[k]?=some x) (hr:r=(k:Int)+1) (d:List Int):(ar.set k { x with data:=d }).map pa=DU (ar.map pa) r d:=by
 unfold DU;rw [List.getElem?_map,show r.toNat - 1=k by omega,hk,map_set];rfl
abbrev AZ:=Int × Int × PS
def qB (s:PS) (who r:Int):AZ:=if vB s.ar r who=36864 then (IntKind.i32.wrap (((kY s.ar r).length:Nat):Int),36864,s.ev [⟨2,r,0,0⟩]) else (0,vB s.ar r who,s.ev [⟨2,r,0,0⟩])
def qC (s:PS) (who r a:Int):AZ:=if gS s.ar r a 1 who=36864 then (IntKind.i32.wrap ((kY s.ar r).getD a.toNat 0),36864,s.ev [⟨2,r,a,1⟩]) else (0,gS s.ar r a 1 who,s.ev [⟨2,r,a,1⟩])
def qA (s:PS) (who r a z:Int):AZ:=if gS s.ar r a 1 who=36864 then (0,36864,{ s.ev [⟨2,r,a,1⟩] with ar:=DU s.ar r ((kY s.ar r).set a.toNat (IntKind.u8.wrap z)) }) else (0,gS s.ar r a 1 who,s.ev [⟨2,r,a,1⟩])
def yW (p:RP) (w:Ω) (x:AZ) (r:O) (w':Ω):Prop:=∃ p',r=.tuple #[i32 x.1,i64 x.2.1]/\p'.ps=x.2.2/\cA p' w'/\nR p p' w w'
section
variable {p:RP} {w w':Ω} {av:O}
theorem lE {p1:RP} {w1:Ω} (h1:cA p1 w1) (s1:nR p p1 w w1) (hx:aG w1 w') {x:AZ} {r:O} (hr:r=.tuple #[i32 x.1,i64 x.2.1]) (hp:p1.ps=x.2.2):yW p w x r w':=
 ⟨p1,hr,hp,h1.ext hx,s1.trans (nR.of_ext hx)⟩
theorem cA.nT (h:cA p w):¬ lB p w.heap.size:=λht=>by have:=h.hi _ (.inr ht);omega
theorem cA.nM (h:cA p w):¬ iX p w.heap.size:=λht=>by have:=h.hi _ (.inl ht);omega
theorem lQ (h:cA p w) {who sa sb r a n:Int} :
  aD prog 218 #[oO p who sa sb av,i64 r,i64 a,i64 n] w λq w'=>q=i64 (gS (p.ar.map pa) r a n who)/\aG w w':=by
 rw [<- jB];apply aHj;unfold GK;refine bx λb w1 hb1 x1=>?_;have D1:aG w1 w1.drew:=(aG.refl _).drew;refine aI.mk' (λw'=>aG w1 w') D1 ?_;refine dU (λw' hw=>hb1.ext hw) dA eY rfl ?_;refine ⟨.inl ⟨_,rfl⟩,?_⟩;refine dU (λw' hw=>(h.room.ext (x1.trans hw)).boxed) bX dY rfl ?_;refine dU (λw' hw=>hb1.ext hw) gU aJ rfl ?_;refine (QY (h.h.ext (x1.trans D1))).mono λq w2 ⟨hq,x2⟩=>?_;exact ⟨D1.trans x2,hq,(x1.trans D1).trans x2⟩
theorem oT (h:cA p w) {k:Nat} {x:bS} (hk:p.ar[k]?=some x) {who sa sb r:Int} (hr:r=(k:Int)+1) {a n:Nat} (hn:a+n<=x.data.length) :
  aD prog 222 #[oO p who sa sb av,i64 r,i64 (a:Int),i64 (n:Int)] w λq w'=>(∀ w2,Fr (λi=>i < w.heap.size) w' w2->dL w2 q ((x.data.drop a).take n))/\aG w w':=by
 have hxl:=h.h.len x (List.mem_of_getElem? hk);apply aHf;unfold GG;refine bx λb w1 hb1 x1=>?_;refine bB hb1 dA eY rfl ⟨.inl ⟨_,rfl⟩,?_⟩;refine bB (h.room.ext x1).boxed bX dY rfl ?_;refine (rE (h.h.ext x1) hk hr).mono λq w2 ⟨⟨v,hq,ho⟩,x2⟩=>?_;subst hq;refine cH.2 (cG.2 ?_);refine zB oC rfl (gF (bR ho)) λw3 hc x3=>?_;refine bB hc.boxed bO gJ rfl (bT.2 ?_);rw [aX (by omega)];have ho3:=x3.own ho;obtain ⟨v',hr',hs⟩:=uD (P:=prog) underlying23 mM (aC.of_own ho3) (lo:=some (i64 (a:Int))) (hi':=some (i64 ((a:Int)+(n:Int)))) (a:=a) (b:=a+n) (.inr rfl) (.inr (by simp)) (by omega) hn;refine V.ok (hr' _) ⟨λw2 hf=>?_,(x1.trans x2).trans x3⟩;have:=hs w2 (aC.of_own (hf.own ho3 λi hi hlt=>by have:=(ho3.lt i hi).1;have:=x1.size;omega));have e:((x.data.drop a).take n).length=n:=by simp;omega
 unfold dL;rw [e];simp only [Nat.add_sub_cancel_left] at this;rw [List.map_take,List.map_drop];exact this
theorem KH (h:cA p w) (hl:p.tr.length<=100000) {who sa sb r:Int} (hav:aC w av 1 1 [i64 r]) :
  aD prog 188 #[oO p who sa sb av] w λq w'=>yW p w (qB p.ps who r) q w':=by
 apply aIb;unfold GW;refine sO λw1 hb1 x1=>?_;refine bB hb1.boxed bI aZ rfl ?_;refine mH aK aJ (hav.ext x1) (by omega) (by omega) rfl ?_;refine oY hb1.boxed fY rfl ?_;refine (lO (h.ext x1) hl (who:=who) (a:=sa) (b:=sb) (av:=av)).mono λ_ w2 ⟨tv',h2,s2,f2,_⟩=>?_;have hb2:=f2.blk hb1 h.nT;have S2:=(nR.of_ext (p:=p) x1).trans s2;have D2:aG w2 w2.drew:=(aG.refl _).drew;refine aI.mk' (λw'=>aG w2 w') D2 ?_;refine dU (λw' hw=>(hb2.ext hw).boxed) dA eY rfl ⟨.inl ⟨_,rfl⟩,?_⟩;refine dU (λw' hw=>(h2.room.ext hw).boxed) bX dY rfl ?_;refine dU (λw' hw=>(hb2.ext hw).boxed) gU aJ rfl ?_;refine (AL (h2.h.ext D2)).mono λq w3 ⟨hq,x3⟩=>?_;subst hq;have X3:=D2.trans x3;have hce:DG p.ar r who=vB p.ps.ar r who:=LB _ _ _;refine ⟨X3,aT.2 (aL (λhne=>?_) λhfine=>?_)⟩
 ·refine lE h2 S2 X3 (x:=qB p.ps who r) ?_ ?_<;>unfold qB<;>rw [if_neg (by rw [<- hce];exact hne)]
  ·rw [<- hce]
  ·rfl
 have hf:DG p.ar r who=36864:=Classical.not_not.1 hfine;obtain ⟨k,x,hk,hr,hm⟩:=qQ hf;refine bB (hb2.ext X3).boxed dA eY rfl ⟨.inl ⟨_,rfl⟩,?_⟩;refine bB (h2.room.ext X3).boxed bX dY rfl ?_;refine (rE (h2.h.ext X3) hk hr).mono λq w4 ⟨⟨v,hq,ho⟩,x4⟩=>?_;subst hq;refine cH.2 (cG.2 ?_);refine zB oC rfl (gF (bR ho)) λw5 hc x5=>?_;refine bB hc.boxed bO gJ rfl (gD iH (aC.of_own (x5.own ho)) ?_);refine V.ok (bG underlying3 underlying21) (lE h2 S2 ((X3.trans x4).trans x5) (x:=qB p.ps who r) ?_ ?_)<;>unfold qB<;>rw [if_pos (by rw [<- hce];exact hf)]
 ·rw [show kY p.ps.ar r=x.data from jD hk hr]
 ·rfl
theorem aDz (h:cA p w) (hl:p.tr.length<=100000) {who sa sb r a:Int} (hav:aC w av 1 2 [i64 r,i64 a]) :
  aD prog 189 #[oO p who sa sb av] w λq w'=>yW p w (qC p.ps who r a) q w':=by
 apply aIa;unfold GV;refine sO λw1 hb1 x1=>?_;have D1:aG w1 w1.drew:=(aG.refl _).drew;have hav1:=hav.ext x1;refine aI.mk' (λw'=>aG w1 w') D1 ?_;refine dU (λw' hw=>(hb1.ext hw).boxed) bI aZ rfl ?_;refine gR aK aJ hav1 (λw' hw=>hw) (by omega) (by omega) rfl ?_;refine dU (λw' hw=>(hb1.ext hw).boxed) bI aZ rfl ?_;refine gR aK aJ hav1 (λw' hw=>hw) (by omega) (by omega) rfl ?_;refine oY (hb1.ext D1).boxed fY rfl ?_;have X1:=x1.trans D1;refine (lO (h.ext X1) hl (who:=who) (a:=sa) (b:=sb) (av:=av)).mono λ_ w2 ⟨tv',h2,s2,f2,_⟩=>?_;have hb2:=f2.blk (hb1.ext D1) h.nT;have S2:=(nR.of_ext (p:=p) X1).trans s2;refine oY hb2.boxed fY rfl ?_;refine (lQ h2 (av:=av)).mono λq w3 ⟨hq,x3⟩=>?_;subst hq;have hce:BG p.ar r a 1 who=gS p.ps.ar r a 1 who:=jB _ _ _ _ _;refine aT.2 (aL (λhne=>?_) λhfine=>?_)
 ·refine lE h2 S2 x3 (x:=qC p.ps who r a) ?_ ?_<;>unfold qC<;>rw [if_neg (show ¬ gS p.ps.ar r a 1 who=36864 from hne)]
  iterate 2
   ·rfl
 have hf:BG p.ar r a 1 who=36864:=hce.trans (Classical.not_not.1 hfine);obtain ⟨k,x,hk,hr,hm,ha0,_,han⟩:=fR hf;obtain ⟨a,rfl⟩:∃ n:Nat,a=n:=⟨a.toNat,by omega⟩;refine bB (hb2.ext x3).boxed dA eY rfl ⟨.inl ⟨_,rfl⟩,?_⟩;refine bB (h2.room.ext x3).boxed bX dY rfl ?_;refine (NS (h2.h.ext x3) hk hr (a:=a) (by omega)).mono λq w4 ⟨hq,hw⟩=>?_;subst hq;have hw:=hw.symm;subst hw;refine cH.2 (cG.2 ?_);refine V.ok (bG underlying5 underlying21) (lE h2 S2 x3 (x:=qC p.ps who r a) ?_ ?_)<;>unfold qC<;>rw [if_pos (by rw [<- hce];exact hf)]
 ·rw [show kY p.ps.ar r=x.data from jD hk hr];rfl
 ·rfl
theorem cA.upd (h:cA p w) {k:Nat} {x:bS} (hk:p.ar[k]?=some x) {d':List Int} (hd:d'.length<=64) (hok:pQ d') (ho:w'.ownsRow p.B 5 1 x.dv d'.length (d'.map u8)) (hf:Fr (λi=>x.dv.ownBlock=some i) w w') :
  cA { p with ar:=p.ar.set k { x with data:=d' } } w'/\∀ i,iX { p with ar:=p.ar.set k { x with data:=d' } } i->iX p i:=by
 have hxm:=List.mem_of_getElem? hk;have hkl:k < p.ar.length:=(List.getElem?_eq_some_iff.1 hk).1;have hlt:=h.lt
 have each:∀ a∈p.ar.set k { x with data:=d' },(∃ b∈p.ar,b.dv=a.dv)/\pQ a.data:=by
  intro a ha;obtain ⟨i,hi⟩:=List.getElem?_of_mem ha;by_cases hik:k=i
  ·subst hik;rw [List.getElem?_set_self hkl] at hi;cases hi;exact ⟨⟨x,hxm,rfl⟩,hok⟩
  ·rw [List.getElem?_set_ne hik] at hi;exact ⟨⟨a,List.mem_of_getElem? hi,rfl⟩,h.bytes a (List.mem_of_getElem? hi)⟩
 have hxM:∀ i,x.dv.ownBlock=some i->iX p i:=λi hi=>.inr (.inr (.inr (.inl ⟨x,hxm,hi⟩)))
 have mu:∀ i,iX { p with ar:=p.ar.set k { x with data:=d' } } i->iX p i:=λi hi=>by
  rcases hi with hi|hi|hi|⟨a,ha,he⟩|hi
  ·exact .inl hi
  ·exact .inr (.inl hi)
  ·exact .inr (.inr (.inl hi))
  ·obtain ⟨⟨b,hb',e⟩,_⟩:=each a ha;exact .inr (.inr (.inr (.inl ⟨b,hb',e▸he⟩)))
  ·exact .inr (.inr (.inr (.inr hi)))
 refine ⟨⟨hf.seg h.room (λhe=>(h.fresh p.rb (.inl rfl)).2.1 x hxm he),h.h.upd hk hd ho hf,hf.own h.qp λi hi he=>h.np x hxm i he hi,hf.own h.qs λi hi he=>h.ns x hxm i he hi,h.lp,h.ls,h.ne,λa ha y hy=>?_,λa ha y hy=>?_,h.gp,h.gs,h.lt,λy hy=>⟨(h.fresh y hy).1,λa ha=>?_,(h.fresh y hy).2.2⟩,
  hf.blk h.tbox λhe=>h.tfr _ (.inl rfl) (hxM _ he),hf.own h.trow λi hi he=>h.tfr i (.inr hi) (hxM _ he),h.tne,λi hi hm=>h.tfr i hi (mu i hm),by simpa using h.two,h.sz,λa ha=>(each a ha).2⟩,mu⟩
 ·obtain ⟨⟨b,hb',e⟩,_⟩:=each a ha;exact h.np b hb' y (e▸hy)
 ·obtain ⟨⟨b,hb',e⟩,_⟩:=each a ha;exact h.ns b hb' y (e▸hy)
 ·obtain ⟨⟨b,hb',e⟩,_⟩:=each a ha;rw [<- e];exact (h.fresh y hy).2.1 b hb'
theorem NH {l:List Int} (h:pQ l) {a:Nat} {z:Int} (hz:0<=z/\z < 256):pQ (l.set a z):=λb hb=>by
 rcases List.mem_or_eq_of_mem_set hb with hb|rfl
 ·exact h b hb
 ·exact hz
theorem wrap_u8 (z:Int):0<=IntKind.u8.wrap z/\IntKind.u8.wrap z < 256:=by
 simp only [IntKind.wrap_u8];omega
theorem aCy (h:cA p w) (hl:p.tr.length<=100000) {who sa sb r a z:Int} (hva:∀ w',Fr (λi=>iX p i\/lB p i) w w'->aC w' av 1 3 [i64 r,i64 a,i64 z]) :
  aD prog 190 #[oO p who sa sb av] w λq w'=>yW p w (qA p.ps who r a z) q w':=by
 apply aHy;unfold GU;have hav:=hva w (Fr.refl _ _);refine sO λw1 hb1 x1=>?_;have D1:aG w1 w1.drew:=(aG.refl _).drew;have hav1:=hav.ext x1;refine aI.mk' (λw'=>aG w1 w') D1 ?_;refine dU (λw' hw=>(hb1.ext hw).boxed) bI aZ rfl ?_;refine gR aK aJ hav1 (λw' hw=>hw) (by omega) (by omega) rfl ?_;refine dU (λw' hw=>(hb1.ext hw).boxed) bI aZ rfl ?_;refine gR aK aJ hav1 (λw' hw=>hw) (by omega) (by omega) rfl ?_;refine oY (hb1.ext D1).boxed fY rfl ?_;have X1:=x1.trans D1;refine (lO (h.ext X1) hl (who:=who) (a:=sa) (b:=sb) (av:=av)).mono λ_ w2 ⟨tv',h2,s2,f2,_⟩=>?_;have hb2:=f2.blk (hb1.ext D1) h.nT;have S2:=(nR.of_ext (p:=p) X1).trans s2;refine oY hb2.boxed fY rfl ?_;refine (lQ h2 (av:=av)).mono λq w3 ⟨hq,x3⟩=>?_;subst hq;have hce:BG p.ar r a 1 who=gS p.ps.ar r a 1 who:=jB _ _ _ _ _;refine aT.2 (aL (λhne=>?_) λhfine=>?_)
 ·refine lE h2 S2 x3 (x:=qA p.ps who r a z) ?_ ?_<;>unfold qA<;>rw [if_neg (show ¬ gS p.ps.ar r a 1 who=36864 from hne)]
  iterate 2
   ·rfl
 have hf:BG p.ar r a 1 who=36864:=hce.trans (Classical.not_not.1 hfine);obtain ⟨k,x,hk,hr,hm,ha0,_,han⟩:=fR hf;obtain ⟨a,rfl⟩:∃ n:Nat,a=n:=⟨a.toNat,by omega⟩;have hxm:=List.mem_of_getElem? hk;have D3:aG w3 w3.drew:=(aG.refl _).drew;have h3:=h2.ext (x3.trans D3);have hxM:∀ i,x.dv.ownBlock=some i->iX p i:=λi hi=>.inr (.inr (.inr (.inl ⟨x,hxm,hi⟩)));have hnb:x.dv.ownBlock≠some w.heap.size:=λhe=>h.nM (hxM _ he);have hnr:x.dv.ownBlock≠some p.rb:=(h.fresh p.rb (.inl rfl)).2.1 x hxm;have S3:=S2.trans (nR.of_ext x3);refine aI.mk' (λw'=>Fr (λi=>x.dv.ownBlock=some i) w3 w') (Fr.of_ext D3) ?_;refine dU (λw' hw=>(hw.blk (hb2.ext x3) hnb).boxed) dA eY rfl ⟨.inl ⟨_,rfl⟩,?_⟩;refine dU (λw' hw=>(hw.seg (h2.room.ext x3) hnr).boxed) bX dY rfl ?_;refine dU (λw' hw=>(hw.blk (hb2.ext x3) hnb).boxed) bI aZ rfl ?_;have mono:∀ w',Fr (λi=>x.dv.ownBlock=some i) w3 w'->Fr (λi=>iX p i\/lB p i) w w':=λw' hf=>S3.fr.trans hf λi _ hi=>.inl (hxM i hi);refine dV aK aJ hav (λw' hw=>hva w' (mono w' hw)) (by omega) (by omega) rfl ?_;refine aB.ok (λw' _=>bG underlying3 underlying5) ?_;refine (NB h3.h hk hr (a:=a) (by omega)).mono λ_ w4 ⟨ho4,hg4⟩=>?_;have f4:Fr (λi=>x.dv.ownBlock=some i) w3.drew w4:=Fr.of_grown hg4 λi hi=>hi;have f34:Fr (λi=>x.dv.ownBlock=some i) w3 w4:=(Fr.of_ext (S:=λi=>x.dv.ownBlock=some i) D3).trans f4 λ_ _ h=>h
 have hxl:=h.h.len x hxm;obtain ⟨h5,mu5⟩:=h3.upd hk (d':=x.data.set a (IntKind.u8.wrap z)) (by simpa using hxl) (NH (h.bytes x hxm) (wrap_u8 z)) (by simpa using ho4) f4;refine ⟨f34,_,?_,?_,h5,S3.trans ⟨rfl,rfl,rfl,rfl,rfl,rfl,rfl,λi hi=>?_,f34.mono λi hi=>.inl (hxM i hi)⟩⟩
 ·unfold qA;rw [if_pos (by rw [<- hce];exact hf)]
 ·unfold qA;rw [if_pos (by rw [<- hce];exact hf)];rw [show kY p.ps.ar r=x.data from jD hk hr,Int.toNat_natCast];show (⟨p.size,(p.ar.set k { x with data:=x.data.set a (IntKind.u8.wrap z) }).map pa,p.tp,p.ts,p.tr++[⟨2,r,a,1⟩]⟩:PS)=_;rw [TP hk hr];rfl
 ·rcases hi with hi|hi
  ·exact .inl (mu5 i hi)
  ·exact .inr (.inl hi)
end
def jN (s:PS) (who r1 a1 r2 a2 n:Int):Int:=if gS s.ar r1 a1 n who=36864 then gS s.ar r2 a2 n who else gS s.ar r1 a1 n who
def PS.ev2 (s:PS) (r1 a1 r2 a2 n:Int):PS:=(s.ev [⟨2,r1,a1,n⟩]).ev [⟨2,r2,a2,n⟩]
def WN (l:List PA) (r1 a1 r2 a2 n:Int):List Int:=(kY l r1).take a1.toNat++((kY l r2).drop a2.toNat).take n.toNat++(kY l r1).drop (a1.toNat+n.toNat)
def lF (s:PS) (who r1 a1 r2 a2 n:Int):AZ:=if jN s who r1 a1 r2 a2 n=36864 then (0,36864,{ s.ev2 r1 a1 r2 a2 n with ar:=DU s.ar r1 (WN s.ar r1 a1 r2 a2 n) }) else (0,jN s who r1 a1 r2 a2 n,s.ev2 r1 a1 r2 a2 n)
theorem AO {s:PS} {who r1 a1 r2 a2 n:Int} (h:jN s who r1 a1 r2 a2 n=36864):gS s.ar r1 a1 n who=36864/\gS s.ar r2 a2 n who=36864:=by
 unfold jN at h;by_cases h1:gS s.ar r1 a1 n who=36864
 ·rw [if_pos h1] at h;exact ⟨h1,h⟩
 ·rw [if_neg h1] at h;exact absurd h h1
section
variable {p:RP} {w w':Ω} {av:O}
theorem FU (h:cA p w) (hl:p.tr.length<=99000) {who sa sb r1 a1 r2 a2 n:Int} (hva:∀ w',Fr (λi=>iX p i\/lB p i) w w'->aC w' av 1 5 [i64 r1,i64 a1,i64 r2,i64 a2,i64 n]) :
  aD prog 221 #[oO p who sa sb av] w λq w'=>q=i64 (jN p.ps who r1 a1 r2 a2 n)/\∃ tv1 tv2,cA ((p.ev1 tv1 ⟨2,r1,a1,n⟩).ev1 tv2 ⟨2,r2,a2,n⟩) w'/\nR p ((p.ev1 tv1 ⟨2,r1,a1,n⟩).ev1 tv2 ⟨2,r2,a2,n⟩) w w'/\Fr (lB p) w w':=by
 apply aHg;unfold GH;have hav:=hva w (Fr.refl _ _);refine sO λw1 hb1 x1=>?_;refine bB hb1.boxed bI aZ rfl ?_;refine mH aK aJ (hav.ext x1) (by omega) (by omega) rfl ?_;have D1:aG w1 w1.drew:=(aG.refl _).drew;have hF:∀ w',Fr (lB p) w1 w'->aC w' av 1 5 [i64 r1,i64 a1,i64 r2,i64 a2,i64 n]:=λw' hf=>hva w' ((Fr.of_ext (S:=λi=>iX p i\/lB p i) x1).trans hf λ_ _ h=>.inr h);have hB:∀ w',Fr (lB p) w1 w'->fA w' w.heap.size (oO p who sa sb av).cells.toList:=λw' hf=>(hf.blk hb1 h.nT).boxed;refine aI.mk' (λw'=>Fr (lB p) w1 w') (Fr.of_ext D1) ?_;refine yA hB fY rfl ?_;refine dV aK aJ hav hF (by omega) (by omega) rfl ?_;refine dV aK aJ hav hF (by omega) (by omega) rfl ?_;have X1:=x1.trans D1;refine (lO (h.ext X1) (by omega) (who:=who) (a:=sa) (b:=sb) (av:=av)).mono λ_ w2 ⟨tv1,h2,s2,f2,t2⟩=>?_;have F2:Fr (lB p) w1 w2:=(Fr.of_ext (S:=lB p) D1).trans f2 λ_ _ h=>h;refine ⟨F2,?_⟩;have D2:aG w2 w2.drew:=(aG.refl _).drew;have F2d:Fr (lB p) w1 w2.drew:=F2.trans (Fr.of_ext (S:=lB p) D2) λ_ _ h=>h;refine aI.mk' (λw'=>Fr (lB p) w1 w') F2d ?_;refine yA hB fY rfl ?_;refine dV aK aJ hav hF (by omega) (by omega) rfl ?_;refine dV aK aJ hav hF (by omega) (by omega) rfl ?_;refine (lO (h2.ext D2) (by show (p.tr++[_]).length<=_;simp;omega) (who:=who) (a:=sa) (b:=sb) (av:=av)).mono λ_ w3 ⟨tv2,h3,s3,f3,t3⟩=>?_
 have s12:=X1.size
 have F3:Fr (lB p) w1 w3:=F2d.trans f3 λi hi hs=>by
  rcases t2 i hs with h'|h'
  ·exact h'
  ·have:=D1.size;omega
 have S3:=((nR.of_ext (p:=p) X1).trans s2).trans ((nR.of_ext D2).trans s3);refine ⟨F3,?_⟩;have D3:aG w3 w3.drew:=(aG.refl _).drew;have G3:∀ {w'},aG w3 w'->Fr (lB p) w1 w':=λhx=>F3.trans (Fr.of_ext (S:=lB p) hx) λ_ _ h=>h
 have fin:∀ {w'},aG w3 w'->∃ tv1 tv2,cA ((p.ev1 tv1 ⟨2,r1,a1,n⟩).ev1 tv2 ⟨2,r2,a2,n⟩) w'/\nR p ((p.ev1 tv1 ⟨2,r1,a1,n⟩).ev1 tv2 ⟨2,r2,a2,n⟩) w w'/\Fr (lB p) w w':=λhx=>
  ⟨tv1,tv2,h3.ext hx,S3.trans (nR.of_ext hx),(Fr.of_ext (S:=lB p) x1).trans (G3 hx) λ_ _ h=>h⟩
 refine aI.mk' (λw'=>Fr (lB p) w1 w') (G3 D3) ?_;refine yA hB fY rfl ?_;refine dV aK aJ hav hF (by omega) (by omega) rfl ?_;refine dV aK aJ hav hF (by omega) (by omega) rfl ?_;refine (lQ (h3.ext D3) (who:=who) (sa:=sa) (sb:=sb) (av:=av)).mono λq w4 ⟨hq,x4⟩=>?_;subst hq;have X4:=D3.trans x4;refine ⟨G3 X4,aT.2 (aL (λhne=>⟨?_,fin X4⟩) λhfine=>?_)⟩
 ·unfold jN;rw [if_neg (show ¬ gS p.ps.ar r1 a1 n who=36864 from hne)];rfl
 have D4:aG w4 w4.drew:=(aG.refl _).drew;have X4':=X4.trans D4;refine aI.mk' (λw'=>Fr (lB p) w1 w') (G3 X4') ?_;refine yA hB fY rfl ?_;refine dV aK aJ hav hF (by omega) (by omega) rfl ?_;refine dV aK aJ hav hF (by omega) (by omega) rfl ?_;refine (lQ (h3.ext X4') (who:=who) (sa:=sa) (sb:=sb) (av:=av)).mono λq w5 ⟨hq,x5⟩=>?_;refine ⟨G3 (X4'.trans x5),?_,fin (X4'.trans x5)⟩;rw [hq];unfold jN;rw [if_pos (show gS p.ps.ar r1 a1 n who=36864 from Classical.not_not.1 hfine)];rfl
theorem qH {l:List Int} (h:pQ l) (n:Nat):pQ (l.take n):=λb hb=>h b (List.mem_of_mem_take hb)
theorem qI {l:List Int} (h:pQ l) (n:Nat):pQ (l.drop n):=λb hb=>h b (List.mem_of_mem_drop hb)
theorem wT {l:List Int} (h:pQ l) (i:Nat):0<=l.getD i 0/\l.getD i 0 < 256:=by
 by_cases hi:i < l.length
 ·rw [List.getD_eq_getElem?_getD,List.getElem?_eq_getElem hi];exact h _ (List.getElem_mem hi)
 ·rw [List.getD_eq_getElem?_getD,List.getElem?_eq_none (by omega)];simp
theorem WO (h:cA p w) (hl:p.tr.length<=99000) {who sa sb r1 a1 r2 a2 n:Int} (hva:∀ w',Fr (λi=>iX p i\/lB p i) w w'->aC w' av 1 5 [i64 r1,i64 a1,i64 r2,i64 a2,i64 n]) :
  aD prog 191 #[oO p who sa sb av] w λq w'=>yW p w (lF p.ps who r1 a1 r2 a2 n) q w':=by
 apply aHx;unfold GT;have hav:=hva w (Fr.refl _ _);refine sO λw1 hb1 x1=>?_;refine oY hb1.boxed fY rfl ?_;refine (FU (h.ext x1) hl (sa:=sa) (sb:=sb) (who:=who) (λw' hf=>hva w' ((Fr.of_ext (S:=λi=>iX p i\/lB p i) x1).trans hf λ_ _ h=>h))).mono λq w2 ⟨hq,tv1,tv2,h2,s2,f2⟩=>?_;subst hq;have hb2:=f2.blk hb1 h.nT;have S2:=(nR.of_ext (p:=p) x1).trans s2;refine aT.2 (aL (λhne=>?_) λhfine=>?_)
 ·refine lE h2 S2 (aG.refl _) (x:=lF p.ps who r1 a1 r2 a2 n) ?_ ?_<;>unfold lF<;>rw [if_neg hne]
  ·rfl
 have hfine:jN p.ps who r1 a1 r2 a2 n=36864:=Classical.not_not.1 hfine;obtain ⟨hf1,hf2⟩:=AO hfine;obtain ⟨k1,y1,hk1,hr1,hm1,ha1,hn0,hn1⟩:=fR ((jB _ _ _ _ _).trans hf1);obtain ⟨k2,y2,hk2,hr2,hm2,ha2,_,hn2⟩:=fR ((jB _ _ _ _ _).trans hf2);obtain ⟨n,rfl⟩:∃ m:Nat,n=m:=⟨n.toNat,by omega⟩;obtain ⟨a,rfl⟩:∃ m:Nat,a1=m:=⟨a1.toNat,by omega⟩;obtain ⟨c,rfl⟩:∃ m:Nat,a2=m:=⟨a2.toNat,by omega⟩;have hxm:=List.mem_of_getElem? hk1;have hym:=List.mem_of_getElem? hk2;have hxl:=h.h.len y1 hxm;have hyl:=h.h.len y2 hym;have hxM:∀ i,y1.dv.ownBlock=some i->iX p i:=λi hi=>.inr (.inr (.inr (.inl ⟨y1,hxm,hi⟩)));have hob:∀ i,y1.dv.ownBlock=some i->i < w.heap.size:=λi hi=>h.hi i (.inl (hxM i hi));have hnb:y1.dv.ownBlock≠some w.heap.size:=λhe=>by have:=hob _ he;omega
 have hav2:=hva w2 S2.fr;refine bB hb2.boxed bI aZ rfl ?_;have D2:aG w2 w2.drew:=(aG.refl _).drew;refine aI.mk' (λw'=>aG w2 w') D2 ?_;refine yA (λw' hw=>(hb2.ext hw).boxed) fY rfl ?_;refine gR aK aJ hav2 (λw' hw=>hw) (by omega) (by omega) rfl ?_;refine gR aK aJ hav2 (λw' hw=>hw) (by omega) (by omega) rfl ?_;refine gR aK aJ hav2 (λw' hw=>hw) (by omega) (by omega) rfl ?_;refine (oT (h2.ext D2) hk2 (who:=who) (sa:=sa) (sb:=sb) (av:=av) hr2 (a:=c) (n:=n) (by omega)).mono λsv w3 ⟨hsv,x3⟩=>?_;have x23:=D2.trans x3;refine ⟨x23,?_⟩;have h3:=h2.ext x23;have S3:=S2.trans (nR.of_ext x23);have hSl:((y2.data.drop c).take n).length=n:=by simp;omega
 have hS3:=hsv w3 (Fr.refl _ _);have s2z:=S2.fr.size;have okS:pQ ((y2.data.drop c).take n):=qH (qI (h.bytes y2 hym) c) n;refine yY iH hS3 ?_
 refine ⟨λv w'=>∃ (i:Nat) (cur:List Int),v=i64 i/\i<=n/\qX y1.data ((y2.data.drop c).take n) a i cur/\pQ cur/\cA { ((p.ev1 tv1 ⟨2,r1,a,n⟩).ev1 tv2 ⟨2,r2,c,n⟩) with ar:=p.ar.set k1 { y1 with data:=cur } } w'/\(∀ i,iX { ((p.ev1 tv1 ⟨2,r1,a,n⟩).ev1 tv2 ⟨2,r2,c,n⟩) with ar:=p.ar.set k1 { y1 with data:=cur } } i->iX p i)/\Fr (λi=>y1.dv.ownBlock=some i) w3 w',
  λv _=>n - (RowKit.intOf v).toNat,⟨0,y1.data,rfl,Nat.zero_le _,⟨rfl,λj=>by rw [if_neg (by omega)]⟩,h.bytes y1 hxm,(h3.upd hk1 hxl (h.bytes y1 hxm) (h3.h.data y1 hxm) (Fr.refl _ _)).1,(h3.upd hk1 hxl (h.bytes y1 hxm) (h3.h.data y1 hxm) (Fr.refl _ _)).2,Fr.refl _ _⟩,?_⟩
 rintro _ w4 ⟨i,cur,rfl,hi,hcur,hok,h4,mu4,f4⟩ _;have hcl:=hcur.1;have F4:Fr (λi=>iX p i\/lB p i) w w4:=S3.fr.trans f4 λi _ hi=>.inl (hxM i hi);rw [hSl];have hkl:k1 < p.ar.length:=(List.getElem?_eq_some_iff.1 hk1).1;have hk4:(p.ar.set k1 { y1 with data:=cur })[k1]?=some { y1 with data:=cur }:=List.getElem?_set_self hkl;refine aV.2 (aL (λhlt2=>?_) λhge=>?_)
 ·have hi':i < n:=by omega
  have hS4:=hsv w4 (f4.mono λj hj=>by have:=hob j hj;have:=D2.size;omega);have hS4':aC w4 sv 1 n (((y2.data.drop c).take n).map u8):=by have:=hS4;unfold dL at this;rw [hSl] at this;exact this
  refine mH iH uK hS4' (by omega) (by omega) (rC (by omega)) ?_;have hb4:aY w4 w.heap.size _ _:=f4.blk (hb2.ext x23) hnb;have D4:aG w4 w4.drew:=(aG.refl _).drew;have G:∀ w',Fr (λi=>y1.dv.ownBlock=some i) w4 w'->Fr (λi=>iX p i\/lB p i) w w':=λw' hw=>F4.trans hw λi _ hi=>.inl (hxM i hi);have hnr:y1.dv.ownBlock≠some p.rb:=(h.fresh p.rb (.inl rfl)).2.1 y1 hxm;refine aI.mk' (λw'=>Fr (λi=>y1.dv.ownBlock=some i) w4 w') (Fr.of_ext D4) ?_;refine dU (λw' hw=>(hw.blk hb4 hnb).boxed) dA eY rfl ⟨.inl ⟨_,rfl⟩,?_⟩;refine dU (λw' hw=>(hw.seg h4.room hnr).boxed) bX dY rfl ?_;refine dV aK aJ hav (λw' hw=>hva w' (G w' hw)) (by omega) (by omega) rfl ?_;refine dV aK aJ hav (λw' hw=>hva w' (G w' hw)) (by omega) (by omega) rfl ?_;refine aB.ok (λw' _=>lG) ?_;rw [show IntKind.i64.wrap ((a:Int)+(i:Int))=((a+i:Nat):Int) from by rw [aX (by omega)];omega];refine (NB (h4.ext D4).h hk4 hr1 (a:=a+i) (by show a+i < cur.length;omega)).mono λ_ w5 ⟨ho6,hg6⟩=>?_;have f5:Fr (λi=>y1.dv.ownBlock=some i) w4.drew w5:=Fr.of_grown hg6 λk hk=>hk;have f45:Fr (λi=>y1.dv.ownBlock=some i) w4 w5:=(Fr.of_ext (S:=λi=>y1.dv.ownBlock=some i) D4).trans f5 λ_ _ h=>h;refine ⟨f45,bT.2 ?_⟩;rw [aX (by omega),cS];have hok5:pQ (cur.set (a+i) (((y2.data.drop c).take n).getD i 0)):=NH hok (wT okS i)
  have h5:=(h4.ext D4).upd hk4 (d':=cur.set (a+i) (((y2.data.drop c).take n).getD i 0)) (by simp;omega) hok5 (by simpa using ho6) f5;simp only [List.set_set] at h5;exact ⟨⟨i+1,_,rfl,by omega,hcur.step (by omega) (by omega),hok5,h5.1,λi hi=>mu4 i (h5.2 i hi),f4.trans f45 λ_ _ h=>h⟩,by simp only [aU];omega⟩
 ·have hin:i=n:=by omega
  subst hin;have h9:qX y1.data ((y2.data.drop c).take i) a ((y2.data.drop c).take i).length cur:=by rw [hSl];exact hcur
  have hd:=h9.done (by omega);rw [hSl] at hd;refine ⟨_,?_,?_,h4,S3.trans ⟨rfl,rfl,rfl,rfl,rfl,rfl,rfl,λj hj=>?_,f4.mono λj hj=>.inl (hxM j hj)⟩⟩
  ·unfold lF;rw [if_pos hfine]
  ·unfold lF;rw [if_pos hfine]
   have e1:WN p.ps.ar r1 (a:Int) r2 (c:Int) (i:Int)=cur:=by
    unfold WN;rw [show kY p.ps.ar r1=y1.data from jD hk1 hr1,show kY p.ps.ar r2=y2.data from jD hk2 hr2,hd];simp only [Int.toNat_natCast]
   rw [e1];show (⟨p.size,(p.ar.set k1 { y1 with data:=cur }).map pa,p.tp,p.ts,(p.tr++[_])++[_]⟩:PS)=_;rw [TP hk1 hr1];rfl
  ·rcases hj with hj|hj
   ·exact .inl (mu4 j hj)
   ·exact .inr (.inl hj)
end
def aMk (a b:Int):Int:=IntKind.i32.wrap ((IntKind.u32.wrap a).fdiv (2 ^ (min (IntKind.i32.wrap (BitVec.ofInt IntKind.i32.bits b &&& BitVec.ofInt IntKind.i32.bits 31).toNat).toNat IntKind.u32.bits)))
theorem TO (a b:Int) (w:Ω):aD prog 170 #[i32 a,i32 b] w λr w'=>r=i32 (aMk a b)/\w'=w:=aIr (by
 unfold HL;exact V.ok (bG underlying21 underlying201) (V.ok wP (V.ok (MU (aTq b)) (V.ok (bG underlying201 underlying21) ⟨rfl,rfl⟩))))
def uR (a:Int):Int:=aMk (IntKind.i32.wrap (BitVec.ofInt IntKind.i32.bits a ||| BitVec.ofInt IntKind.i32.bits (IntKind.i32.wrap (0 - a))).toNat) 31
theorem BC (a:Int) (w:Ω):aD prog 177 #[i32 a] w λr w'=>r=i32 (uR a)/\w'=w:=by
 apply aIk;unfold HE;refine V.ok UJ (V.ok aCv ?_);exact (TO _ _ w).mono λ_ _ h=>h
theorem QQ:∀ n:Fin 256,uR (n.val:Int)=if n.val=0 then 0 else 1:=by decide +kernel
theorem TN {z:Int} (h:0<=z/\z < 256):uR z=if z=0 then 0 else 1:=by
 obtain ⟨n,rfl⟩:∃ n:Nat,z=n:=⟨z.toNat,by omega⟩;have:=QQ ⟨n,by omega⟩;simp only at this;rw [this];by_cases hn:n=0
 ·subst hn;rfl
 ·rw [if_neg hn,if_neg (by omega)]
def QI (x y:Int):Int:=IntKind.u8.wrap (BitVec.ofInt IntKind.u8.bits x ^^^ BitVec.ofInt IntKind.u8.bits y).toNat
def orF (x y:Int):Int:=IntKind.u8.wrap (BitVec.ofInt IntKind.u8.bits x ||| BitVec.ofInt IntKind.u8.bits y).toNat
theorem nV {x:Int} (h:0<=x/\x < 256):(BitVec.ofInt IntKind.u8.bits x).toNat=x.toNat:=by
 rw [BitVec.toNat_ofInt];show (x % ((2 ^ 8:Nat):Int)).toNat=x.toNat;rw [Int.emod_eq_of_lt h.1 (by simpa using h.2)]
theorem aKu {n:Nat} (h:n < 256):IntKind.u8.wrap (n:Int)=n:=by
 simp only [IntKind.wrap_u8];omega
theorem aCb {x y:Int} (hx:0<=x/\x < 256) (hy:0<=y/\y < 256):(0<=QI x y/\QI x y < 256)/\(QI x y=0↔x=y):=by
 have hlt:x.toNat ^^^ y.toNat < 256:=Nat.xor_lt_two_pow (n:=8) (by omega) (by omega)
 have e:QI x y=((x.toNat ^^^ y.toNat:Nat):Int):=by
  unfold QI;rw [BitVec.toNat_xor,nV hx,nV hy,aKu hlt]
 rw [e];refine ⟨by omega,⟨λh=>?_,λh=>by subst h;simp⟩⟩;have h0:x.toNat ^^^ y.toNat=0:=by omega
 have:x.toNat=y.toNat:=by
  apply Nat.eq_of_testBit_eq;intro i;have:=congrArg (λn=>n.testBit i) h0;simp only [Nat.testBit_xor,Nat.zero_testBit] at this;cases hx':x.toNat.testBit i<;>cases hy':y.toNat.testBit i<;>simp [hx',hy'] at this ⊢
 omega
theorem aNk {x y:Int} (hx:0<=x/\x < 256) (hy:0<=y/\y < 256):(0<=orF x y/\orF x y < 256)/\(orF x y=0↔x=0/\y=0):=by
 have hlt:x.toNat ||| y.toNat < 256:=Nat.or_lt_two_pow (n:=8) (by omega) (by omega)
 have e:orF x y=((x.toNat ||| y.toNat:Nat):Int):=by
  unfold orF;rw [BitVec.toNat_or,nV hx,nV hy,aKu hlt]
 rw [e];have h1:x.toNat<=x.toNat ||| y.toNat:=Nat.left_le_or;have h2:y.toNat<=x.toNat ||| y.toNat:=Nat.right_le_or;refine ⟨by omega,⟨λh=>by omega,λ⟨h,h'⟩=>by subst h;subst h';rfl⟩⟩
theorem QU {w:Ω} {v1 v2:O} {l1 l2:List Int} (h1:dL w v1 l1) (h2:dL w v2 l2) (hl:l1.length<=1000) (ho1:pQ l1) (ho2:pQ l2) (he:l1.length=l2.length):aD prog 223 #[v1,v2] w λr w'=>r=i32 (if l1=l2 then 1 else 0)/\aG w w':=by
 apply aHe;unfold GF;refine gD iH h1 ?_;refine gD iH h2 ?_;refine aT.2 (aL (λhn=>absurd (by rw [he]) hn) λ_=>?_);refine gD iH h1 ?_;refine ⟨λv v' w'=>∃ (z:Int) (i:Nat),v=u8 z/\v'=i64 i/\i<=l1.length/\(0<=z/\z < 256)/\(z=0↔∀ j,j < i->l1.getD j 0=l2.getD j 0)/\aG w w',λ_ v _=>l1.length - (RowKit.intOf v).toNat,⟨0,0,rfl,rfl,Nat.zero_le _,by omega,⟨λ_ j hj=>absurd hj (Nat.not_lt_zero _),λ_=>rfl⟩,aG.refl _⟩,?_⟩;rintro _ _ w1 ⟨z,i,rfl,rfl,hi,hz,hzi,x1⟩ _;refine aV.2 (aL (λhlt=>?_) λhge=>?_)
 ·have D1:aG w1 w1.drew:=(aG.refl _).drew;refine aI.mk' (λw'=>w'=w1.drew) rfl ?_;refine gR iH uK ((h1.ext x1).ext D1) (λw' hw=>hw▸aG.refl _) (by omega) (by omega) (rC (by omega)) ?_;refine gR iH uK ((h2.ext x1).ext D1) (λw' hw=>hw▸aG.refl _) (by omega) (by omega) (rC (by omega)) ?_;refine aB.ok (λw' _=>UE) ?_;refine aB.ok (λw' _=>aCv) ?_;refine mR (by omega) ?_;obtain ⟨hx1,hx2⟩:=aCb (wT ho1 i) (wT ho2 i);obtain ⟨hor1,hor2⟩:=aNk hz hx1;refine ⟨⟨orF z (QI (l1.getD i 0) (l2.getD i 0)),i+1,rfl,rfl,by omega,hor1,?_,x1.trans D1⟩,by simp only [aU];omega⟩;rw [hor2,hx2,hzi];constructor
  ·rintro ⟨ha,hb⟩ j hj;by_cases hji:j=i
   ·subst hji;exact hb
   ·exact ha j (by omega)
  ·intro ha;exact ⟨λj hj=>ha j (by omega),ha i (by omega)⟩
 ·refine V.ok (bG underlying5 underlying21) ?_;refine (BC (IntKind.i32.wrap z) w1).mono λr w2 ⟨hr,hw⟩=>?_;subst hr;have hw:=hw.symm;subst hw;have hwz:IntKind.i32.wrap z=z:=by simp only [IntKind.wrap_i32];omega
  rw [hwz,TN hz];have hil:i=l1.length:=by omega
  have hiff:l1=l2↔z=0:=by
   rw [hzi,hil];constructor
   ·intro h j _;rw [h]
   ·intro h;apply List.ext_getElem?;intro j;by_cases hj:j < l1.length
    ·have:=h j hj;rw [List.getD_eq_getElem?_getD,List.getD_eq_getElem?_getD,List.getElem?_eq_getElem hj,List.getElem?_eq_getElem (by omega)] at this;rw [List.getElem?_eq_getElem hj,List.getElem?_eq_getElem (by omega)];simpa using this
    ·rw [List.getElem?_eq_none (by omega),List.getElem?_eq_none (by omega)]
  refine iJ.2 ⟨?_,x1⟩;by_cases hz0:z=0
  ·rw [if_pos hz0,if_pos (hiff.2 hz0)];rfl
  ·rw [if_neg hz0,if_neg (λh=>hz0 (hiff.1 h))];rfl
def uF (l:List PA) (r a n:Int):List Int:=((kY l r).drop a.toNat).take n.toNat
def kQ (s:PS) (who r1 a1 r2 a2 n:Int):AZ:=if jN s who r1 a1 r2 a2 n=36864 then (if uF s.ar r1 a1 n=uF s.ar r2 a2 n then 1 else 0,36864,s.ev2 r1 a1 r2 a2 n) else (0,jN s who r1 a1 r2 a2 n,s.ev2 r1 a1 r2 a2 n)
section
variable {p:RP} {w w':Ω} {av:O}
theorem TS (h:cA p w) (hl:p.tr.length<=99000) {who sa sb r1 a1 r2 a2 n:Int} (hva:∀ w',Fr (λi=>iX p i\/lB p i) w w'->aC w' av 1 5 [i64 r1,i64 a1,i64 r2,i64 a2,i64 n]) :
  aD prog 192 #[oO p who sa sb av] w λq w'=>yW p w (kQ p.ps who r1 a1 r2 a2 n) q w':=by
 apply aHw;unfold GS;refine sO λw1 hb1 x1=>?_;refine oY hb1.boxed fY rfl ?_;refine (FU (h.ext x1) hl (sa:=sa) (sb:=sb) (who:=who) (λw' hf=>hva w' ((Fr.of_ext (S:=λi=>iX p i\/lB p i) x1).trans hf λ_ _ h=>h))).mono λq w2 ⟨hq,tv1,tv2,h2,s2,f2⟩=>?_;subst hq;have hb2:=f2.blk hb1 h.nT;have S2:=(nR.of_ext (p:=p) x1).trans s2;refine aT.2 (aL (λhne=>?_) λhfine=>?_)
 ·refine lE h2 S2 (aG.refl _) (x:=kQ p.ps who r1 a1 r2 a2 n) ?_ ?_<;>unfold kQ<;>rw [if_neg hne]
  ·rfl
 have hfine:jN p.ps who r1 a1 r2 a2 n=36864:=Classical.not_not.1 hfine;obtain ⟨hf1,hf2⟩:=AO hfine;obtain ⟨k1,y1,hk1,hr1,hm1,ha1,hn0,hn1⟩:=fR ((jB _ _ _ _ _).trans hf1);obtain ⟨k2,y2,hk2,hr2,hm2,ha2,_,hn2⟩:=fR ((jB _ _ _ _ _).trans hf2);obtain ⟨n,rfl⟩:∃ m:Nat,n=m:=⟨n.toNat,by omega⟩;obtain ⟨a,rfl⟩:∃ m:Nat,a1=m:=⟨a1.toNat,by omega⟩;obtain ⟨c,rfl⟩:∃ m:Nat,a2=m:=⟨a2.toNat,by omega⟩;have hxm:=List.mem_of_getElem? hk1;have hym:=List.mem_of_getElem? hk2;have hxl:=h.h.len y1 hxm;have hav2:=hva w2 S2.fr;refine bB hb2.boxed bI aZ rfl ?_;have D2:aG w2 w2.drew:=(aG.refl _).drew;refine aI.mk' (λw'=>aG w2 w') D2 ?_;refine yA (λw' hw=>(hb2.ext hw).boxed) fY rfl ?_;refine gR aK aJ hav2 (λw' hw=>hw) (by omega) (by omega) rfl ?_;refine gR aK aJ hav2 (λw' hw=>hw) (by omega) (by omega) rfl ?_;refine gR aK aJ hav2 (λw' hw=>hw) (by omega) (by omega) rfl ?_;refine yA (λw' hw=>(hb2.ext hw).boxed) fY rfl ?_;refine gR aK aJ hav2 (λw' hw=>hw) (by omega) (by omega) rfl ?_;refine gR aK aJ hav2 (λw' hw=>hw) (by omega) (by omega) rfl ?_;refine gR aK aJ hav2 (λw' hw=>hw) (by omega) (by omega) rfl ?_;refine (oT (h2.ext D2) hk1 (who:=who) (sa:=sa) (sb:=sb) (av:=av) hr1 (a:=a) (n:=n) (by omega)).mono λv1 w3 ⟨hv1,x3⟩=>?_;have X3:=D2.trans x3;refine ⟨X3,?_⟩;refine (oT (h2.ext X3) hk2 (who:=who) (sa:=sa) (sb:=sb) (av:=av) hr2 (a:=c) (n:=n) (by omega)).mono λv2 w4 ⟨hv2,x4⟩=>?_
 have X4:=X3.trans x4;refine ⟨X4,?_⟩;refine (QU (hv1 w4 (Fr.of_ext x4)) (hv2 w4 (Fr.refl _ _)) (by simp;omega) (qH (qI (h.bytes y1 hxm) a) n) (qH (qI (h.bytes y2 hym) c) n) (by simp;omega)).mono λq w5 ⟨hq,x5⟩=>?_;subst hq;refine ⟨X4.trans x5,lE h2 S2 (X4.trans x5) (x:=kQ p.ps who r1 a r2 c n) ?_ ?_⟩<;>unfold kQ<;>rw [if_pos hfine]
 ·unfold uF;rw [show kY p.ps.ar r1=y1.data from jD hk1 hr1,show kY p.ps.ar r2=y2.data from jD hk2 hr2];simp only [Int.toNat_natCast]
 ·rfl
end
def fN (s:PS) (who sa r a n:Int):AZ:=if gS s.ar r a n who=36864 then (if sa=1 then (if s.tp.length+n.toNat > 128 then (0,28425,s.ev [⟨2,r,a,n⟩]) else (0,36864,{ s.ev [⟨2,r,a,n⟩] with tp:=s.tp++uF s.ar r a n })) else (if s.ts.length+n.toNat > 128 then (0,28425,s.ev [⟨2,r,a,n⟩]) else (0,36864,{ s.ev [⟨2,r,a,n⟩] with ts:=s.ts++uF s.ar r a n }))) else (0,gS s.ar r a n who,s.ev [⟨2,r,a,n⟩])
section
variable {p:RP} {w w':Ω} {av:O}
theorem cA.tellS (h:cA p w) {w5:Ω} {v5:O} {news:List Int} (ho:w5.ownsRow p.B 5 1 v5 (p.ts++news).length ((p.ts++news).map u8)) (f5:Fr (λi=>p.sec.ownBlock=some i) w w5) (hl:v5.ownBlock=p.sec.ownBlock\/v5.ownBlock=some w.heap.size) (hle:(p.ts++news).length<=128) :
  cA { p with sec:=v5,ts:=p.ts++news } (w5.setCell ⟨p.rb,0+4,none⟩ v5)/\(∀ i,iX { p with sec:=v5,ts:=p.ts++news } i->iX p i\/i=w.heap.size)/\Fr (λi=>p.sec.ownBlock=some i\/i=p.rb) w (w5.setCell ⟨p.rb,0+4,none⟩ v5):=by
 have hrb:p.sec.ownBlock≠some p.rb:=(h.fresh p.rb (.inl rfl)).2.2.2;have hrl:=h.room.lt;have room5:=f5.seg h.room hrb;have room6:=room5.set (j:=4) (by simp) v5;have f6:Fr (λi=>i=p.rb) w5 (w5.setCell ⟨p.rb,0+4,none⟩ v5):=Fr.of_set rfl;have F:=f5.or f6
 have hoth:∀ i,i < w.heap.size->p.sec.ownBlock≠some i->v5.ownBlock≠some i:=λi hi hn he=>by
  rcases hl with hl|hl
  ·exact hn (hl▸he)
  ·rw [hl] at he;cases he;omega
 have mu:∀ i,iX { p with sec:=v5,ts:=p.ts++news } i->iX p i\/i=w.heap.size:=λi hi=>by
  rcases hi with hi|hi|hi|hi|hi|hi
  ·exact .inl (.inl hi)
  ·exact .inl (.inr (.inl hi))
  ·exact .inl (.inr (.inr (.inl hi)))
  ·exact .inl (.inr (.inr (.inr (.inl hi))))
  ·exact .inl (.inr (.inr (.inr (.inr (.inl hi)))))
  ·rcases hl with hl|hl
   ·exact .inl (.inr (.inr (.inr (.inr (.inr (hl▸hi))))))
   ·have hi:v5.ownBlock=some i:=hi;rw [hl] at hi;cases hi;exact .inr rfl
 have sM:∀ i,(p.sec.ownBlock=some i\/i=p.rb)->iX p i:=λi hi=>hi.elim (λh=>.inr (.inr (.inr (.inr (.inr h))))) .inl;have hgl:=(h.h.row.lt _ rfl).2;have hhl:=h.h.heap.lt;refine ⟨⟨room6,h.h.frT F λi hi=>?_,F.own h.qp λi hi hs=>hs.elim (h.ne i hi) λe=>(h.fresh p.rb (.inl rfl)).2.2.1 (e▸hi),f6.own ho λi hi hs=>hoth p.rb hrl hrb (hs▸hi),h.lp,hle,λx hx=>?_,h.np,λa ha x hx=>hoth x ((h.h.data a ha).lt x hx).2 (h.ns a ha x hx),h.gp,hoth p.g hgl h.gs,h.lt,λy hy=>⟨(h.fresh y hy).1,(h.fresh y hy).2.1,(h.fresh y hy).2.2.1,hoth y (by rcases hy with rfl|rfl<;>omega) (h.fresh y hy).2.2.2⟩,F.blk h.tbox λhi=>h.tfr _ (.inl rfl) (sM _ hi),F.own h.trow λi hi hs=>h.tfr i (.inr hi) (sM i hs),h.tne,λi ht hm=>?_,h.two,h.sz,h.bytes⟩,mu,F⟩
 ·rcases hi with hi|rfl
  ·exact ⟨λe=>(h.fresh p.hb (.inr rfl)).2.2.2 (e▸hi),λe=>h.gs (e▸hi),λa ha e=>h.ns a ha i e hi⟩
  ·exact ⟨h.lt,(h.fresh p.rb (.inl rfl)).1,λa ha e=>(h.fresh p.rb (.inl rfl)).2.1 a ha e⟩
 ·exact hoth x (h.qp.lt x hx).2 (h.ne x hx)
 ·rcases mu i hm with hm|rfl
  ·exact h.tfr i ht hm
  ·have:=h.hi _ (.inr ht);omega
theorem cA.tellP (h:cA p w) {w5:Ω} {v5:O} {news:List Int} (ho:w5.ownsRow p.B 5 1 v5 (p.tp++news).length ((p.tp++news).map u8)) (f5:Fr (λi=>p.pub.ownBlock=some i) w w5) (hl:v5.ownBlock=p.pub.ownBlock\/v5.ownBlock=some w.heap.size) (hle:(p.tp++news).length<=128) :
  cA { p with pub:=v5,tp:=p.tp++news } (w5.setCell ⟨p.rb,0+3,none⟩ v5)/\(∀ i,iX { p with pub:=v5,tp:=p.tp++news } i->iX p i\/i=w.heap.size)/\Fr (λi=>p.pub.ownBlock=some i\/i=p.rb) w (w5.setCell ⟨p.rb,0+3,none⟩ v5):=by
 have hrb:p.pub.ownBlock≠some p.rb:=(h.fresh p.rb (.inl rfl)).2.2.1;have hrl:=h.room.lt;have room5:=f5.seg h.room hrb;have room6:=room5.set (j:=3) (by simp) v5;have f6:Fr (λi=>i=p.rb) w5 (w5.setCell ⟨p.rb,0+3,none⟩ v5):=Fr.of_set rfl;have F:=f5.or f6
 have hoth:∀ i,i < w.heap.size->p.pub.ownBlock≠some i->v5.ownBlock≠some i:=λi hi hn he=>by
  rcases hl with hl|hl
  ·exact hn (hl▸he)
  ·rw [hl] at he;cases he;omega
 have mu:∀ i,iX { p with pub:=v5,tp:=p.tp++news } i->iX p i\/i=w.heap.size:=λi hi=>by
  rcases hi with hi|hi|hi|hi|hi|hi
  ·exact .inl (.inl hi)
  ·exact .inl (.inr (.inl hi))
  ·exact .inl (.inr (.inr (.inl hi)))
  ·exact .inl (.inr (.inr (.inr (.inl hi))))
  ·rcases hl with hl|hl
   ·exact .inl (.inr (.inr (.inr (.inr (.inl (hl▸hi))))))
   ·have hi:v5.ownBlock=some i:=hi;rw [hl] at hi;cases hi;exact .inr rfl
  ·exact .inl (.inr (.inr (.inr (.inr (.inr hi)))))
 have sM:∀ i,(p.pub.ownBlock=some i\/i=p.rb)->iX p i:=λi hi=>hi.elim (λh=>.inr (.inr (.inr (.inr (.inl h))))) .inl;have hgl:=(h.h.row.lt _ rfl).2;have hhl:=h.h.heap.lt;refine ⟨⟨room6,h.h.frT F λi hi=>?_,f6.own ho λi hi hs=>hoth p.rb hrl hrb (hs▸hi),F.own h.qs λi hi hs=>hs.elim (λe=>h.ne i e hi) λe=>(h.fresh p.rb (.inl rfl)).2.2.2 (e▸hi),hle,h.ls,λx hx=>?_,λa ha x hx=>hoth x ((h.h.data a ha).lt x hx).2 (h.np a ha x hx),h.ns,hoth p.g hgl h.gp,h.gs,h.lt,λy hy=>⟨(h.fresh y hy).1,(h.fresh y hy).2.1,hoth y (by rcases hy with rfl|rfl<;>omega) (h.fresh y hy).2.2.1,(h.fresh y hy).2.2.2⟩,F.blk h.tbox λhi=>h.tfr _ (.inl rfl) (sM _ hi),F.own h.trow λi hi hs=>h.tfr i (.inr hi) (sM i hs),h.tne,λi ht hm=>?_,h.two,h.sz,h.bytes⟩,mu,F⟩
 ·rcases hi with hi|rfl
  ·exact ⟨λe=>(h.fresh p.hb (.inr rfl)).2.2.1 (e▸hi),λe=>h.gp (e▸hi),λa ha e=>h.np a ha i e hi⟩
  ·exact ⟨h.lt,(h.fresh p.rb (.inl rfl)).1,λa ha e=>(h.fresh p.rb (.inl rfl)).2.1 a ha e⟩
 ·exact λhe=>hoth x (h.qs.lt x he).2 (λe=>h.ne x e he) hx
 ·rcases mu i hm with hm|rfl
  ·exact h.tfr i ht hm
  ·have:=h.hi _ (.inr ht);omega
theorem QS (h:cA p w) (hlt:p.tr.length<=100000) {who sa sb r a n:Int} (hsa:sa≠1) (hva:aC w av 1 3 [i64 r,i64 a,i64 n]) :
  aD prog 193 #[oO p who sa sb av] w λq w'=>yW p w (fN p.ps who sa r a n) q w':=by
 apply PU;unfold yJ;have m0:=h.ls;refine sO λw1 hb1 x1=>?_;have D1:aG w1 w1.drew:=(aG.refl _).drew;have hav1:=hva.ext x1;refine aI.mk' (λw'=>aG w1 w') D1 ?_;refine dU (λw' hw=>(hb1.ext hw).boxed) bI aZ rfl ?_;refine gR aK aJ hav1 (λw' hw=>hw) (by omega) (by omega) rfl ?_;refine dU (λw' hw=>(hb1.ext hw).boxed) bI aZ rfl ?_;refine gR aK aJ hav1 (λw' hw=>hw) (by omega) (by omega) rfl ?_;refine dU (λw' hw=>(hb1.ext hw).boxed) bI aZ rfl ?_;refine gR aK aJ hav1 (λw' hw=>hw) (by omega) (by omega) rfl ?_;refine oY (hb1.ext D1).boxed fY rfl ?_;have X1:=x1.trans D1;refine (lO (h.ext X1) hlt (who:=who) (a:=sa) (b:=sb) (av:=av)).mono λ_ w2 ⟨tv',h2,s2,f2,_⟩=>?_;have hb2:=f2.blk (hb1.ext D1) h.nT;have S2:=(nR.of_ext (p:=p) X1).trans s2;refine oY hb2.boxed fY rfl ?_;refine (lQ h2 (who:=who) (sa:=sa) (sb:=sb) (av:=av)).mono λq w3 ⟨hq,x3⟩=>?_;subst hq;have hce:BG p.ar r a n who=gS p.ps.ar r a n who:=jB _ _ _ _ _;refine aT.2 (aL (λhne=>?_) λhfine=>?_)
 ·refine lE h2 S2 x3 (x:=fN p.ps who sa r a n) ?_ ?_<;>unfold fN<;>rw [if_neg (show ¬ gS p.ps.ar r a n who=36864 from hne)]
  iterate 2
   ·rfl
 have hf:BG p.ar r a n who=36864:=hce.trans (Classical.not_not.1 hfine);have hfp:gS p.ps.ar r a n who=36864:=hce▸hf;obtain ⟨k,x,hk,hr,hm,ha0,hn0,han⟩:=fR hf;obtain ⟨n,rfl⟩:∃ m:Nat,n=m:=⟨n.toNat,by omega⟩;obtain ⟨a,rfl⟩:∃ m:Nat,a=m:=⟨a.toNat,by omega⟩;have hxm:=List.mem_of_getElem? hk;have hxl:=h.h.len x hxm;have hb3:=hb2.ext x3;have h3:=h2.ext x3;have S3:=S2.trans (nR.of_ext x3);refine bB hb3.boxed dA eY rfl ⟨.inl ⟨_,rfl⟩,?_⟩;refine V.ok rY ?_;refine ⟨λv w'=>v=.pointer (some ⟨p.rb,0+4,none⟩)/\w'=w3,?_,?_⟩
 ·refine bB hb3.boxed fU aJ rfl (aT.2 ?_);simp only [show decide (sa≠1)=true by simpa using hsa,aE];refine bB hb3.boxed dA eY rfl ⟨.inl ⟨_,rfl⟩,?_⟩;exact V.ok wO ⟨rfl,rfl⟩
 rintro _ w' ⟨rfl,hw⟩ _;have hw:=hw.symm;subst hw;refine ⟨.inl ⟨_,rfl⟩,?_⟩;refine V.ok (jG (h3.room.cell (j:=4) rfl)) ?_;refine gD iH (aC.of_own h3.qs) ?_;refine bT.2 ?_;have m1:p.ts.length<=128:=m0;rw [show IntKind.i64.wrap (((p.ts.length:Nat):Int)+(n:Int))=((p.ts.length+n:Nat):Int) from by rw [aX (by omega)];omega];refine cX.2 (aL (λhfull=>?_) λhroom=>?_)
 ·refine lE h2 S2 x3 (x:=fN p.ps who sa r a n) ?_ ?_<;>unfold fN<;>rw [if_pos hfp,if_neg hsa,if_pos (show p.ps.ts.length+((n:Nat):Int).toNat > 128 by show p.ts.length+_ > 128;rw [Int.toNat_natCast];omega)]
  ·rfl
 have D3:aG w3 w3.drew:=(aG.refl _).drew;have hrb:p.sec.ownBlock≠some p.rb:=(h.fresh p.rb (.inl rfl)).2.2.2;have hbb:p.sec.ownBlock≠some w.heap.size:=λhe=>h.nM (.inr (.inr (.inr (.inr (.inr he)))));refine aI.mk' (λw'=>Fr (λi=>p.sec.ownBlock=some i) w3 w') (Fr.of_ext D3) ⟨.inl ⟨_,rfl⟩,?_⟩;refine aB.ok (λw' hw=>jG ((hw.seg h3.room hrb).cell (j:=4) rfl)) ?_;refine yA (λw' hw=>(hw.blk hb3 hbb).boxed) fY rfl ?_;refine (oT (h3.ext D3) hk (who:=who) (sa:=sa) (sb:=sb) (av:=av) hr (a:=a) (n:=n) (by omega)).mono λbv w4 ⟨hbv,x4⟩=>?_;have x34:=D3.trans x4;refine ⟨Fr.of_ext x34,?_⟩;have hbs:=hbv w4 (Fr.refl _ _);have hbl:((x.data.drop a).take n).length=n:=by simp;omega
 have hbs':aC w4 bv 1 n (((x.data.drop a).take n).map u8):=by have:=hbs;unfold dL at this;rw [hbl] at this;exact this
 have h4:=h3.ext x34;have S4:=S3.trans (nR.of_ext x34);refine apS lD h4.qs hbs' (oJ _) (by show (p.ts.length+n)*1<=_;omega) (by unfold maxLen;show p.ts.length+n<=_;omega) h4.h.lt λv5 w5 ho5 hg5 hlies=>?_;have f5:Fr (λi=>p.sec.ownBlock=some i) w4 w5:=Fr.of_grown hg5 λk hk=>hk;have f35:Fr (λi=>p.sec.ownBlock=some i) w3 w5:=(Fr.of_ext (S:=λi=>p.sec.ownBlock=some i) x34).trans f5 λ_ _ h=>h;refine ⟨f35,.inl ⟨_,rfl⟩,?_⟩
 have ho5':w5.ownsRow p.B 5 1 v5 (p.ts++(x.data.drop a).take n).length ((p.ts++(x.data.drop a).take n).map u8):=by
  rw [List.length_append,List.map_append,hbl];exact ho5
 refine DR lJ (f35.seg h3.room hrb) rfl (by simp) (bR ho5) ?_;obtain ⟨h6,mu6,f6⟩:=h4.tellS ho5' f5 hlies (by show (p.ts++_).length<=128;rw [List.length_append,hbl];omega);refine ⟨_,?_,?_,h6,S4.trans ⟨rfl,rfl,rfl,rfl,rfl,rfl,rfl,λi hi=>?_,f6.mono λi hi=>.inl (hi.elim (λh=>.inr (.inr (.inr (.inr (.inr h))))) .inl)⟩⟩
 ·unfold fN;rw [if_pos hfp,if_neg hsa,if_neg (show ¬ p.ps.ts.length+((n:Nat):Int).toNat > 128 by show ¬ p.ts.length+_ > 128;rw [Int.toNat_natCast];omega)]
 ·unfold fN;rw [if_pos hfp,if_neg hsa,if_neg (show ¬ p.ps.ts.length+((n:Nat):Int).toNat > 128 by show ¬ p.ts.length+_ > 128;rw [Int.toNat_natCast];omega)];unfold uF;rw [show kY p.ps.ar r=x.data from jD hk hr];rfl
 ·rcases hi with hi|hi
  ·rcases mu6 i hi with hm|rfl
   ·exact .inl hm
   ·exact .inr (.inr (Nat.le_refl _))
  ·exact .inr (.inl hi)
theorem QT (h:cA p w) (hlt:p.tr.length<=100000) {who sa sb r a n:Int} (hsa:sa=1) (hva:aC w av 1 3 [i64 r,i64 a,i64 n]) :
  aD prog 193 #[oO p who sa sb av] w λq w'=>yW p w (fN p.ps who sa r a n) q w':=by
 apply PU;unfold yJ;have m0:=h.lp;refine sO λw1 hb1 x1=>?_;have D1:aG w1 w1.drew:=(aG.refl _).drew;have hav1:=hva.ext x1;refine aI.mk' (λw'=>aG w1 w') D1 ?_;refine dU (λw' hw=>(hb1.ext hw).boxed) bI aZ rfl ?_;refine gR aK aJ hav1 (λw' hw=>hw) (by omega) (by omega) rfl ?_;refine dU (λw' hw=>(hb1.ext hw).boxed) bI aZ rfl ?_;refine gR aK aJ hav1 (λw' hw=>hw) (by omega) (by omega) rfl ?_;refine dU (λw' hw=>(hb1.ext hw).boxed) bI aZ rfl ?_;refine gR aK aJ hav1 (λw' hw=>hw) (by omega) (by omega) rfl ?_;refine oY (hb1.ext D1).boxed fY rfl ?_;have X1:=x1.trans D1;refine (lO (h.ext X1) hlt (who:=who) (a:=sa) (b:=sb) (av:=av)).mono λ_ w2 ⟨tv',h2,s2,f2,_⟩=>?_;have hb2:=f2.blk (hb1.ext D1) h.nT;have S2:=(nR.of_ext (p:=p) X1).trans s2;refine oY hb2.boxed fY rfl ?_;refine (lQ h2 (who:=who) (sa:=sa) (sb:=sb) (av:=av)).mono λq w3 ⟨hq,x3⟩=>?_;subst hq;have hce:BG p.ar r a n who=gS p.ps.ar r a n who:=jB _ _ _ _ _;refine aT.2 (aL (λhne=>?_) λhfine=>?_)
 ·refine lE h2 S2 x3 (x:=fN p.ps who sa r a n) ?_ ?_<;>unfold fN<;>rw [if_neg (show ¬ gS p.ps.ar r a n who=36864 from hne)]
  iterate 2
   ·rfl
 have hf:BG p.ar r a n who=36864:=hce.trans (Classical.not_not.1 hfine);have hfp:gS p.ps.ar r a n who=36864:=hce▸hf;obtain ⟨k,x,hk,hr,hm,ha0,hn0,han⟩:=fR hf;obtain ⟨n,rfl⟩:∃ m:Nat,n=m:=⟨n.toNat,by omega⟩;obtain ⟨a,rfl⟩:∃ m:Nat,a=m:=⟨a.toNat,by omega⟩;have hxm:=List.mem_of_getElem? hk;have hxl:=h.h.len x hxm;have hb3:=hb2.ext x3;have h3:=h2.ext x3;have S3:=S2.trans (nR.of_ext x3);refine bB hb3.boxed dA eY rfl ⟨.inl ⟨_,rfl⟩,?_⟩;refine V.ok rY ?_;refine ⟨λv w'=>v=.pointer (some ⟨p.rb,0+3,none⟩)/\w'=w3,?_,?_⟩
 ·refine bB hb3.boxed fU aJ rfl (aT.2 ?_);simp only [show decide (sa≠1)=false by simpa using hsa,aA];exact ⟨by first|rfl|trivial,by first|rfl|trivial⟩
 rintro _ w' ⟨rfl,hw⟩ _;have hw:=hw.symm;subst hw;refine ⟨.inl ⟨_,rfl⟩,?_⟩;refine V.ok (jG (h3.room.cell (j:=3) rfl)) ?_;refine gD iH (aC.of_own h3.qp) ?_;refine bT.2 ?_;have m1:p.tp.length<=128:=m0;rw [show IntKind.i64.wrap (((p.tp.length:Nat):Int)+(n:Int))=((p.tp.length+n:Nat):Int) from by rw [aX (by omega)];omega];refine cX.2 (aL (λhfull=>?_) λhroom=>?_)
 ·refine lE h2 S2 x3 (x:=fN p.ps who sa r a n) ?_ ?_<;>unfold fN<;>rw [if_pos hfp,if_pos hsa,if_pos (show p.ps.tp.length+((n:Nat):Int).toNat > 128 by show p.tp.length+_ > 128;rw [Int.toNat_natCast];omega)]
  ·rfl
 have D3:aG w3 w3.drew:=(aG.refl _).drew;have hrb:p.pub.ownBlock≠some p.rb:=(h.fresh p.rb (.inl rfl)).2.2.1;have hbb:p.pub.ownBlock≠some w.heap.size:=λhe=>h.nM (.inr (.inr (.inr (.inr (.inl he)))));refine aI.mk' (λw'=>Fr (λi=>p.pub.ownBlock=some i) w3 w') (Fr.of_ext D3) ⟨.inl ⟨_,rfl⟩,?_⟩;refine aB.ok (λw' hw=>jG ((hw.seg h3.room hrb).cell (j:=3) rfl)) ?_;refine yA (λw' hw=>(hw.blk hb3 hbb).boxed) fY rfl ?_;refine (oT (h3.ext D3) hk (who:=who) (sa:=sa) (sb:=sb) (av:=av) hr (a:=a) (n:=n) (by omega)).mono λbv w4 ⟨hbv,x4⟩=>?_;have x34:=D3.trans x4;refine ⟨Fr.of_ext x34,?_⟩;have hbs:=hbv w4 (Fr.refl _ _);have hbl:((x.data.drop a).take n).length=n:=by simp;omega
 have hbs':aC w4 bv 1 n (((x.data.drop a).take n).map u8):=by have:=hbs;unfold dL at this;rw [hbl] at this;exact this
 have h4:=h3.ext x34;have S4:=S3.trans (nR.of_ext x34);refine apS lD h4.qp hbs' (oJ _) (by show (p.tp.length+n)*1<=_;omega) (by unfold maxLen;show p.tp.length+n<=_;omega) h4.h.lt λv5 w5 ho5 hg5 hlies=>?_;have f5:Fr (λi=>p.pub.ownBlock=some i) w4 w5:=Fr.of_grown hg5 λk hk=>hk;have f35:Fr (λi=>p.pub.ownBlock=some i) w3 w5:=(Fr.of_ext (S:=λi=>p.pub.ownBlock=some i) x34).trans f5 λ_ _ h=>h;refine ⟨f35,.inl ⟨_,rfl⟩,?_⟩
 have ho5':w5.ownsRow p.B 5 1 v5 (p.tp++(x.data.drop a).take n).length ((p.tp++(x.data.drop a).take n).map u8):=by
  rw [List.length_append,List.map_append,hbl];exact ho5
 refine DR lJ (f35.seg h3.room hrb) rfl (by simp) (bR ho5) ?_;obtain ⟨h6,mu6,f6⟩:=h4.tellP ho5' f5 hlies (by show (p.tp++_).length<=128;rw [List.length_append,hbl];omega);refine ⟨_,?_,?_,h6,S4.trans ⟨rfl,rfl,rfl,rfl,rfl,rfl,rfl,λi hi=>?_,f6.mono λi hi=>.inl (hi.elim (λh=>.inr (.inr (.inr (.inr (.inl h))))) .inl)⟩⟩
 ·unfold fN;rw [if_pos hfp,if_pos hsa,if_neg (show ¬ p.ps.tp.length+((n:Nat):Int).toNat > 128 by show ¬ p.tp.length+_ > 128;rw [Int.toNat_natCast];omega)]
 ·unfold fN;rw [if_pos hfp,if_pos hsa,if_neg (show ¬ p.ps.tp.length+((n:Nat):Int).toNat > 128 by show ¬ p.tp.length+_ > 128;rw [Int.toNat_natCast];omega)];unfold uF;rw [show kY p.ps.ar r=x.data from jD hk hr];rfl
 ·rcases hi with hi|hi
  ·rcases mu6 i hi with hm|rfl
   ·exact .inl hm
   ·exact .inr (.inr (Nat.le_refl _))
  ·exact .inr (.inl hi)
theorem TR (h:cA p w) (hlt:p.tr.length<=100000) {who sa sb r a n:Int} (hva:aC w av 1 3 [i64 r,i64 a,i64 n]) :
  aD prog 193 #[oO p who sa sb av] w λq w'=>yW p w (fN p.ps who sa r a n) q w':=by
 by_cases hsa:sa=1
 ·exact QT h hlt hsa hva
 ·exact QS h hlt hsa hva
end
def DN (l:List PA) (i:Nat):Nat:=(((l.drop 2).take i).map λa=>8+a.data.length).sum
def gA (l:List PA):Nat:=DN l (l.length - 2)
theorem zE {ar:List bS} {i:Nat} {a:bS} (h:ar[i+2]?=some a):DN (ar.map pa) (i+1)=DN (ar.map pa) i+(8+a.data.length):=by
 unfold DN
 have hi:((ar.map pa).drop 2)[i]?=some (pa a):=by
  rw [List.getElem?_drop,List.getElem?_map,show 2+i=i+2 by omega,h];rfl
 have hl:=(List.getElem?_eq_some_iff.1 hi).1;rw [List.take_add_one,hi];simp [List.sum_append];rfl
theorem DK {w:Ω} {hb B:Nat} {size:Int} {g cap:Nat} {ar:List bS} (h:eZ w hb B size g cap ar) (h2:2<=ar.length) :
  aD prog 239 #[.pointer (some ⟨hb,0,none⟩)] w λq w'=>(q=i64 ((gA (ar.map pa):Nat):Int)/\8*(ar.length - 2)<=gA (ar.map pa)/\gA (ar.map pa)<=72*(ar.length - 2))/\aG w w':=by
 apply aHc;unfold GE;have hc:=h.cap;have hcnt:=h.cnt;refine ⟨.inl ⟨_,rfl⟩,?_⟩;refine bB h.heap.boxed cI cM rfl ?_;refine V.ok (UF (a:=2) underlying154 eX h2 hc.1) ?_;refine lA.2 ?_;refine ⟨λv v' w'=>∃ z i:Nat,v=i64 (z:Int)/\v'=i64 (i:Int)/\i<=ar.length - 2/\8*i<=z/\z<=72*i/\z=DN (ar.map pa) i/\aG w w',λ_ v _=>ar.length - (RowKit.intOf v).toNat,⟨0,0,rfl,rfl,Nat.zero_le _,Nat.le_refl _,Nat.le_refl _,rfl,aG.refl _⟩,?_⟩;rintro _ _ w1 ⟨z,i,rfl,rfl,hi,hz1,hz2,hz,x1⟩ _;refine aV.2 (aL (λhlt=>?_) λhge=>?_)
 ·have hne:¬ cap=2:=by omega
  rw [if_neg hne];obtain ⟨a,ha⟩:=bQ (l:=ar) (j:=i+2) (by omega);have hal:=h.len a (List.mem_of_getElem? ha);have ho:=h.data a (List.mem_of_getElem? ha);refine V.ok (nG (by omega) (by omega)) ?_;have e:2*5+((i:Nat):Int).toNat*5=(i+2)*5:=by omega
  rw [e];refine V.ok (wJ (cs:=a.cells) rfl λj hj=>(h.ext x1).get ha hj) ?_;refine zB oC rfl (gF (bR ho)) λw2 hc2 x2=>?_;refine bB hc2.boxed bO gJ rfl (gD iH (aC.of_own ((x1.trans x2).own ho)) ?_);refine bT.2 (bT.2 (bT.2 ?_));rw [iL (n:=8+((a.data.length:Nat):Int)) (by omega) (by omega),aX (by omega),aX (by omega)];exact ⟨⟨z+(8+a.data.length),i+1,by congr 1,by congr 1,by omega,by omega,by omega,by rw [zE ha,hz],x1.trans x2⟩,by simp only [RowKit.intOf];omega⟩
 ·have e:i=ar.length - 2:=by omega
  have e2:gA (ar.map pa)=z:=by unfold gA;rw [List.length_map,<- e,hz]
  rw [e2];exact ⟨⟨rfl,by omega,by omega⟩,x1⟩
theorem SS {w:Ω} {hb B:Nat} {size:Int} {g cap:Nat} {ar:List bS} (h:eZ w hb B size g cap ar) (h2:2<=ar.length) (hs:0<=size/\size<=1000) {who life:Int} {n:Nat} {share:Bool} (hl:0<=life/\life<=3) (hn:n<=64) :
  aD prog 215 #[.pointer (some ⟨hb,0,none⟩),i64 who,i64 3,i64 life,.bool share,i64 (n:Int)] w λq w'=>
   ((life > 2\/8+(n:Int) > size - gA (ar.map pa))/\q=.tuple #[i64 0,.bool false]/\aG w w')\/(¬ (life > 2\/8+(n:Int) > size - gA (ar.map pa))/\∃ g' cap' dv,q=.tuple #[i64 ((ar.length+1:Nat):Int),.bool true]/\eZ w' hb B size g' cap' (ar++[⟨who,3,life,share,dv,List.replicate n 0⟩])/\(∀ x,dv.ownBlock=some x->w.heap.size<=x)/\(g'=g\/w.heap.size<=g')/\Fr (λi=>i=hb\/i=g) w w'):=by
 apply PQ;unfold yC;have hc:=h.cap;have hcnt:=h.cnt;have hlt:=h.lt;have D0:aG w w.drew:=(aG.refl _).drew;refine aI.mk' (λw'=>aG w w') D0 ?_;refine aB.ok (λw' _=>oD) ?_;simp only [show decide ((3:Int)≠3)=false by decide,jR,KX,aH,reduceIte,Bool.false_eq_true];refine aB.ok (λw' _=>nE) ?_;simp only [show ¬ life < 0 by omega,jR,aH,reduceIte,Bool.false_eq_true,decide_false];refine aB.ok (λw' _=>nI) ?_;by_cases hlife:life > 2
 ·simp only [hlife,jJ,uM,aH,aE,reduceIte,decide_true];exact ⟨D0,.inl ⟨.inl (by first|exact hlife|trivial),by first|rfl|trivial,D0⟩⟩
 simp only [hlife,jR,aH,reduceIte,Bool.false_eq_true,decide_false];refine aB.ok (λw' _=>nE) ?_;simp only [show ¬ ((n:Nat):Int) < 0 by omega,jR,aH,reduceIte,Bool.false_eq_true,decide_false];refine aB.ok (λw' _=>nI) ?_;simp only [show ¬ ((n:Nat):Int) > 64 by omega,dZ,jR,aH,reduceIte,Bool.false_eq_true,decide_false];refine aB.ok (λw' _=>lG) ?_;rw [aX (by omega)];refine ⟨.inl ⟨_,rfl⟩,?_⟩;refine dU (λw' hw=>(h.heap.ext hw).boxed) eA aJ rfl ?_;refine (DK (h.ext D0) h2).mono λq w1 ⟨⟨hq,hz1,hz2⟩,x1⟩=>?_;subst hq;have X1:=D0.trans x1;refine ⟨X1,?_⟩;refine aB.ok (λw' _=>nC) ?_;rw [aX (by omega)];refine aB.ok (λw' _=>nI) ?_;refine aL (λhfull=>.inl ⟨by first|exact .inr hfull|exact hfull|omega,by first|rfl|trivial,X1⟩) λhroom=>?_;have D1:aG w1 w1.drew:=(aG.refl _).drew;have h1:=h.ext X1;have hhg:¬ hb=g:=h.fresh.1;have hhl0:=h.heap.lt;refine aI.mk' (λw'=>Fr (λi=>i=g) w1 w') (Fr.of_ext D1) ⟨.inl ⟨_,rfl⟩,?_⟩;refine dU (λw' hw=>(hw.blk h1.heap hhg).boxed) cI cM rfl ?_;have s1:=X1.size;have d1:=D1.size;refine wX (n:=n) rfl underlying23 mM rfl (by omega) (by omega) λw2 hb2 x2 hs2=>?_;have hx12:=D1.trans x2;refine ⟨Fr.of_ext hx12,?_⟩;refine pX kZ [(0,i64 who),(1,i64 3),(2,i64 life),(3,.bool share),(4,.slice (some ⟨w1.drew.heap.size,0,none⟩) n n)] rfl rfl ?_
 refine V.ok (v:=.slice (some ⟨w2.heap.size,0,none⟩) 1 1) (w':=w2.alloc (.cells (⟨who,3,life,share,.slice (some ⟨w1.drew.heap.size,0,none⟩) n n,List.replicate n 0⟩:bS).cells.toArray 127)) (by kernel_rfl) ?_;have hb3:aY (w2.alloc (.cells (⟨who,3,life,share,.slice (some ⟨w1.drew.heap.size,0,none⟩) n n,List.replicate n 0⟩:bS).cells.toArray 127)) w2.heap.size (⟨who,3,life,share,.slice (some ⟨w1.drew.heap.size,0,none⟩) n n,List.replicate n 0⟩:bS).cells 127:=by unfold aY;rw [heap_alloc_new]
 have x3:aG w2 (w2.alloc (.cells (⟨who,3,life,share,.slice (some ⟨w1.drew.heap.size,0,none⟩) n n,List.replicate n 0⟩:bS).cells.toArray 127)):=(aG.refl _).alloc _;generalize w2.alloc (.cells (⟨who,3,life,share,.slice (some ⟨w1.drew.heap.size,0,none⟩) n n,List.replicate n 0⟩:bS).cells.toArray 127)=w3 at hb3 x3 ⊢;have hx13:=hx12.trans x3;refine ⟨Fr.of_ext hx13,?_⟩;have s2:=x2.size;have s3:=x3.size;have ho3:w3.ownsRow 0 127 5 (.slice (some ⟨w2.heap.size,0,none⟩) 1 1) 1 _:=dX hb3 rfl (Nat.zero_le _) (by unfold maxLen;omega);refine apZ underlying154 eX rfl (by omega) (hx13.own h1.row) ho3 (by omega) rfl (by omega) (by unfold maxLen;omega) (by omega) λg' cap' w4 ho4 hg4 hlies=>?_;have f4:Fr (λi=>i=g) w3 w4:=Fr.of_grown hg4 λk hk=>by simpa [Value.ownBlock] using hk.symm
 have f14:Fr (λi=>i=g) w1 w4:=(Fr.of_ext (S:=λi=>i=g) hx13).trans f4 λ_ _ h=>h;refine ⟨f14,.inl ⟨_,rfl⟩,?_⟩;refine aB.ok (λw' _=>wL) ?_;have hheap4:=f14.blk h1.heap hhg;refine sT oI hheap4 rfl (by simp) rfl ?_;have f5:Fr (λi=>i=hb) w4 (w4.setCell ⟨hb,1,none⟩ (.slice (some ⟨g',0,none⟩) (ar.length+1) cap')):=Fr.of_set rfl;have hb5:=hheap4.set 1 (.slice (some ⟨g',0,none⟩) (ar.length+1) cap')
 have hg':g'=g\/w1.heap.size<=g'/\w1.drew.heap.size≠g':=by
  rcases hlies with hl|hl
  ·left;simpa [Value.ownBlock] using hl.symm
  ·right;omega
 have hhl:=h.heap.lt;have hg'b:¬ g'=hb:=by omega
 have ho5:=f5.own ho4 λk hk=>by
  have:g'=k:=by simpa [Value.ownBlock] using hk
  omega
 have hd4:w4.ownsRow w1.heap.size 5 1 (.slice (some ⟨w1.drew.heap.size,0,none⟩) n n) n (List.replicate n (u8 0)):=dX (f4.blk (hb2.ext x3) (by omega)) (by simp) (by omega) (by unfold maxLen;omega)
 have hd5:=f5.own hd4 λk hk=>by
  have:w1.drew.heap.size=k:=by simpa [Value.ownBlock] using hk
  omega
 generalize w4.setCell ⟨hb,1,none⟩ (.slice (some ⟨g',0,none⟩) (ar.length+1) cap')=w5 at f5 hb5 ho5 hd5 ⊢;have f15:=f14.or f5;have F15:Fr (λi=>i=hb\/i=g) w1 w5:=f15.mono λi hi=>hi.symm;refine ⟨.inl ⟨_,rfl⟩,?_⟩;refine bB hb5.boxed cI cM rfl (lA.2 ?_);refine .inr ⟨by first|exact hroom|omega|(intro hh;rcases hh with hh|hh<;>first|exact hh.elim|omega|exact absurd hh hroom),g',cap',.slice (some ⟨w1.drew.heap.size,0,none⟩) n n,rfl,?_,λx hx=>?_,by omega,(Fr.of_ext (S:=λi=>i=hb\/i=g) X1).trans F15 λ_ _ h=>h⟩
 ·refine h1.push _ (by simpa using hn) (by omega) hb5 ho5 ?_ ?_ (by omega) F15
  ·simpa using hd5
  ·intro he;have:w1.drew.heap.size=g':=by simpa [Value.ownBlock] using he
   rcases hg' with rfl|hg'
   ·have:=h1.cap;omega
   ·omega
 ·have:w1.drew.heap.size=x:=by simpa [Value.ownBlock] using hx
  omega
theorem SR {w:Ω} {hb B:Nat} {size:Int} {g cap:Nat} {ar:List bS} (h:eZ w hb B size g cap ar) (h2:2<=ar.length) (hs:0<=size/\size<=1000) {who life:Int} {n:Nat} {share:Bool} (hl:0<=life/\life<=3) (hn:n<=64) :
  aD prog 215 #[.pointer (some ⟨hb,0,none⟩),i64 who,i64 4,i64 life,.bool share,i64 (n:Int)] w λq w'=>
   ((life > 2\/8+(n:Int) > size - gA (ar.map pa))/\q=.tuple #[i64 0,.bool false]/\aG w w')\/(¬ (life > 2\/8+(n:Int) > size - gA (ar.map pa))/\∃ g' cap' dv,q=.tuple #[i64 ((ar.length+1:Nat):Int),.bool true]/\eZ w' hb B size g' cap' (ar++[⟨who,4,life,share,dv,List.replicate n 0⟩])/\(∀ x,dv.ownBlock=some x->w.heap.size<=x)/\(g'=g\/w.heap.size<=g')/\Fr (λi=>i=hb\/i=g) w w'):=by
 apply PQ;unfold yC;have hc:=h.cap;have hcnt:=h.cnt;have hlt:=h.lt;have D0:aG w w.drew:=(aG.refl _).drew;refine aI.mk' (λw'=>aG w w') D0 ?_;refine aB.ok (λw' _=>oD) ?_;simp only [show decide ((4:Int)≠3)=true by decide,WE,aH,reduceIte];refine aB.ok (λw' _=>oD) ?_;simp only [show decide ((4:Int)≠4)=false by decide,jR,aH,reduceIte,Bool.false_eq_true];refine aB.ok (λw' _=>nE) ?_;simp only [show ¬ life < 0 by omega,jR,aH,reduceIte,Bool.false_eq_true,decide_false];refine aB.ok (λw' _=>nI) ?_;by_cases hlife:life > 2
 ·simp only [hlife,jJ,uM,aH,aE,reduceIte,decide_true];exact ⟨D0,.inl ⟨.inl (by first|exact hlife|trivial),by first|rfl|trivial,D0⟩⟩
 simp only [hlife,jR,aH,reduceIte,Bool.false_eq_true,decide_false];refine aB.ok (λw' _=>nE) ?_;simp only [show ¬ ((n:Nat):Int) < 0 by omega,jR,aH,reduceIte,Bool.false_eq_true,decide_false];refine aB.ok (λw' _=>nI) ?_;simp only [show ¬ ((n:Nat):Int) > 64 by omega,dZ,jR,aH,reduceIte,Bool.false_eq_true,decide_false];refine aB.ok (λw' _=>lG) ?_;rw [aX (by omega)];refine ⟨.inl ⟨_,rfl⟩,?_⟩;refine dU (λw' hw=>(h.heap.ext hw).boxed) eA aJ rfl ?_;refine (DK (h.ext D0) h2).mono λq w1 ⟨⟨hq,hz1,hz2⟩,x1⟩=>?_;subst hq;have X1:=D0.trans x1;refine ⟨X1,?_⟩;refine aB.ok (λw' _=>nC) ?_;rw [aX (by omega)];refine aB.ok (λw' _=>nI) ?_;refine aL (λhfull=>.inl ⟨by first|exact .inr hfull|exact hfull|omega,by first|rfl|trivial,X1⟩) λhroom=>?_;have D1:aG w1 w1.drew:=(aG.refl _).drew;have h1:=h.ext X1;have hhg:¬ hb=g:=h.fresh.1;have hhl0:=h.heap.lt;refine aI.mk' (λw'=>Fr (λi=>i=g) w1 w') (Fr.of_ext D1) ⟨.inl ⟨_,rfl⟩,?_⟩;refine dU (λw' hw=>(hw.blk h1.heap hhg).boxed) cI cM rfl ?_;have s1:=X1.size;have d1:=D1.size;refine wX (n:=n) rfl underlying23 mM rfl (by omega) (by omega) λw2 hb2 x2 hs2=>?_;have hx12:=D1.trans x2;refine ⟨Fr.of_ext hx12,?_⟩;refine pX kZ [(0,i64 who),(1,i64 4),(2,i64 life),(3,.bool share),(4,.slice (some ⟨w1.drew.heap.size,0,none⟩) n n)] rfl rfl ?_
 refine V.ok (v:=.slice (some ⟨w2.heap.size,0,none⟩) 1 1) (w':=w2.alloc (.cells (⟨who,4,life,share,.slice (some ⟨w1.drew.heap.size,0,none⟩) n n,List.replicate n 0⟩:bS).cells.toArray 127)) (by kernel_rfl) ?_;have hb3:aY (w2.alloc (.cells (⟨who,4,life,share,.slice (some ⟨w1.drew.heap.size,0,none⟩) n n,List.replicate n 0⟩:bS).cells.toArray 127)) w2.heap.size (⟨who,4,life,share,.slice (some ⟨w1.drew.heap.size,0,none⟩) n n,List.replicate n 0⟩:bS).cells 127:=by unfold aY;rw [heap_alloc_new]
 have x3:aG w2 (w2.alloc (.cells (⟨who,4,life,share,.slice (some ⟨w1.drew.heap.size,0,none⟩) n n,List.replicate n 0⟩:bS).cells.toArray 127)):=(aG.refl _).alloc _;generalize w2.alloc (.cells (⟨who,4,life,share,.slice (some ⟨w1.drew.heap.size,0,none⟩) n n,List.replicate n 0⟩:bS).cells.toArray 127)=w3 at hb3 x3 ⊢;have hx13:=hx12.trans x3;refine ⟨Fr.of_ext hx13,?_⟩;have s2:=x2.size;have s3:=x3.size;have ho3:w3.ownsRow 0 127 5 (.slice (some ⟨w2.heap.size,0,none⟩) 1 1) 1 _:=dX hb3 rfl (Nat.zero_le _) (by unfold maxLen;omega);refine apZ underlying154 eX rfl (by omega) (hx13.own h1.row) ho3 (by omega) rfl (by omega) (by unfold maxLen;omega) (by omega) λg' cap' w4 ho4 hg4 hlies=>?_;have f4:Fr (λi=>i=g) w3 w4:=Fr.of_grown hg4 λk hk=>by simpa [Value.ownBlock] using hk.symm
 have f14:Fr (λi=>i=g) w1 w4:=(Fr.of_ext (S:=λi=>i=g) hx13).trans f4 λ_ _ h=>h;refine ⟨f14,.inl ⟨_,rfl⟩,?_⟩;refine aB.ok (λw' _=>wL) ?_;have hheap4:=f14.blk h1.heap hhg;refine sT oI hheap4 rfl (by simp) rfl ?_;have f5:Fr (λi=>i=hb) w4 (w4.setCell ⟨hb,1,none⟩ (.slice (some ⟨g',0,none⟩) (ar.length+1) cap')):=Fr.of_set rfl;have hb5:=hheap4.set 1 (.slice (some ⟨g',0,none⟩) (ar.length+1) cap')
 have hg':g'=g\/w1.heap.size<=g'/\w1.drew.heap.size≠g':=by
  rcases hlies with hl|hl
  ·left;simpa [Value.ownBlock] using hl.symm
  ·right;omega
 have hhl:=h.heap.lt;have hg'b:¬ g'=hb:=by omega
 have ho5:=f5.own ho4 λk hk=>by
  have:g'=k:=by simpa [Value.ownBlock] using hk
  omega
 have hd4:w4.ownsRow w1.heap.size 5 1 (.slice (some ⟨w1.drew.heap.size,0,none⟩) n n) n (List.replicate n (u8 0)):=dX (f4.blk (hb2.ext x3) (by omega)) (by simp) (by omega) (by unfold maxLen;omega)
 have hd5:=f5.own hd4 λk hk=>by
  have:w1.drew.heap.size=k:=by simpa [Value.ownBlock] using hk
  omega
 generalize w4.setCell ⟨hb,1,none⟩ (.slice (some ⟨g',0,none⟩) (ar.length+1) cap')=w5 at f5 hb5 ho5 hd5 ⊢;have f15:=f14.or f5;have F15:Fr (λi=>i=hb\/i=g) w1 w5:=f15.mono λi hi=>hi.symm;refine ⟨.inl ⟨_,rfl⟩,?_⟩;refine bB hb5.boxed cI cM rfl (lA.2 ?_);refine .inr ⟨by first|exact hroom|omega|(intro hh;rcases hh with hh|hh<;>first|exact hh.elim|omega|exact absurd hh hroom),g',cap',.slice (some ⟨w1.drew.heap.size,0,none⟩) n n,rfl,?_,λx hx=>?_,by omega,(Fr.of_ext (S:=λi=>i=hb\/i=g) X1).trans F15 λ_ _ h=>h⟩
 ·refine h1.push _ (by simpa using hn) (by omega) hb5 ho5 ?_ ?_ (by omega) F15
  ·simpa using hd5
  ·intro he;have:w1.drew.heap.size=g':=by simpa [Value.ownBlock] using he
   rcases hg' with rfl|hg'
   ·have:=h1.cap;omega
   ·omega
 ·have:w1.drew.heap.size=x:=by simpa [Value.ownBlock] using hx
  omega
theorem cA.push {p:RP} {w w':Ω} {g' cap':Nat} (h:cA p w) {a:bS} (hh:eZ w' p.hb p.B p.size g' cap' (p.ar++[a])) (hok:pQ a.data) (hn:∀ x,a.dv.ownBlock=some x->w.heap.size<=x) (hg:g'=p.g\/w.heap.size<=g') (hf:Fr (λi=>i=p.hb\/i=p.g) w w') :
  cA { p with g:=g',cap:=cap',ar:=p.ar++[a] } w'/\∀ i,iX { p with g:=g',cap:=cap',ar:=p.ar++[a] } i->iX p i\/w.heap.size<=i:=by
 have hlt:=h.lt;have hhl:=h.h.lt;have hc:=h.h.cap;have pb:∀ x,p.pub.ownBlock=some x->p.B<=x/\x < w.heap.size:=λx hx=>h.qp.lt x hx;have sb:∀ x,p.sec.ownBlock=some x->p.B<=x/\x < w.heap.size:=λx hx=>h.qs.lt x hx;have hrl:=h.room.lt;have hhl2:=h.h.heap.lt
 have mu:∀ i,iX { p with g:=g',cap:=cap',ar:=p.ar++[a] } i->iX p i\/w.heap.size<=i:=λi hi=>by
  rcases hi with hi|hi|hi|⟨b,hb',he⟩|hi
  ·exact .inl (.inl hi)
  ·exact .inl (.inr (.inl hi))
  ·have hi:i=g':=hi;rcases hg with hg|hg
   ·exact .inl (.inr (.inr (.inl (hi.trans hg))))
   ·exact .inr (hi▸hg)
  ·rcases List.mem_append.1 hb' with hb'|hb'
   ·exact .inl (.inr (.inr (.inr (.inl ⟨b,hb',he⟩))))
   ·obtain rfl:=List.mem_singleton.1 hb';exact .inr (hn i he)
  ·exact .inl (.inr (.inr (.inr (.inr hi))))
 have hM:∀ i,(i=p.hb\/i=p.g)->iX p i:=λi hi=>hi.elim (λh=>.inr (.inl h)) λh=>.inr (.inr (.inl h))
 refine ⟨⟨hf.seg h.room (λhe=>he.elim hlt (h.fresh p.rb (.inl rfl)).1),hh,hf.own h.qp λi hi he=>?_,hf.own h.qs λi hi he=>?_,h.lp,h.ls,h.ne,λb hb' x hx he=>?_,λb hb' x hx he=>?_,λhe=>?_,λhe=>?_,hlt,λy hy=>⟨?_,λb hb' he=>?_,(h.fresh y hy).2.2⟩,
  hf.blk h.tbox λhe=>h.tfr _ (.inl rfl) (hM _ he),hf.own h.trow λi hi he=>h.tfr i (.inr hi) (hM i he),h.tne,λi ht hm=>?_,by have:=h.two;simp;omega,h.sz,λb hb'=>?_⟩,mu⟩
 ·rcases he with rfl|rfl
  ·exact (h.fresh _ (.inr rfl)).2.2.1 hi
  ·exact h.gp hi
 ·rcases he with rfl|rfl
  ·exact (h.fresh _ (.inr rfl)).2.2.2 hi
  ·exact h.gs hi
 ·rcases List.mem_append.1 hb' with hb'|hb'
  ·exact h.np b hb' x hx he
  ·obtain rfl:=List.mem_singleton.1 hb';have:=hn x hx;have:=pb x he;omega
 ·rcases List.mem_append.1 hb' with hb'|hb'
  ·exact h.ns b hb' x hx he
  ·obtain rfl:=List.mem_singleton.1 hb';have:=hn x hx;have:=sb x he;omega
 ·rcases hg with rfl|hg
  ·exact h.gp he
  ·have:=pb g' he;omega
 ·rcases hg with rfl|hg
  ·exact h.gs he
  ·have:=sb g' he;omega
 ·have hne:=(h.fresh y hy).1
  have hyl:y < w.heap.size:=by
   rcases hy with e|e
   ·rw [show y=p.rb from e];exact hrl
   ·rw [show y=p.hb from e];exact hhl2
  show y≠g';omega
 ·rcases List.mem_append.1 hb' with hb'|hb'
  ·exact (h.fresh y hy).2.1 b hb' he
  ·obtain rfl:=List.mem_singleton.1 hb';have:=hn y he;rcases hy with e|e
   ·have:y=p.rb:=e;omega
   ·have:y=p.hb:=e;omega
 ·rcases mu i hm with hm|hm
  ·exact h.tfr i ht hm
  ·have:=h.hi i (.inr ht);omega
 ·rcases List.mem_append.1 hb' with hb'|hb'
  ·exact h.bytes b hb'
  ·obtain rfl:=List.mem_singleton.1 hb';exact hok
theorem zW (n:Nat):pQ (List.replicate n 0):=λb hb=>by
 rw [(List.mem_replicate.1 hb).2];omega
def jX (sb:Int):Int:=IntKind.i64.wrap (BitVec.ofInt IntKind.i64.bits sb &&& BitVec.ofInt IntKind.i64.bits 3).toNat
def dW (s:PS) (who sa sb n:Int):AZ:=if n < 0\/n > 64 then (0,28425,s.ev [⟨3,sa,sb,n⟩]) else if jX sb > 2\/8+n > s.size - gA s.ar then (0,28421,s.ev [⟨3,sa,sb,n⟩]) else (IntKind.i32.wrap ((s.ar.length+1:Nat):Int),36864,{ s.ev [⟨3,sa,sb,n⟩] with ar:=s.ar++[⟨who,sa,jX sb,decide (sb>=4),List.replicate n.toNat 0⟩] })
theorem VL {p:RP} {w:Ω} {av:O} (h:cA p w) (hl:p.tr.length<=100000) {who sb n:Int} (hsb:0<=sb/\sb < 7) (hav:aC w av 1 1 [i64 n]) :
  aD prog 187 #[oO p who 3 sb av] w λq w'=>yW p w (dW p.ps who 3 sb n) q w':=by
 apply PW;unfold yK;refine sO λw1 hb1 x1=>?_;refine bB hb1.boxed bI aZ rfl ?_;refine mH aK aJ (hav.ext x1) (by omega) (by omega) rfl ?_;refine oY hb1.boxed fY rfl ?_;refine bB hb1.boxed fU aJ rfl ?_;refine bB hb1.boxed fT aJ rfl ?_;refine (tZ (h.ext x1) hl (who:=who) (a:=3) (b:=sb) (av:=av)).mono λ_ w2 ⟨tv',h2,s2,f2,_⟩=>?_;have hb2:=f2.blk hb1 h.nT;have S2:=(nR.of_ext (p:=p) x1).trans s2;refine aV.2 ?_;by_cases hn0:n < 0
 ·simp only [hn0,jJ,aH,aE,reduceIte,decide_true];refine lE h2 S2 (aG.refl _) (x:=dW p.ps who 3 sb n) ?_ ?_<;>unfold dW<;>rw [if_pos (.inl hn0)]
  ·rfl
 simp only [hn0,cX,dZ,aH,reduceIte,Bool.false_eq_true,decide_false];by_cases hn1:n > 64
 ·simp only [hn1,aE,decide_true];refine lE h2 S2 (aG.refl _) (x:=dW p.ps who 3 sb n) ?_ ?_<;>unfold dW<;>rw [if_pos (.inr hn1)]
  ·rfl
 simp only [hn1,aA,decide_false];have hnn:¬ (n < 0\/n > 64):=by omega
 obtain ⟨n,rfl⟩:∃ m:Nat,n=m:=⟨n.toNat,by omega⟩;have D2:aG w2 w2.drew:=(aG.refl _).drew;have hlt:=h.lt;have hc:=h.h.cap;have hhl:=h.h.heap.lt;have hS:∀ w',Fr (λi=>i=p.hb\/i=p.g) w2 w'->aY w' w.heap.size (oO p who 3 sb av).cells.toList 283:=λw' hw=>hw.blk hb2 (by omega);have hR:∀ w',Fr (λi=>i=p.hb\/i=p.g) w2 w'->lM w' p.rb 0 [.pointer (some ⟨p.hb,0,none⟩),p.iv,p.fv,p.pub,p.sec]:=λw' hw=>hw.seg h2.room (λhe=>he.elim hlt (h.fresh p.rb (.inl rfl)).1);refine aI.mk' (λw'=>Fr (λi=>i=p.hb\/i=p.g) w2 w') (Fr.of_ext D2) ?_;refine dU (λw' hw=>(hS w' hw).boxed) dA eY rfl ⟨.inl ⟨_,rfl⟩,?_⟩;refine dU (λw' hw=>(hR w' hw).boxed) bX dY rfl ?_;refine dU (λw' hw=>(hS w' hw).boxed) gU aJ rfl ?_;refine dU (λw' hw=>(hS w' hw).boxed) fU aJ rfl ?_;refine dU (λw' hw=>(hS w' hw).boxed) fT aJ rfl ?_;refine aB.ok (λw' _=>wP) ?_;refine dU (λw' hw=>(hS w' hw).boxed) fT aJ rfl ?_;refine aB.ok (λw' _=>wK) ?_;have h3:=h2.ext D2
 have hlife:0<=jX sb/\jX sb<=3:=by
  have h7:sb=0\/sb=1\/sb=2\/sb=3\/sb=4\/sb=5\/sb=6:=by omega
  rcases h7 with rfl|rfl|rfl|rfl|rfl|rfl|rfl<;>decide
 refine (SS h3.h h3.two h3.sz hlife (n:=n) (by omega)).mono λq w4 hq=>?_;rcases hq with ⟨hfull,rfl,x4⟩|⟨hroom,g',cap',dv,rfl,hh,hdv,hg,hf⟩
 ·refine ⟨Fr.of_ext (D2.trans x4),?_⟩;refine aB.ok (λw' _=>fQ) ?_;refine aB.ok (λw' _=>fP) ?_;refine eJ.2 (aE.2 ?_);refine lE h2 S2 (D2.trans x4) (x:=dW p.ps who 3 sb n) ?_ ?_<;>unfold dW<;>rw [if_neg hnn,if_pos (show jX sb > 2\/8+(n:Int) > p.ps.size - gA p.ps.ar from hfull)]
  ·rfl
 ·have f24:Fr (λi=>i=p.hb\/i=p.g) w2 w4:=(Fr.of_ext (S:=λi=>i=p.hb\/i=p.g) D2).trans hf λ_ _ h=>h;refine ⟨f24,?_⟩;refine aB.ok (λw' _=>fQ) ?_;refine aB.ok (λw' _=>fP) ?_;refine eJ.2 (aA.2 ?_);refine V.ok (bG underlying3 underlying21) ?_;obtain ⟨h5,mu5⟩:=h3.push hh (zW n) hdv hg hf;have s24:=S2.fr.size;have d2:=D2.size;refine ⟨_,?_,?_,h5,S2.trans ⟨rfl,rfl,rfl,rfl,rfl,rfl,rfl,λi hi=>?_,f24.mono λi hi=>.inl (hi.elim (λh=>.inr (.inl h)) λh=>.inr (.inr (.inl h)))⟩⟩
  ·unfold dW;rw [if_neg hnn,if_neg (show ¬ (jX sb > 2\/8+(n:Int) > p.ps.size - gA p.ps.ar) from hroom)];show _=Value.tuple #[i32 (IntKind.i32.wrap (((p.ar.map pa).length+1:Nat):Int)),i64 36864];rw [List.length_map]
   first|done|rfl
  ·unfold dW;rw [if_neg hnn,if_neg (show ¬ (jX sb > 2\/8+(n:Int) > p.ps.size - gA p.ps.ar) from hroom)];show (⟨p.size,(p.ar++[_]).map pa,p.tp,p.ts,p.tr++[_]⟩:PS)=_;rw [List.map_append];simp only [Int.toNat_natCast];rfl
  ·rcases hi with hi|hi
   ·rcases mu5 i hi with hm|hm
    ·exact .inl hm
    ·exact .inr (.inr (Nat.le_trans d2 hm))
   ·exact .inr (.inl hi)
theorem VK {p:RP} {w:Ω} {av:O} (h:cA p w) (hl:p.tr.length<=100000) {who sb n:Int} (hsb:0<=sb/\sb < 7) (hav:aC w av 1 1 [i64 n]) :
  aD prog 187 #[oO p who 4 sb av] w λq w'=>yW p w (dW p.ps who 4 sb n) q w':=by
 apply PW;unfold yK;refine sO λw1 hb1 x1=>?_;refine bB hb1.boxed bI aZ rfl ?_;refine mH aK aJ (hav.ext x1) (by omega) (by omega) rfl ?_;refine oY hb1.boxed fY rfl ?_;refine bB hb1.boxed fU aJ rfl ?_;refine bB hb1.boxed fT aJ rfl ?_;refine (tZ (h.ext x1) hl (who:=who) (a:=4) (b:=sb) (av:=av)).mono λ_ w2 ⟨tv',h2,s2,f2,_⟩=>?_;have hb2:=f2.blk hb1 h.nT;have S2:=(nR.of_ext (p:=p) x1).trans s2;refine aV.2 ?_;by_cases hn0:n < 0
 ·simp only [hn0,jJ,aH,aE,reduceIte,decide_true];refine lE h2 S2 (aG.refl _) (x:=dW p.ps who 4 sb n) ?_ ?_<;>unfold dW<;>rw [if_pos (.inl hn0)]
  ·rfl
 simp only [hn0,cX,dZ,aH,reduceIte,Bool.false_eq_true,decide_false];by_cases hn1:n > 64
 ·simp only [hn1,aE,decide_true];refine lE h2 S2 (aG.refl _) (x:=dW p.ps who 4 sb n) ?_ ?_<;>unfold dW<;>rw [if_pos (.inr hn1)]
  ·rfl
 simp only [hn1,aA,decide_false];have hnn:¬ (n < 0\/n > 64):=by omega
 obtain ⟨n,rfl⟩:∃ m:Nat,n=m:=⟨n.toNat,by omega⟩;have D2:aG w2 w2.drew:=(aG.refl _).drew;have hlt:=h.lt;have hc:=h.h.cap;have hhl:=h.h.heap.lt;have hS:∀ w',Fr (λi=>i=p.hb\/i=p.g) w2 w'->aY w' w.heap.size (oO p who 4 sb av).cells.toList 283:=λw' hw=>hw.blk hb2 (by omega);have hR:∀ w',Fr (λi=>i=p.hb\/i=p.g) w2 w'->lM w' p.rb 0 [.pointer (some ⟨p.hb,0,none⟩),p.iv,p.fv,p.pub,p.sec]:=λw' hw=>hw.seg h2.room (λhe=>he.elim hlt (h.fresh p.rb (.inl rfl)).1);refine aI.mk' (λw'=>Fr (λi=>i=p.hb\/i=p.g) w2 w') (Fr.of_ext D2) ?_;refine dU (λw' hw=>(hS w' hw).boxed) dA eY rfl ⟨.inl ⟨_,rfl⟩,?_⟩;refine dU (λw' hw=>(hR w' hw).boxed) bX dY rfl ?_;refine dU (λw' hw=>(hS w' hw).boxed) gU aJ rfl ?_;refine dU (λw' hw=>(hS w' hw).boxed) fU aJ rfl ?_;refine dU (λw' hw=>(hS w' hw).boxed) fT aJ rfl ?_;refine aB.ok (λw' _=>wP) ?_;refine dU (λw' hw=>(hS w' hw).boxed) fT aJ rfl ?_;refine aB.ok (λw' _=>wK) ?_;have h3:=h2.ext D2
 have hlife:0<=jX sb/\jX sb<=3:=by
  have h7:sb=0\/sb=1\/sb=2\/sb=3\/sb=4\/sb=5\/sb=6:=by omega
  rcases h7 with rfl|rfl|rfl|rfl|rfl|rfl|rfl<;>decide
 refine (SR h3.h h3.two h3.sz hlife (n:=n) (by omega)).mono λq w4 hq=>?_;rcases hq with ⟨hfull,rfl,x4⟩|⟨hroom,g',cap',dv,rfl,hh,hdv,hg,hf⟩
 ·refine ⟨Fr.of_ext (D2.trans x4),?_⟩;refine aB.ok (λw' _=>fQ) ?_;refine aB.ok (λw' _=>fP) ?_;refine eJ.2 (aE.2 ?_);refine lE h2 S2 (D2.trans x4) (x:=dW p.ps who 4 sb n) ?_ ?_<;>unfold dW<;>rw [if_neg hnn,if_pos (show jX sb > 2\/8+(n:Int) > p.ps.size - gA p.ps.ar from hfull)]
  ·rfl
 ·have f24:Fr (λi=>i=p.hb\/i=p.g) w2 w4:=(Fr.of_ext (S:=λi=>i=p.hb\/i=p.g) D2).trans hf λ_ _ h=>h;refine ⟨f24,?_⟩;refine aB.ok (λw' _=>fQ) ?_;refine aB.ok (λw' _=>fP) ?_;refine eJ.2 (aA.2 ?_);refine V.ok (bG underlying3 underlying21) ?_;obtain ⟨h5,mu5⟩:=h3.push hh (zW n) hdv hg hf;have s24:=S2.fr.size;have d2:=D2.size;refine ⟨_,?_,?_,h5,S2.trans ⟨rfl,rfl,rfl,rfl,rfl,rfl,rfl,λi hi=>?_,f24.mono λi hi=>.inl (hi.elim (λh=>.inr (.inl h)) λh=>.inr (.inr (.inl h)))⟩⟩
  ·unfold dW;rw [if_neg hnn,if_neg (show ¬ (jX sb > 2\/8+(n:Int) > p.ps.size - gA p.ps.ar) from hroom)];show _=Value.tuple #[i32 (IntKind.i32.wrap (((p.ar.map pa).length+1:Nat):Int)),i64 36864];rw [List.length_map]
   first|done|rfl
  ·unfold dW;rw [if_neg hnn,if_neg (show ¬ (jX sb > 2\/8+(n:Int) > p.ps.size - gA p.ps.ar) from hroom)];show (⟨p.size,(p.ar++[_]).map pa,p.tp,p.ts,p.tr++[_]⟩:PS)=_;rw [List.map_append];simp only [Int.toNat_natCast];rfl
  ·rcases hi with hi|hi
   ·rcases mu5 i hi with hm|hm
    ·exact .inl hm
    ·exact .inr (.inr (Nat.le_trans d2 hm))
   ·exact .inr (.inl hi)
end Go.Proofs.YtgkkecladbmjkaaGreatDoor
