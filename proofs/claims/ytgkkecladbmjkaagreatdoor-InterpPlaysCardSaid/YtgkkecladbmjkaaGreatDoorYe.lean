/- The maker of applets: numbers. -/
import Derived.Test.YtgkkecladbmjkaaGreatDoorYd
import Derived.Laws.RangeString
set_option maxHeartbeats 4000000
set_option linter.unusedSimpArgs false
namespace Go.Vc
theorem aEy {P:Program} {w:Ω} {K:O->Ω->Prop} {t:TypeId} {parts:Array (Nat × O)} {v:O} (h:∀ w,(Instr.build t parts).run P w=.ok v w) (hk:K v w):V P (Instr.build t parts) w K:=V.ok (h w) hk
end Go.Vc
namespace Go.Proofs.YtgkkecladbmjkaaGreatDoor
open Tryz
open Go.Vc Go.Tc
variable {w:Ω} {K:O->Ω->Prop}
variable {d k n:Nat} {wb:Ω}
def tU (d k:Nat):Prop:=∀ {c:Mc} {wb w:Ω} {lo n:Nat} {K:O->Ω->Prop},Mk c wb w lo n d->n+k<=800000->(∀ w',Mk c wb w' 0 (n+k) d->K (.tuple #[]) w')->aC prog 180 #[.pointer (some ⟨c.g,0,none⟩)] w K
def vO (d k:Nat):Prop:=∀ {c:Mc} {wb w:Ω} {lo n:Nat} {K:O->Ω->Prop},Mk c wb w lo n d->n+k<=800000->(∀ w',Mk c wb w' 0 (n+k) d->K (.tuple #[]) w')->aC prog 181 #[.pointer (some ⟨c.g,0,none⟩)] w K
theorem mJ (hp:tU d k) (hk2:2<=k) {c:Mc} {lo:Nat} (h:Mk c wb w lo n d) (hn:n+k+1<=800000) (hk:∀ w',Mk c wb w' 0 (n+k+1) d->K (.tuple #[]) w') :
  aC prog 179 #[.pointer (some ⟨c.g,0,none⟩)] w K:=by
 apply aHf;unfold JX;refine hJ h (by omega) λz w1 h1 _=>?_;refine eV (by decide) (by decide) λq hq0 hq1=>?_;refine aF.2 (aK (λhe=>?_) λhe=>?_)
 ·exact hp h1 (by omega) λw2 h2=>hk _ (h2.up (by omega))
 ·refine hJ h1 (by omega) λz w2 h2 _=>?_;refine eV (by decide) (by decide) λq hq0 hq1=>?_;exact dV h2 (by omega) λw3 h3=>hk _ (h3.up (by omega))
theorem aAc {c:Mc} {lo:Nat} {i:Int} (h:Mk c wb w lo n d) (h0:0<=i) (h1:i < 12) (hk:∀ z,K (i64 z) w) :
  V prog (Instr.indexAt 301 (.pointer (some ⟨2,0,none⟩)) (i64 i)) w λp w1=>V prog (Instr.loadAt 3 p) w1 K:=by
 refine V.ok (aSr underlying301 fK h0 (by simpa using h1)) ?_;obtain ⟨op,hop⟩:=h.o.bins _ h.fr i.toNat (by omega);exact V.ok (YX (by rw [Nat.zero_add];exact hop)) (hk _)
theorem xF (h20:20<=k) (hd:d<=3) (hs:d < 3->∃ k',tU (d+1) k'/\vO (d+1) k'/\20<=k'/\k=3*k'+20):tU d k:=by
 intro c wb w lo n K h hn hk;apply aHe;unfold JW;refine ⟨.inl ⟨_,rfl⟩,ldD h (bW.2 ?_)⟩;rw [aX (by omega),dF];refine ⟨.inl ⟨_,rfl⟩,stD h λw1 h1=>?_⟩;refine hJ h1 (by omega) λz0 w2 hh0 _=>?_;refine eV (by decide) (by decide) λq hq0 hq1=>?_;refine ⟨λv w'=>∃ z,v=i64 z/\w'=w2/\0<=z/\z < 12/\(d=3->z < 3),?_,?_⟩
 ·refine ⟨.inl ⟨_,rfl⟩,ldD hh0 (dR.2 (aK (λhg=>?_) λhg=>?_))⟩
  ·refine rm (by decide) λe he h1 h2=>⟨e,rfl,rfl,?_,by omega,λ_=>by omega⟩;rw [he];exact Int.tmod_nonneg _ hq0
  ·exact ⟨q,rfl,rfl,hq0,hq1,λ_=>by omega⟩
 rintro _ _ ⟨z,rfl,rfl,hz0,hz1,hleaf⟩ _;refine ⟨λw'=>Mk c wb w' 0 (n+k) (d+1),?_,?_⟩
 case refine_2=>
  intro w3 h3 _;refine ⟨.inl ⟨_,rfl⟩,ldD h3 (jV.2 ?_)⟩;rw [aX (by omega),show ((d+1:Nat):Int) - 1=((d:Nat):Int) by omega];exact ⟨.inl ⟨_,rfl⟩,stD h3 λw4 h4=>hk _ h4⟩
 have hc:z=0\/z=1\/z=2\/z=3\/z=4\/z=5\/z=6\/z=7\/z=8\/z=9\/z=10\/z=11:=by omega
 have hdeep:3<=z->∃ k',tU (d+1) k'/\vO (d+1) k'/\20<=k'/\k=3*k'+20:=λhz=>hs (by omega);rcases hc with rfl|rfl|rfl|rfl|rfl|rfl|rfl|rfl|rfl|rfl|rfl|rfl
 iterate 2
  ·simp only [aY,Int.reduceEq,Int.reduceNeg]
   intros
   refine aEy (v:=.agg (([0,1,2,3,7,-1,64,1073741824]:List Int).map i64).toArray) (λw=>by kernel_rfl) ?_;refine hJ hh0 (by omega) λz w1 hh1 _=>?_;refine eV (by decide) (by decide) λq hq0 hq1=>?_;refine aEm underlying300 fK underlying3 (by decide) hq0 (by simpa using hq1) λu hu=>?_;refine dV hh1 (by omega) λw1 hh2=>?_;exact hh2.up (by omega)
 ·simp only [aY,Int.reduceEq,Int.reduceNeg]
  intros
  refine vH hh0 (by omega) λz b w1 hh1=>?_;refine cL.2 (cK.2 ?_);cases b with
  | true=>
   refine aE.2 ?_;refine dV hh1 (by omega) λw1 hh2=>?_;exact hh2.up (by omega)
  | false=>
   refine aA.2 ?_;refine hJ hh1 (by omega) λz w1 hh2 _=>?_;refine rm (by decide) λe _ _ _=>?_;refine dV hh2 (by omega) λw1 hh3=>?_;exact hh3.up (by omega)
 ·simp only [aY,Int.reduceEq,Int.reduceNeg]
  intros
  obtain ⟨k2,hpub,hsec,h21,hk3⟩:=hdeep (by decide);refine vH hh0 (by omega) λz b w1 hh1=>?_;refine cL.2 (cK.2 ?_);cases b with
  | true=>
   refine aE.2 ?_;refine dV hh1 (by omega) λw1 hh2=>?_;exact hh2.up (by omega)
  | false=>
   refine aA.2 ?_;refine hJ hh1 (by omega) λz w1 hh2 _=>?_;refine rm (by decide) λe _ _ _=>?_;refine dV hh2 (by omega) λw1 hh3=>?_;exact hh3.up (by omega)
 iterate 3
  ·simp only [aY,Int.reduceEq,Int.reduceNeg]
   intros
   obtain ⟨k2,hpub,hsec,h21,hk3⟩:=hdeep (by decide);refine hpub hh0 (by omega) λw1 hh1=>?_;refine hpub hh1 (by omega) λw1 hh2=>?_;refine hJ hh2 (by omega) λz w1 hh3 _=>?_;refine eV (by decide) (by decide) λq hq0 hq1=>?_;refine aAc hh3 hq0 hq1 λu=>?_;refine dV hh3 (by omega) λw1 hh4=>?_;exact hh4.up (by omega)
 ·simp only [aY,Int.reduceEq,Int.reduceNeg]
  intros
  obtain ⟨k2,hpub,hsec,h21,hk3⟩:=hdeep (by decide);refine hJ hh0 (by omega) λz w1 hh1 _=>?_;refine eV (by decide) (by decide) λq hq0 hq1=>?_;refine bW.2 ?_;refine dV hh1 (by omega) λw1 hh2=>?_;refine dV hh2 (by omega) λw1 hh3=>?_;exact hh3.up (by omega)
 ·simp only [aY,Int.reduceEq,Int.reduceNeg]
  intros
  obtain ⟨k2,hpub,hsec,h21,hk3⟩:=hdeep (by decide);refine hpub hh0 (by omega) λw1 hh1=>?_;refine hpub hh1 (by omega) λw1 hh2=>?_;refine aEy (v:=.agg (([17,18]:List Int).map i64).toArray) (λw=>by kernel_rfl) ?_;refine hJ hh2 (by omega) λz w1 hh3 _=>?_;refine eV (by decide) (by decide) λq hq0 hq1=>?_;refine aEm underlying302 fK underlying3 (by decide) hq0 (by simpa using hq1) λu hu=>?_;refine dV hh3 (by omega) λw1 hh4=>?_;exact hh4.up (by omega)
 ·simp only [aY,Int.reduceEq,Int.reduceNeg]
  intros
  obtain ⟨k2,hpub,hsec,h21,hk3⟩:=hdeep (by decide);refine tT hh0 (by omega) λw1 hh1=>?_;refine mJ hpub (by omega) hh1 (by omega) λw1 hh2=>?_;refine dV hh2 (by omega) λw1 hh3=>?_;exact hh3.up (by omega)
 ·simp only [aY,Int.reduceEq,Int.reduceNeg]
  intros
  obtain ⟨k2,hpub,hsec,h21,hk3⟩:=hdeep (by decide);refine hpub hh0 (by omega) λw1 hh1=>?_;refine aEy (v:=.agg (([15,16,15]:List Int).map i64).toArray) (λw=>by kernel_rfl) ?_;refine hJ hh1 (by omega) λz w1 hh2 _=>?_;refine eV (by decide) (by decide) λq hq0 hq1=>?_;refine aEm underlying303 fK underlying3 (by decide) hq0 (by simpa using hq1) λu hu=>?_;refine dV hh2 (by omega) λw1 hh3=>?_;exact hh3.up (by omega)
 ·simp only [aY,Int.reduceEq,Int.reduceNeg]
  intros
  obtain ⟨k2,hpub,hsec,h21,hk3⟩:=hdeep (by decide);refine hJ hh0 (by omega) λz w1 hh1 _=>?_;refine eV (by decide) (by decide) λq hq0 hq1=>?_;refine bW.2 ?_;refine tT hh1 (by omega) λw1 hh2=>?_;refine dV hh2 (by omega) λw1 hh3=>?_;exact hh3.up (by omega)
theorem xC (h20:20<=k) (hd:d<=3) (hs:d < 3->∃ k',tU (d+1) k'/\vO (d+1) k'/\20<=k'/\k=3*k'+20):vO d k:=by
 intro c wb w lo n K h hn hk;apply UA;unfold AE;refine ⟨.inl ⟨_,rfl⟩,ldD h (bW.2 ?_)⟩;rw [aX (by omega),dF];refine ⟨.inl ⟨_,rfl⟩,stD h λw1 h1=>?_⟩;refine hJ h1 (by omega) λz0 w2 hh0 _=>?_;refine eV (by decide) (by decide) λq hq0 hq1=>?_;refine ⟨λv w'=>∃ z,v=i64 z/\w'=w2/\0<=z/\z < 9/\(d=3->z < 2),?_,?_⟩
 ·refine ⟨.inl ⟨_,rfl⟩,ldD hh0 (dR.2 (aK (λhg=>?_) λhg=>?_))⟩
  ·refine rm (by decide) λe he h1 h2=>⟨e,rfl,rfl,?_,by omega,λ_=>by omega⟩;rw [he];exact Int.tmod_nonneg _ hq0
  ·exact ⟨q,rfl,rfl,hq0,hq1,λ_=>by omega⟩
 rintro _ _ ⟨z,rfl,rfl,hz0,hz1,hleaf⟩ _;refine ⟨λw'=>Mk c wb w' 0 (n+k) (d+1),?_,?_⟩
 case refine_2=>
  intro w3 h3 _;refine ⟨.inl ⟨_,rfl⟩,ldD h3 (jV.2 ?_)⟩;rw [aX (by omega),show ((d+1:Nat):Int) - 1=((d:Nat):Int) by omega];exact ⟨.inl ⟨_,rfl⟩,stD h3 λw4 h4=>hk _ h4⟩
 have hc:z=0\/z=1\/z=2\/z=3\/z=4\/z=5\/z=6\/z=7\/z=8:=by omega
 have hdeep:2<=z->∃ k',tU (d+1) k'/\vO (d+1) k'/\20<=k'/\k=3*k'+20:=λhz=>hs (by omega);rcases hc with rfl|rfl|rfl|rfl|rfl|rfl|rfl|rfl|rfl
 ·simp only [aY,Int.reduceEq]
  intros
  refine vH hh0 (by omega) λz b w1 hh1=>?_;refine cL.2 (cK.2 ?_);cases b with
  | true=>
   refine aE.2 ?_;refine dV hh1 (by omega) λw1 hh2=>?_;exact hh2.up (by omega)
  | false=>
   refine aA.2 ?_;refine dV hh1 (by omega) λw1 hh2=>?_;exact hh2.up (by omega)
 ·simp only [aY,Int.reduceEq]
  intros
  refine hJ hh0 (by omega) λz w1 hh1 _=>?_;refine rm (by decide) λe _ _ _=>?_;refine dV hh1 (by omega) λw1 hh2=>?_;exact hh2.up (by omega)
 iterate 2
  ·simp only [aY,Int.reduceEq]
   intros
   obtain ⟨k2,hpub,hsec,h21,hk3⟩:=hdeep (by decide);refine hsec hh0 (by omega) λw1 hh1=>?_;refine hsec hh1 (by omega) λw1 hh2=>?_;refine hJ hh2 (by omega) λz w1 hh3 _=>?_;refine eV (by decide) (by decide) λq hq0 hq1=>?_;refine aAc hh3 hq0 hq1 λu=>?_;refine dV hh3 (by omega) λw1 hh4=>?_;exact hh4.up (by omega)
 iterate 2
  ·simp only [aY,Int.reduceEq]
   intros
   obtain ⟨k2,hpub,hsec,h21,hk3⟩:=hdeep (by decide);refine tT hh0 (by omega) λw1 hh1=>?_;refine mJ hpub (by omega) hh1 (by omega) λw1 hh2=>?_;refine dV hh2 (by omega) λw1 hh3=>?_;exact hh3.up (by omega)
 ·simp only [aY,Int.reduceEq]
  intros
  obtain ⟨k2,hpub,hsec,h21,hk3⟩:=hdeep (by decide);refine hsec hh0 (by omega) λw1 hh1=>?_;refine hsec hh1 (by omega) λw1 hh2=>?_;refine hsec hh2 (by omega) λw1 hh3=>?_;refine dV hh3 (by omega) λw1 hh4=>?_;exact hh4.up (by omega)
 ·simp only [aY,Int.reduceEq]
  intros
  obtain ⟨k2,hpub,hsec,h21,hk3⟩:=hdeep (by decide);refine tT hh0 (by omega) λw1 hh1=>?_;refine mJ hpub (by omega) hh1 (by omega) λw1 hh2=>?_;refine hJ hh2 (by omega) λz w1 hh3 _=>?_;refine eV (by decide) (by decide) λq hq0 hq1=>?_;refine bW.2 ?_;refine tT hh3 (by omega) λw1 hh4=>?_;refine mJ hpub (by omega) hh4 (by omega) λw1 hh5=>?_;refine mJ hpub (by omega) hh5 (by omega) λw1 hh6=>?_;refine dV hh6 (by omega) λw1 hh7=>?_;exact hh7.up (by omega)
 ·simp only [aY,Int.reduceEq]
  intros
  obtain ⟨k2,hpub,hsec,h21,hk3⟩:=hdeep (by decide);refine dV hh0 (by omega) λw1 hh1=>?_;exact hh1.up (by omega)
theorem RV:tU 3 20/\vO 3 20:=⟨xF (by omega) (by omega) λh=>by omega,xC (by omega) (by omega) λh=>by omega⟩
theorem RW:tU 2 80/\vO 2 80:=⟨xF (by omega) (by omega) λ_=>⟨20,RV.1,RV.2,by omega,by omega⟩,xC (by omega) (by omega) λ_=>⟨20,RV.1,RV.2,by omega,by omega⟩⟩
theorem RX:tU 1 260/\vO 1 260:=⟨xF (by omega) (by omega) λ_=>⟨80,RW.1,RW.2,by omega,by omega⟩,xC (by omega) (by omega) λ_=>⟨80,RW.1,RW.2,by omega,by omega⟩⟩
theorem rG:tU 0 800/\vO 0 800:=⟨xF (by omega) (by omega) λ_=>⟨260,RX.1,RX.2,by omega,by omega⟩,xC (by omega) (by omega) λ_=>⟨260,RX.1,RX.2,by omega,by omega⟩⟩
theorem DH {c:Mc} {lo:Nat} {k:Int} (h:Mk c wb w lo n 0) (hn:n+800<=800000) (hk:∀ w',Mk c wb w' 0 (n+800) 0->K (.tuple #[]) w') :
  aC prog 131 #[.pointer (some ⟨c.g,0,none⟩),i64 k] w K:=by
 apply UG;unfold AK;refine aF.2 (aK (λh1=>?_) λh1=>aF.2 (aK (λh2=>?_) λh2=>?_))
 ·exact rG.1 h hn hk
 ·exact rG.2 h hn hk
 ·exact tT h (by omega) λw1 h1=>hk _ (h1.up (by omega))
end Go.Proofs.YtgkkecladbmjkaaGreatDoor
namespace Go.Tc
theorem uV {α:Type} {l:List α} {k:Nat} {x:α}:(l.set k x).length=l.length:=List.length_set
end Go.Tc
namespace Go.Proofs.YtgkkecladbmjkaaGreatDoor
open Tryz
open Go.Vc Go.Tc
variable {w:Ω} {K:O->Ω->Prop}
variable {w' w1 wb:Ω} {d g' k n pos:Nat}
def Mc.hold (c:Mc) (b:Nat):Mc:={ c with H:=λk=>c.H k\/k=b }
theorem Mk.stay {c:Mc} {lo b:Nat} (h:Mk c wb w lo n d) (x:aG w w1) (f:Fr (λk=>¬ (c.hold b).H k) w1 w'):Fr (λk=>¬ c.H k) wb w':=
 (h.fr.trans (Fr.of_ext x) λ_ _ h=>h).trans (f.mono (T:=λk=>¬ c.H k) λ_ hk hH=>hk (.inl hH)) λ_ _ h=>h
theorem Mk.hold {c:Mc} {wb w1:Ω} {lo n d b:Nat} (h:Mk c wb w lo n d) (x:aG w w1) (hb:b=w.heap.size) (hlt:b < w1.heap.size):Mk (c.hold b) w1 w1 lo n d:=by
 have hst:∀ w',Fr (λk=>¬ (c.hold b).H k) w1 w'->Fr (λk=>¬ c.H k) wb w':=λw' f=>h.stay x f;have s1:=h.fr.size;have s2:=x.size;have hgB:=h.o.gB;refine ⟨⟨⟨hgB.1,by show c.B<=_;omega⟩,λk hk=>?_,λw' f=>h.o.nums w' (hst w' f),λw' f=>h.o.loc w' (hst w' f),λw' f=>h.o.bins w' (hst w' f),h.o.ln,h.o.ll⟩,Fr.refl _ _,?_⟩
 ·rcases hk with hk|hk
  ·have:=h.o.hH k hk;exact ⟨by omega,this.2⟩
  ·subst hk;refine ⟨hlt,?_⟩;show k≠c.g;omega
 ·obtain ⟨cv,code,pos,a1,a2,a3,a4,a5,a6,a7⟩:=h.at_;refine ⟨cv,code,pos,a1.ext x,x.own a2,a3,a4,a5,a6,λk hk hH=>?_⟩;rcases hH with hH|hH
  ·exact a7 k hk hH
  ·have:=(a2.lt k hk).2;omega
theorem Mk.back {c:Mc} {lo lo' n' d' b:Nat} (h:Mk c wb w lo n d) (x:aG w w1) (h':Mk (c.hold b) w1 w' lo' n' d'):Mk c wb w' lo' n' d':=by
 obtain ⟨o,fr,cv,code,pos,a1,a2,a3,a4,a5,a6,a7⟩:=h';exact ⟨h.o,h.stay x fr,cv,code,pos,a1,a2,a3,a4,a5,a6,λk hk hH=>a7 k hk (.inl hH)⟩
theorem RF {l:List gP} {x:gP} (h:l[k]?=some x):(jK l)[k*3+1]?=some (i64 x.a):=by
 have:=pI h
 have e:((jK l).drop (k*3))[1]?=some (i64 x.a):=by
  rw [<- List.take_append_drop 3 ((jK l).drop (k*3)),this];rfl
 rwa [List.getElem?_drop] at e
theorem CQ:∀ {l:List gP} {k:Nat} {x:gP} {z:Int},l[k]?=some x->(jK l).set (k*3+1) (i64 z)=jK (l.set k ⟨x.op,z,x.b⟩)
 | [],_,_,_,h=>by simp at h
 | y::l,0,x,z,h=>by simp at h;subst h;simp [jK]
 | y::l,k+1,x,z,h=>by
  have:=CQ (l:=l) (k:=k) (z:=z) (by simpa using h);simp only [jK,List.flatMap_cons,List.set_cons_succ] at this ⊢;rw [show (k+1)*3+1=k*3+1+3 by omega];simpa using this
structure Code (c:Mc) (wb w:Ω) (lo n d:Nat) (g' cap:Nat) (code:List gP) (pos:Nat):Prop where
 o:Mo c wb
 fr:Fr (λk=>¬ c.H k) wb w
 blk:bD w c.g [.slice (some ⟨g',0,none⟩) code.length cap,c.nv,i64 pos,c.lv,i64 d] 252
 own:w.ownsRow c.B 70 3 (.slice (some ⟨g',0,none⟩) code.length cap) code.length (jK code)
 lo:lo<=code.length
 hi:code.length<=n
 ps:pos<=n
 rg:∀ x∈code,x.rg
 nH:¬ c.H g'
theorem Mk.code {c:Mc} {wb:Ω} {lo n d:Nat} (h:Mk c wb w lo n d) (h1:1<=lo):∃ g' cap code pos,Code c wb w lo n d g' cap code pos:=by
 obtain ⟨o,fr,cv,code,pos,a1,a2,a3,a4,a5,a6,a7⟩:=h;rcases a2.2 with ⟨_,e⟩|⟨g',cap,cur,rfl,_⟩
 ·exact absurd e (by omega)
 ·exact ⟨g',cap,code,pos,o,fr,a1,a2,a3,a4,a5,a6,a7 _ rfl⟩
theorem Code.toMk {c:Mc} {lo cap:Nat} {code:List gP} (h:Code c wb w lo n d g' cap code pos):Mk c wb w lo n d:=
 ⟨h.o,h.fr,_,code,pos,h.blk,h.own,h.lo,h.hi,h.ps,h.rg,λk hk=>by cases hk;exact h.nH⟩
theorem Code.ext {c:Mc} {wb w':Ω} {lo n d g' cap:Nat} {code:List gP} {pos:Nat} (h:Code c wb w lo n d g' cap code pos) (hx:aG w w'):Code c wb w' lo n d g' cap code pos:=
 ⟨h.o,h.fr.trans (Fr.of_ext hx) λ_ _ h=>h,h.blk.ext hx,hx.own h.own,h.lo,h.hi,h.ps,h.rg,h.nH⟩
theorem aJp {c:Mc} {lo cap:Nat} {code:List gP} {z:Int} {K':Ω->Prop} (h:Code c wb w lo n d g' cap code pos) (hkl:k < code.length)
  (hk:∀ w' code',code'.length=code.length->Code c wb w' lo n d g' cap code' pos->K' w'):U prog (Instr.storeAt 3 (.pointer (some ⟨g',0+k*3+1,none⟩)) (i64 z)) w λ_ w2=>K' w2:=by
 have hx:code[k]?=some code[k]:=List.getElem?_eq_getElem hkl;obtain ⟨s1,s2⟩:=h.own.stored (k*3+1) (i64 z);have hc:=h.own.cellAt (k*3+1) (by omega);rw [RF hx] at hc;rw [Nat.zero_add];have hgB:=h.o.gB.1;have hgg:c.B<=g':=(h.own.lt g' rfl).1;refine U.ok (lV fK rfl hc (h.own.frozenAt _)) (hk _ (code.set k ⟨code[k].op,z,code[k].b⟩) uV ⟨h.o,h.fr.set h.nH,?_,?_,?_,?_,h.ps,λy hy=>?_,h.nH⟩)
 ·rw [uV];exact h.blk.other (by omega)
 ·rw [uV,<- CQ hx];exact s1
 ·rw [uV];exact h.lo
 ·rw [uV];exact h.hi
 ·rcases List.mem_or_eq_of_mem_set hy with hy|rfl
  ·exact h.rg y hy
  ·have:=h.rg code[k] (List.getElem_mem hkl);exact this
theorem aLf {c:Mc} {lo:Nat} {k a b e:Int} (h:Mk c wb w lo n 0) (hn:n+4000<=700000) {tv mv iv:O} {tl:List Int} {ms:List gU} {is:List zV} (ht:∀ w',Fr (λk=>¬ c.H k) wb w'->aU w' tv tl) (htl:tl.length<=1000000)
  (hm:∀ w',Fr (λk=>¬ c.H k) wb w'->oV w' mv ms) (hi:∀ w',Fr (λk=>¬ c.H k) wb w'->oW w' iv is) (m0:0 < ms.length/\ms.length<=1000) (m4:∀ m∈ms,m.params.length<=4) (i0:is.length<=1000) (i4:∀ x∈is,x.params.length<=4)
  (hk:∀ w',Mk c wb w' 0 (n+4000) 0->K (.tuple #[]) w') :
  aC prog 130 #[.pointer (some ⟨c.g,0,none⟩),.agg #[i64 k,i64 a,i64 b,i64 e],tv,mv,iv] w K:=by
 apply aIp;unfold LG;refine tH λw1 hB1 x1=>?_;have hh0:=h.hold x1 rfl hB1.lt;have fin:∀ {w' lo' n'},Mk (c.hold w.heap.size) w1 w' lo' n' 0->n'<=n+4000->K (.tuple #[]) w':=λhh hle=>hk _ ((h.back x1 hh).up hle);have bx1:∀ {w'},Fr (λk=>¬ (c.hold w.heap.size).H k) w1 w'->gD w' w.heap.size [i64 k,i64 a,i64 b,i64 e]:=λf=>bD.boxed (f.blk hB1 λhn=>hn (.inr rfl));have ht:=λw' f=>ht w' (h.stay (b:=w.heap.size) x1 f);have hm:=λw' f=>hm w' (h.stay (b:=w.heap.size) x1 f);have hi:=λw' f=>hi w' (h.stay (b:=w.heap.size) x1 f);have hll:=hh0.o.ll;have hgc:(c.hold w.heap.size).g=c.g:=rfl;rw [<- hgc];clear hB1;generalize c.hold w.heap.size=c' at *;generalize w.heap.size=rb at *;clear hgc h hk;refine bA (bx1 (Fr.refl _ _)) iX aL rfl ?_;refine eV (by decide) (by decide) λq hq0 hq1=>?_;have hc:q=0\/q=1\/q=2\/q=3\/q=4\/q=5\/q=6\/q=7\/q=8\/q=9\/q=10\/q=11\/q=12\/q=13\/q=14\/q=15:=by omega
 rcases hc with rfl|rfl|rfl|rfl|rfl|rfl|rfl|rfl|rfl|rfl|rfl|rfl|rfl|rfl|rfl|rfl
 iterate 3
  ·simp only [aY,Int.reduceEq,Int.reduceNeg]
   intros
   have hloc:=hh0.locAt;obtain ⟨cv,code,pos,a1,_⟩:=hh0.at_;refine ⟨.inl ⟨_,rfl⟩,bA (bD.boxed a1) eG aZ rfl (gG aM hloc (aF.2 (aK (λhz=>fin hh0 (by omega)) λhz=>?_)))⟩;have D1:aG w1 w1.drew:=(aG.refl _).drew;have hh1:=hh0.ext D1;have hlocd:=hh1.locAt;have hbx:∀ w',aG w1.drew w'->gD w' c'.g [cv,c'.nv,i64 pos,c'.lv,i64 (0:Nat)]:=λw' hx=>bD.boxed (a1.ext (D1.trans hx));refine aH.mk' (λw'=>aG w1.drew w') (aG.refl _) ?_;refine dT (λw' hx=>(bx1 hh1.fr).ext hx) dG aL rfl ?_;refine ⟨.inl ⟨_,rfl⟩,dT hbx eG aZ rfl (tW aM hlocd ?_)⟩;refine eV (by omega) (by omega) λr hr0 hr1=>⟨aG.refl _,?_⟩;refine ⟨.inl ⟨_,rfl⟩,bA (hbx _ (aG.refl _)) eG aZ rfl ?_⟩;obtain ⟨r,rfl⟩:∃ r2:Nat,r=r2:=⟨r.toNat,by omega⟩;refine nO aM aL hlocd (by omega) (by omega) (fQ (rM (by omega))) ?_;refine DH hh1 (by omega) λw1 hh2=>?_;refine dV hh2 (by omega) λw1 hh3=>?_;exact fin hh3 (by omega)
 iterate 2
  ·simp only [aY,Int.reduceEq,Int.reduceNeg]
   intros
   refine bA (bx1 hh0.fr) dG aL rfl ?_;refine eV (by decide) (by decide) λq hq0 hq1=>?_;refine bW.2 ?_;refine tT hh0 (by omega) λw1 hh1=>?_;refine mJ rG.1 (by omega) hh1 (by omega) λw1 hh2=>?_;refine jV.2 ?_;refine DH hh2 (by omega) λw1 hh3=>?_;refine dV hh3 (by omega) λw1 hh4=>?_;exact fin hh4 (by omega)
 ·simp only [aY,Int.reduceEq,Int.reduceNeg]
  intros
  refine bA (bx1 hh0.fr) dG aL rfl ?_;refine eV (by decide) (by decide) λq hq0 hq1=>?_;refine bW.2 ?_;refine DH hh0 (by omega) λw1 hh1=>?_;refine dV hh1 (by omega) λw1 hh2=>?_;exact fin hh2 (by omega)
 ·simp only [aY,Int.reduceEq,Int.reduceNeg]
  intros
  refine bA (bx1 hh0.fr) dG aL rfl ?_;refine eV (by decide) (by decide) λq hq0 hq1=>?_;refine bW.2 ?_;refine bA (bx1 hh0.fr) gL aL rfl ?_;refine eV (by decide) (by decide) λq hq0 hq1=>?_;refine bW.2 ?_;refine ⟨λv w'=>(∃ z,v=i64 z)/\w'=w1,?_,?_⟩
  ·exact aF.2 (aK (λ_=>⟨⟨_,rfl⟩,rfl⟩) λ_=>⟨⟨_,rfl⟩,rfl⟩)
  rintro _ _ ⟨⟨z,rfl⟩,rfl⟩ _;refine tT hh0 (by omega) λw1 hh1=>?_;refine mJ rG.1 (by omega) hh1 (by omega) λw1 hh2=>?_;refine tT hh2 (by omega) λw1 hh3=>?_;refine mJ rG.1 (by omega) hh3 (by omega) λw1 hh4=>?_;refine mJ rG.1 (by omega) hh4 (by omega) λw1 hh5=>?_;refine dV hh5 (by omega) λw1 hh6=>?_;exact fin hh6 (by omega)
 iterate 2
  ·simp only [aY,Int.reduceEq,Int.reduceNeg]
   intros
   refine bA (bx1 hh0.fr) dG aL rfl ?_;refine eV (by decide) (by decide) λq hq0 hq1=>?_;refine bW.2 ?_;refine bW.2 ?_;refine jV.2 ?_;refine tT hh0 (by omega) λw1 hh1=>?_;refine mJ rG.1 (by omega) hh1 (by omega) λw1 hh2=>?_;refine mJ rG.1 (by omega) hh2 (by omega) λw1 hh3=>?_;refine dV hh3 (by omega) λw1 hh4=>?_;exact fin hh4 (by omega)
 iterate 2
  ·simp only [aY,Int.reduceEq,Int.reduceNeg]
   intros
   refine rG.1 hh0 (by omega) λw1 hh1=>?_;refine dV hh1 (by omega) λw1 hh2=>?_;refine bA (bx1 hh2.fr) dG aL rfl ?_;refine eV (by decide) (by decide) λr hr0 hr1=>?_;by_cases hr:r=0
   case neg=>
    simp only [hr,aY];exact fin hh2 (by omega)
   have htv:=ht _ hh2.fr;subst hr;simp only [aY];refine gG aM htv ?_;by_cases hgt:(tl.length:Int) > 0
   case neg=>
    simp only [hgt,aY];exact fin hh2 (by omega)
   simp only [hgt,aY];obtain ⟨g',cap,code,pos,hcd⟩:=hh2.code (Nat.le_refl _);have D1:aG w1 w1.drew:=(aG.refl _).drew;have hcd:=hcd.ext D1;have hlo:=hcd.lo;have hhi:=hcd.hi;have htv:=htv.ext D1;have hbr:=(bx1 hh2.fr).ext D1;refine aH.mk' (λw'=>aG w1.drew w') (aG.refl _) ?_;refine ⟨.inl ⟨_,rfl⟩,dT (λw' hx=>bD.boxed (hcd.blk.ext hx)) bS iF rfl ?_⟩;refine ⟨.inl ⟨_,rfl⟩,dT (λw' hx=>bD.boxed (hcd.blk.ext hx)) bS iF rfl (tW lL (aB.of_own hcd.own) ?_)⟩;refine aD.ok (λw' _=>mB) ?_;rw [aX (by omega)];refine dT (λw' hx=>hbr.ext hx) gL aL rfl (tW aM htv ?_);refine eV (by omega) (by omega) λr hr0 hr1=>⟨aG.refl _,?_⟩;obtain ⟨r,rfl⟩:∃ r2:Nat,r=r2:=⟨r.toNat,by omega⟩;refine gF aM aL htv (λ_ h=>h) (by omega) (by omega) (fQ (rM (by omega))) ?_;refine aD.ok (λw' _=>gE underlying71 nZ (by omega) (by omega)) ?_;refine aD.ok (λw' _=>FA.ex aW w' _ _) ?_;rw [show ((code.length:Int) - 1).toNat=code.length - 1 by omega];exact aJp hcd (by omega) λw3 code' _ hc'=>fin hc'.toMk (by omega)
 iterate 2
  ·simp only [aY,Int.reduceEq,Int.reduceNeg]
   intros
   refine bA (bx1 hh0.fr) dG aL rfl ?_;have hms:=hm _ hh0.fr;refine wQ iJ hms ?_;refine eV (by omega) (by omega) λr hr0 hr1=>?_;refine ⟨λv w'=>(∃ z:Nat,v=i64 z/\z < ms.length)/\w'=w1,?_,?_⟩
   ·have hr:(∃ z:Nat,i64 r=i64 z/\z < ms.length):=⟨r.toNat,by rw [Int.toNat_of_nonneg hr0],by omega⟩;refine aF.2 ?_;by_cases hz:r=0
    case neg=>
     simp only [hz,aY];exact ⟨hr,by trivial⟩
    simp only [hz,aY];refine bA (bx1 hh0.fr) gL aL rfl ?_;refine rm (by decide) λe _ _ _=>?_;refine dR.2 ?_;by_cases he:e > 0
    case neg=>
     simp only [he,aY];rw [hz] at hr;exact ⟨hr,by trivial⟩
    simp only [he,aY];refine wQ iJ hms (jV.2 ?_);rw [aX (by omega)];exact ⟨⟨ms.length - 1,by congr 1;omega,by omega⟩,rfl⟩
   rintro _ w9 ⟨⟨t,rfl,htl2⟩,hw9⟩ _;have hw9:=hw9.symm;subst hw9;obtain ⟨m,hmt⟩:=bH htl2;have hm4:=m4 m (List.mem_of_getElem? hmt);refine ⟨λv w'=>∃ j:Nat,v=i64 j/\j<=m.params.length/\Mk c' w1 w' 0 (n+800*j) 0,λv _=>m.params.length - (RowKit.intOf v).toNat,⟨0,rfl,Nat.zero_le _,hh0.up (by omega)⟩,?_⟩;rintro _ w2 ⟨j,rfl,hj,h2⟩ _;refine oG iJ fB aZ (hm _ h2.fr) hmt λrow hrow=>?_;obtain ⟨pv,lv,cv,rfl,hp,_,_⟩:=hrow;refine ⟨pv,rfl,by decide,gG aM hp (aV.2 (aK (λhlt=>?_) λhge=>?_))⟩
   ·refine oG iJ fB aZ (hm _ h2.fr) hmt λrow hrow=>?_;obtain ⟨pv,lv,cv,rfl,hp,_,_⟩:=hrow;refine ⟨pv,rfl,by decide,?_⟩;refine nO aM aL hp (by omega) (by omega) (fQ (rM (by omega))) ?_;refine DH h2 (by omega) λw3 h3=>bW.2 ?_;rw [aX (by omega),dF];exact ⟨⟨j+1,rfl,by omega,h3.up (by omega)⟩,by simp only [aT];omega⟩
   ·refine dV h2 (by omega) λw3 h3=>?_;refine oG iJ jE aL (hm _ h3.fr) hmt λrow hrow=>?_;obtain ⟨pv,lv,cv,rfl,hp,_,_⟩:=hrow;refine ⟨_,rfl,by decide,aS.2 (aK (λhr=>?_) λhr=>?_)⟩
    ·exact dV h3 (by omega) λw4 h4=>fin h4 (by omega)
    ·exact fin h3 (by omega)
 ·simp only [aY,Int.reduceEq,Int.reduceNeg]
  intros
  have his:=hi _ hh0.fr;refine wQ mG his (aF.2 (aK (λhz=>fin hh0 (by omega)) λhz=>?_));refine bA (bx1 hh0.fr) dG aL rfl ?_;refine wQ mG his ?_;refine eV (by omega) (by omega) λr hr0 hr1=>?_;obtain ⟨t,rfl⟩:∃ r2:Nat,r=r2:=⟨r.toNat,by omega⟩;obtain ⟨m,hmt⟩:=bH (l:=is) (j:=t) (by omega);have hm4:=i4 m (List.mem_of_getElem? hmt);refine ⟨λv w'=>∃ j:Nat,v=i64 j/\j<=m.params.length/\Mk c' w1 w' 0 (n+800*j) 0,λv _=>m.params.length - (RowKit.intOf v).toNat,⟨0,rfl,Nat.zero_le _,hh0.up (by omega)⟩,?_⟩;rintro _ w2 ⟨j,rfl,hj,h2⟩ _;refine oG mG cM aZ (hi _ h2.fr) hmt λrow hrow=>?_;obtain ⟨pv,rfl,hp⟩:=hrow;refine ⟨pv,rfl,by decide,gG aM hp (aV.2 (aK (λhlt=>?_) λhge=>?_))⟩
  ·refine oG mG cM aZ (hi _ h2.fr) hmt λrow hrow=>?_;obtain ⟨pv,rfl,hp⟩:=hrow;refine ⟨pv,rfl,by decide,?_⟩;refine nO aM aL hp (by omega) (by omega) (fQ (rM (by omega))) ?_;refine DH h2 (by omega) λw3 h3=>bW.2 ?_;rw [aX (by omega),dF];exact ⟨⟨j+1,rfl,by omega,h3.up (by omega)⟩,by simp only [aT];omega⟩
  ·refine dV h2 (by omega) λw3 h3=>?_;refine oG mG cX aL (hi _ h3.fr) hmt λrow hrow=>?_;obtain ⟨pv,rfl,hp⟩:=hrow;refine ⟨_,rfl,by decide,aS.2 (aK (λhr=>?_) λhr=>?_)⟩
   ·exact dV h3 (by omega) λw4 h4=>fin h4 (by omega)
   ·exact fin h3 (by omega)
 ·simp only [aY,Int.reduceEq,Int.reduceNeg]
  intros
  refine rG.1 hh0 (by omega) λw1 hh1=>?_;refine dV hh1 (by omega) λw1 hh2=>?_;refine dV hh2 (by omega) λw1 hh3=>?_;refine dV hh3 (by omega) λw1 hh4=>?_;exact fin hh4 (by omega)
 ·simp only [aY,Int.reduceEq,Int.reduceNeg]
  intros
  refine bA (bx1 hh0.fr) dG aL rfl ?_;refine rm (by decide) λe _ _ _=>?_;refine dV hh0 (by omega) λw1 hh1=>?_;refine dV hh1 (by omega) λw1 hh2=>?_;exact fin hh2 (by omega)
end Go.Proofs.YtgkkecladbmjkaaGreatDoor
namespace Go.Vc
end Go.Vc
namespace Go.Proofs.YtgkkecladbmjkaaGreatDoor
open Tryz
open Go.Vc Go.Tc
variable {w:Ω} {K:O->Ω->Prop}
variable {L N d i n:Nat} {ty:TypeId} {S:Ω->Prop} {wb:Ω}
structure Rw where
 k:Int
 a:Int
 b:Int
 e:Int
def aOv (_:Ω) (row:List O) (x:Rw):Prop:=row=[i64 x.k,i64 x.a,i64 x.b,i64 x.e]
def eW (w:Ω) (v:O) (l:List Rw):Prop:=(∃ a c,v=.slice a l.length c)/\(0 < l.length->dS aOv 4 w v l)
theorem eW.ext {w':Ω} {v:O} {l:List Rw} (h:eW w v l) (hx:aG w w'):eW w' v l:=⟨h.1,λh0=>dS.ext (λh _=>h) (h.2 h0) hx⟩
theorem eW.of {v:O} {l:List Rw} (h:dS aOv 4 w v l):eW w v l:=by
 obtain ⟨cs,h1⟩:=h.sl;exact ⟨h1.shape,λ_=>h⟩
theorem eW.str {v:O} {l:List Rw} {x:Rw} (h:eW w v l) (hi:l[i]?=some x):dS aOv 4 w v l:=h.2 (by have:=(List.getElem?_eq_some_iff.1 hi).1;omega)
theorem lnR {t:TypeId} {v:O} {l:List Rw} (h:XA prog t 4) (hs:eW w v l) (hk:K (i64 l.length) w):V prog (Builtin.len_ #[t] ty #[v]) w K:=by
 obtain ⟨e,z,b,ht,hi⟩:=h;obtain ⟨⟨a,c,rfl⟩,_⟩:=hs;exact V.ok (jR ht) hk
theorem aRw {L:O->Prop} {t:TypeId} {v:O} {l:List Rw} (h:XA prog t 4) (hs:eW w v l) (hk:L (i64 l.length)):aD prog S (Builtin.len_ #[t] ty #[v]) L:=by
 obtain ⟨e,z,b,ht,hi⟩:=h;obtain ⟨⟨a,c,rfl⟩,_⟩:=hs;exact aD.ok (λw' _=>jR ht) hk
theorem ySS {L:O->Prop} {α:Type} {T:Ω->List O->α->Prop} {sz:Nat} {t x:TypeId} {v:O} {l:List α} {e:α} (h:XA prog t sz) (ht:∃ d z by_,Program.underlying prog x=some d/\oC d=true/\cV prog x z sz by_) (hs:dS T sz w v l) (hx:∀ w',S w'->aG w w') (hi:l[i]?=some e) (hT:∀ w row e,T w row e->row.length=sz)
  (hk:∀ row,T w row e->L (.agg row.toArray)):aD prog S (Instr.indexAt t v (i64 i)) λp=>aD prog S (Instr.loadAt x p) L:=by
 obtain ⟨cs,h1,h2⟩:=hs;obtain ⟨row,h3,h4⟩:=h2 i e hi;have hlt:i < l.length:=(List.getElem?_eq_some_iff.1 hi).1;obtain ⟨e',z,b',hte,hinf⟩:=h;obtain ⟨d,z',by_,g2,g3,g4⟩:=ht;obtain ⟨b,off,cap,rfl,hcell⟩:=h1.there (by omega);refine aD.ok (λw' _=>gE hte hinf (by omega) (by omega)) (aD.ok (λw' hw=>kF (cs:=row) g2 g3 g4 (hT _ _ _ h4) λj hj=>?_) (hk row h4));obtain ⟨u,hu⟩:∃ u,row[j]?=some u:=⟨_,List.getElem?_eq_getElem hj⟩;rw [hu,Nat.add_assoc];refine (hx w' hw).cell (hcell _ u ?_);rw [<- h3,List.getElem?_take,List.getElem?_drop] at hu;split at hu
 ·simpa using hu
 ·cases hu
theorem QK {t:TypeId} {ts:Array TypeId} {a b:Int}:(Builtin.min_ ts t #[i64 a,i64 b]).run prog w=.ok (i64 (min a b)) w:=by
 rcases YW (P:=prog) (w:=w) (t:=t) (ts:=ts) (a:=a) (b:=b) with h|h
 ·rw [h];have:(if a < b then a else b)=min a b:=by split<;>omega
  rw [this]
 ·rw [h];have:(if b < a then b else a)=min a b:=by split<;>omega
  rw [this]
def Cd (c:Mc) (wb w:Ω) (L N d:Nat):Prop:=Mo c wb/\Fr (λk=>¬ c.H k) wb w/\∃ (cv:O) (code:List gP) (pos:Nat),bD w c.g [cv,c.nv,i64 pos,c.lv,i64 d] 252/\w.ownsRow c.B 70 3 cv code.length (jK code)/\code.length=L/\pos<=N/\(∀ x∈code,x.rg)/\∀ k,cv.ownBlock=some k->¬ c.H k
theorem Cd.mk {c:Mc} (h:Cd c wb w L N d) (h1:L<=n) (h2:N<=n):Mk c wb w 0 n d:=by
 obtain ⟨o,fr,cv,code,pos,a1,a2,a3,a4,a5,a6⟩:=h;exact ⟨o,fr,cv,code,pos,a1,a2,Nat.zero_le _,by omega,by omega,a5,a6⟩
theorem Cd.code {c:Mc} {wb:Ω} {L N d:Nat} (h:Cd c wb w L N d) (h1:0 < L):∃ g' cap code pos,code.length=L/\pos<=N/\Code c wb w L (L+N) d g' cap code pos:=by
 obtain ⟨o,fr,cv,code,pos,a1,a2,a3,a4,a5,a6⟩:=h;rcases a2.2 with ⟨_,e⟩|⟨g',cap,cur,rfl,_⟩
 ·exact absurd e (by omega)
 ·exact ⟨g',cap,code,pos,a3,a4,o,fr,a1,a2,by omega,by omega,by omega,a5,a6 _ rfl⟩
theorem Code.cd {c:Mc} {lo g' cap:Nat} {code:List gP} {pos:Nat} (h:Code c wb w lo n d g' cap code pos) (h1:code.length=L) (h2:pos<=N):Cd c wb w L N d:=
 ⟨h.o,h.fr,_,code,pos,h.blk,h.own,h1,h2,h.rg,λk hk=>by cases hk;exact h.nH⟩
theorem Mk.cd {c:Mc} {lo:Nat} (h:Mk c wb w lo n d):∃ L,L<=n/\Cd c wb w L n d:=by
 obtain ⟨o,fr,cv,code,pos,a1,a2,a3,a4,a5,a6,a7⟩:=h;exact ⟨_,a4,o,fr,cv,code,pos,a1,a2,rfl,a5,a6,a7⟩
theorem Cd.ext {c:Mc} {wb w':Ω} {L N d:Nat} (h:Cd c wb w L N d) (hx:aG w w'):Cd c wb w' L N d:=by
 obtain ⟨o,fr,cv,code,pos,a1,a2,a3⟩:=h;exact ⟨o,fr.trans (Fr.of_ext hx) λ_ _ h=>h,cv,code,pos,a1.ext hx,hx.own a2,a3⟩
theorem aTb {c:Mc} (h:Cd c wb w L N d) (hk:K (i64 (L:Nat)) w) :
  V prog (Instr.fieldAt 252 (.pointer (some ⟨c.g,0,none⟩)) 0) w λq w1=>V prog (Instr.loadAt 71 q) w1 λv w2=>V prog (Builtin.len_ #[71] ty #[v]) w2 K:=by
 obtain ⟨o,fr,cv,code,pos,a1,a2,rfl,_⟩:=h;exact bA (bD.boxed a1) bS iF rfl (gG lL (aB.of_own a2) hk)
theorem YC {c:Mc} {B:Nat} {v:O} {code:List gP} {K':Ω->Prop} (h:Cd c wb w L N d) (ho:w.ownsRow B 70 3 v code.length (jK code)) (hB:c.B<=B) (hr:∀ x∈code,x.rg) (hv:∀ k,v.ownBlock=some k->¬ c.H k)
  (hk:∀ w',Cd c wb w' code.length N d->K' w'):V prog (Instr.fieldAt 252 (.pointer (some ⟨c.g,0,none⟩)) 0) w λq w1=>U prog (Instr.storeAt 71 q v) w1 λ_ w2=>K' w2:=by
 obtain ⟨o,fr,cv,code0,pos,a1,a2,a3,a4,a5,a6⟩:=h;have hg:¬ c.H c.g:=λhg=>(o.hH _ hg).2 rfl;have hgB:=o.gB.1;refine BG bS wS a1 (n:=5) rfl (by decide) (eZ ho) (hk _ ⟨o,fr.set hg,v,code,pos,a1.set 0 _,?_,rfl,a4,hr,hv⟩);exact aR ((Fr.of_set (S:=λi=>i=c.g) rfl).own ho λk hk he=>by have:=(ho.lt k hk).1;omega) hB
end Go.Proofs.YtgkkecladbmjkaaGreatDoor
namespace Go.Vc
theorem apS {P:Program} {w:Ω} {K:O->Ω->Prop} {t e by_ ty:Nat} (h:XE P t e by_) {B:Nat} {v:O} {n:Nat} {xs:List O} (ho:w.ownsRow B e 1 v n xs) {x:O} {m:Nat} {news:List O} (hs:aB w x 1 m news) (h1:news.all cB=true)
  (hb:(n+m)*by_<=140737488355328) (h63:n+m<=maxLen) (hB:B<=w.heap.size)
  (hk:∀ v' w',w'.ownsRow B e 1 v' (n+m) (xs++news)->w.grownBy w' v.ownBlock->(v'.ownBlock=v.ownBlock\/v'.ownBlock=some w.heap.size)->K v' w') :
  V P (Builtin.append_ #[t,t] ty #[v,x]) w K:=by
 obtain ⟨z,ht,hi,hz⟩:=h;exact apG ht hi hz (by omega) ho hs h1 hb h63 hB hk
end Go.Vc
namespace Go.Proofs.YtgkkecladbmjkaaGreatDoor
open Tryz
open Go.Vc Go.Tc
variable {w:Ω} {K:O->Ω->Prop}
theorem aEi {l:List gP} {k:Nat} {x:gP} (h:l[k]?=some x):(jK l)[k*3+0]?=some (i64 x.op):=by
 have:=pI h
 have e:((jK l).drop (k*3))[0]?=some (i64 x.op):=by
  rw [<- List.take_append_drop 3 ((jK l).drop (k*3)),this];rfl
 rwa [List.getElem?_drop] at e
theorem Cd.weak {c:Mc} {wb:Ω} {L N d N':Nat} (h:Cd c wb w L N d) (h2:N<=N'):Cd c wb w L N' d:=by
 obtain ⟨o,fr,cv,code,pos,a1,a2,a3,a4,a5⟩:=h;exact ⟨o,fr,cv,code,pos,a1,a2,a3,by omega,a5⟩
theorem aNx {rv mv iv:O} {rl:List Rw} {row:List O} {m:gU} {ms:List gU} {is:List zV} (hr:eW w rv rl) (hrow:jO w row m) (hm:oV w mv ms) (hi:oW w iv is) (hb:mP w) (rn:rl.length<=5000000000000) (pl:m.params.length<=1000) (ll:m.locals.length<=1000)
  (m0:0 < ms.length/\ms.length<=1000) (m4:∀ m∈ms,m.params.length<=4) (i0:is.length<=1000) (i4:∀ x∈is,x.params.length<=4)
  (hk:∀ v code w',w'.ownsRow w.heap.size 70 3 v code.length (jK code)->(∀ x∈code,x.rg)->code.length<=700000->aG w w'->K v w') :
  aC prog 84 #[rv,.agg row.toArray,mv,iv] w K:=by
 obtain ⟨pv,lv,cv,rfl,hp,hl,hc⟩:=hrow;apply aCe;unfold EZ;refine bx λb5 w1 hb5 x1=>?_;have hb5:gD w1 b5 [pv,i64 m.result,lv,cv]:=hb5;have D1:aG w1 w1.drew:=(aG.refl _).drew;have x2:=x1.trans D1;refine aH.mk' (λw'=>aG w1.drew w') (aG.refl _) ?_;refine dT (λw' hx=>hb5.ext (D1.trans hx)) fB aZ rfl ?_;refine dT (λw' hx=>hb5.ext (D1.trans hx)) oQ aZ rfl ?_;have hb5:=hb5.ext D1;generalize w1.drew=w2 at x2 hb5;clear D1;refine mF bU [] rfl rfl (by simp) rfl λv3 w3 ho3 x3=>⟨x3,?_⟩;refine WT bU ho3 (hp.ext (x2.trans x3)) (WW _) (by omega) (by unfold maxLen;omega) x3.size λv4 w4 ho4 hg4=>?_;have x4:aG w2 w4:=x3.grown hg4 λk hk=>(ho3.lt k hk).1;refine ⟨x4,WT bU ho4 (hl.ext (x2.trans x4)) (WW _) (by omega) (by unfold maxLen;omega) x4.size λlv' w5 ho5 hg5=>?_⟩;have x5:aG w2 w5:=x4.grown hg5 λk hk=>(ho4.lt k hk).1;refine ⟨x5,vS aBn [(3,lv')] rfl (by simp [eZ ho5]) ?_⟩
 have hloc:aU w5 lv' (m.params++m.locals):=by
  have:=aB.of_own ho5;unfold aU;simpa using this
 clear ho3 ho4 ho5 hg4 hg5;refine tH λw6 hB6 x6=>⟨x5.trans x6,?_⟩;have hB6:bD w6 w5.heap.size [bT,bT,i64 ((0:Nat):Int),lv',i64 ((0:Nat):Int)] 252:=hB6;have x25:=x2.trans x5;have hr:=hr.ext x25;have hm:=hm.ext x25;have hi:=hi.ext x25
 have hbins:mP w5:=λj hj=>by
  obtain ⟨n,hn⟩:=hb j hj;exact ⟨n,x25.cell hn⟩
 have hb5:=hb5.ext x5;have hw5:w.heap.size<=w5.heap.size:=x25.size;generalize hgg:w5.heap.size=g at hB6 hw5;clear x1 x3 x4;have hlocl:(m.params++m.locals).length<=1000000:=by simp;omega
 generalize m.params++m.locals=loc at hloc hlocl;refine ⟨λv w'=>∃ (j:Nat) (nv:O) (nums:List Int),v=i64 j/\j<=rl.length/\nums.length=3*j/\aG w5 w'/\bD w' g [bT,nv,i64 ((0:Nat):Int),lv',i64 ((0:Nat):Int)] 252/\w'.ownsRow (g+1) 3 1 nv nums.length (nums.map i64),λv _=>rl.length - (RowKit.intOf v).toNat,⟨0,bT,[],rfl,Nat.zero_le _,rfl,x6,hB6,World.ownsRow_nil _ _ _ _⟩,?_⟩;rintro _ wB ⟨j,nv,nums,rfl,hj,hnl,xB,hBB,hoB⟩ _;have hlt5:=hBB.lt;refine lnR rO (hr.ext xB) (aV.2 (aK (λhlt=>?_) λhge=>?_))
 ·obtain ⟨x,hx⟩:=bH (l:=rl) (j:=j) (by omega);have D2:aG wB wB.drew:=(aG.refl _).drew;have xd:=xB.trans D2;have hBd:=hBB.ext D2;have hod:=D2.own hoB;refine aH.mk' (λw'=>aG w5 w'/\bD w' g [bT,nv,i64 ((0:Nat):Int),lv',i64 ((0:Nat):Int)] 252) ⟨xd,hBd⟩ ?_;refine ⟨.inl ⟨_,rfl⟩,dT (λw' hw=>bD.boxed hw.2) eJ aZ rfl ?_⟩;refine ySF rO dG aL (hr.str hx) (λw' hw=>hw.1) hx λrow hrow=>⟨i64 x.a,by rw [hrow];rfl,by decide,?_⟩;refine ySF rO gL aL (hr.str hx) (λw' hw=>hw.1) hx λrow hrow=>⟨i64 x.b,by rw [hrow];rfl,by decide,?_⟩;refine ySF rO iW aL (hr.str hx) (λw' hw=>hw.1) hx λrow hrow=>⟨i64 x.e,by rw [hrow];rfl,by decide,?_⟩;refine mF bU [i64 x.a,i64 x.b,i64 x.e] rfl rfl (by simp) rfl λv7 w7 ho7 x7=>⟨⟨xd.trans x7,hBd.ext x7⟩,?_⟩;have hs7:=hBd.lt;have hs8:=x7.size;refine WT bU (x7.own hod) (aB.of_own ho7) rfl (by omega) (by unfold maxLen;omega) (by omega) λv8 w8 ho8 hg8=>?_;have hlo:∀ k,nv.ownBlock=some k->g+1<=k:=λk hk=>(hod.lt k hk).1;have x8:aG w5 w8:=(xd.trans x7).grown hg8 λk hk=>by have:=hlo k hk;omega
  have hB8:bD w8 g _ _:=(Fr.of_grown (S:=λk=>nv.ownBlock=some k) hg8 λk hk=>hk).blk (hBd.ext x7) λhk=>by have:=hlo _ hk;omega
  refine ⟨⟨x8,hB8⟩,⟨.inl ⟨_,rfl⟩,aD.ok (λw' hw=>FA.ex eJ w' _ _) ?_⟩⟩;refine wX jU hB8 (n:=5) rfl (by decide) (eZ ho8) (bW.2 ?_);rw [aX (by omega),dF];refine ⟨⟨j+1,v8,nums++[x.a,x.b,x.e],rfl,by omega,by simp;omega,x8.setCell (by omega) _,hB8.set 1 _,?_⟩,by simp only [aT];omega⟩;have:=(Fr.of_set (S:=λi=>i=g) (w:=w8) (b:=g) (o:=1) (v:=v8) rfl).own ho8 λk hk he=>by have:=(ho8.lt k hk).1;omega
  simpa using this
 have hf:∀ {w'},Fr (λk=>k=g\/wB.heap.size<=k) wB w'->aU w' nv nums/\aG w5 w':=λf=>⟨aB.of_own (f.own hoB λk hk hS=>by have:=hoB.lt k hk;omega),f.ext xB λk hS=>by have:=xB.size;omega⟩
 have hMo:∀ (H:Nat->Prop) {w1:Ω},Fr (λk=>k=g\/wB.heap.size<=k) wB w1->(∀ k,k < wB.heap.size->¬ H k->k=g)->(∀ k,H k->k < w1.heap.size/\k≠g)->Mo ⟨H,wB.heap.size,g,nv,lv',nums,loc⟩ w1/\∀ w',Fr (λk=>¬ H k) w1 w'->Fr (λk=>k=g\/wB.heap.size<=k) wB w':=by
  intro H w1 f h1 h2;have tr:∀ w',Fr (λk=>¬ H k) w1 w'->Fr (λk=>k=g\/wB.heap.size<=k) wB w':=λw' f'=>f.trans f' λi hi hn=>.inl (h1 i hi hn);refine ⟨⟨⟨hlt5,f.size⟩,h2,λw' f'=>(hf (tr w' f')).1,λw' f'=>hloc.ext (hf (tr w' f')).2,λw' f' j hj=>?_,?_,hlocl⟩,tr⟩
  ·obtain ⟨n,hn⟩:=hbins j hj;exact ⟨n,(hf (tr w' f')).2.cell hn⟩
  ·show nums.length<=_;omega
 refine ⟨λtv v w'=>∃ (j:Nat) (tl:List Int) (cv:O) (code:List gP) (pos:Nat),v=i64 j/\j<=rl.length/\j<=12/\tl.length=j/\Fr (λk=>k=g\/wB.heap.size<=k) wB w'/\bD w' g [cv,nv,i64 (pos:Nat),lv',i64 ((0:Nat):Int)] 252/\w'.ownsRow wB.heap.size 70 3 cv code.length (jK code)/\code.length<=4100*j/\pos<=4100*j/\(∀ x∈code,x.rg)/\w'.ownsRow wB.heap.size 3 1 tv tl.length (tl.map i64)/\∀ k,cv.ownBlock=some k->tv.ownBlock≠some k,
  λ_ v _=>12 - (RowKit.intOf v).toNat,⟨0,[],bT,[],0,rfl,Nat.zero_le _,Nat.zero_le _,rfl,Fr.refl _ _,hBB,World.ownsRow_nil _ _ _ _,Nat.le_refl _,Nat.le_refl _,λ_ h=>by simp at h,World.ownsRow_nil _ _ _ _,λk hk=>by cases hk⟩,?_⟩
 rintro tv _ w9 ⟨j,tl,cv,code,pos,rfl,hj,hj12,htl,fr,hB9,ho9,hc9,hp9,hrg,hot,hne⟩ _;have hs9:=fr.size;have hng:∀ k,tv.ownBlock=some k->wB.heap.size<=k:=λk hk=>(hot.lt k hk).1
 have grow:∀ {K':O->Ω->Prop},(∀ tv' w',Fr (λk=>k=g\/wB.heap.size<=k) wB w'->bD w' g [cv,nv,i64 (pos:Nat),lv',i64 ((0:Nat):Int)] 252->w'.ownsRow wB.heap.size 70 3 cv code.length (jK code)->w'.ownsRow wB.heap.size 3 1 tv' (tl++[(code.length:Int)]).length ((tl++[(code.length:Int)]).map i64)->(∀ k,cv.ownBlock=some k->tv'.ownBlock≠some k)->K' tv' w') ->
   Go.Vc.aI (.pointer (some ⟨g,0,none⟩))/\V prog (Instr.fieldAt 252 (.pointer (some ⟨g,0,none⟩)) 0) w9 λt75 w29=>V prog (Instr.loadAt 71 t75) w29 λt76 w30=>V prog (Builtin.len_ #[71] 3 #[t76]) w30 λt77 w31=>V prog (Instr.buildSlice 42 1 #[(0,t77)]) w31 λt78 w32=>V prog (Builtin.append_ #[42,42] 42 #[tv,t78]) w32 K':=by
  intro K' hK;refine ⟨.inl ⟨_,rfl⟩,bA (bD.boxed hB9) bS iF rfl (gG lL (aB.of_own ho9) ?_)⟩;refine mF bU [i64 (code.length:Nat)] rfl rfl (by simp) rfl λv7 w7 ho7 x7=>?_;have hs7:=x7.size;refine apS bU (x7.own hot) (aB.of_own ho7) rfl (by omega) (by unfold maxLen;omega) (by omega) λv8 w8 ho8 hg8 hl8=>?_;have f8:Fr (λk=>tv.ownBlock=some k) w9 w8:=(Fr.of_ext x7).trans (Fr.of_grown hg8 λk hk=>hk) λ_ _ h=>h;refine hK v8 w8 (fr.trans f8 λi _ hi=>.inr (hng i hi)) (f8.blk hB9 λhk=>by have:=hng _ hk;omega) (f8.own ho9 λk hk hk'=>hne k hk hk') (by simpa using ho8) λk hk hk'=>?_;rcases hl8 with h8|h8
  ·rw [h8] at hk';exact hne k hk hk'
  ·rw [h8] at hk';cases hk';have:=(ho9.lt _ hk).2;omega
 have hold:∀ {tv':O} {w':Ω} {L N:Nat},code.length=L->pos<=N->Fr (λk=>k=g\/wB.heap.size<=k) wB w'->bD w' g [cv,nv,i64 (pos:Nat),lv',i64 ((0:Nat):Int)] 252->w'.ownsRow wB.heap.size 70 3 cv code.length (jK code)->w'.ownsRow wB.heap.size 3 1 tv' (tl++[(code.length:Int)]).length ((tl++[(code.length:Int)]).map i64)->(∀ k,cv.ownBlock=some k->tv'.ownBlock≠some k) ->
   ∃ H:Nat->Prop,Cd ⟨H,wB.heap.size,g,nv,lv',nums,loc⟩ w' w' L N 0/\(∀ w2,Fr (λk=>¬ H k) w' w2->Fr (λk=>k=g\/wB.heap.size<=k) wB w2/\w2.ownsRow wB.heap.size 3 1 tv' (tl++[(code.length:Int)]).length ((tl++[(code.length:Int)]).map i64))/\(∀ k,tv'.ownBlock=some k->H k):=by
  intro tv' w' L N hL hN f' hB' ho' ho2' hne';have hs:=f'.size;have hcv:∀ k,cv.ownBlock=some k->wB.heap.size<=k:=λk hk=>(ho'.lt k hk).1;have htv:∀ k,tv'.ownBlock=some k->k < w'.heap.size/\k≠g/\cv.ownBlock≠some k:=λk hk=>⟨(ho2'.lt k hk).2,by have:=(ho2'.lt k hk).1;omega,λhc=>hne' k hc hk⟩
  obtain ⟨mo,tr⟩:=hMo (λk=>k < w'.heap.size/\k≠g/\cv.ownBlock≠some k) f' (λk hk hH=>by
   apply Classical.byContradiction;intro hkg;exact hH ⟨by omega,hkg,λhc=>by have:=hcv k hc;omega⟩) (λk hk=>⟨hk.1,hk.2.1⟩)
  exact ⟨_,⟨mo,Fr.refl _ _,cv,code,pos,hB',ho',hL,hN,hrg,λk hk hH=>hH.2.2 hk⟩,λw2 f2=>⟨tr w2 f2,f2.own ho2' λk hk hH=>hH (htv k hk)⟩,htv⟩
 refine lnR rO (hr.ext (hf fr).2) (aV.2 ?_);by_cases c0:(j:Int) < (rl.length:Int)/\(j:Int) < 12/\(code.length:Int) < 70
 case pos=>
  obtain ⟨c1,c2,c3⟩:=c0;simp only [c1,c2,aY];refine ⟨.inl ⟨_,rfl⟩,bA (bD.boxed hB9) bS iF rfl (gG lL (aB.of_own ho9) (aV.2 ?_))⟩;simp only [c3,aY];refine grow λtv' w3 f3 hB3 ho3 ho4 hne3=>?_;obtain ⟨H,hcd,hst,htH⟩:=hold rfl (Nat.le_refl _) f3 hB3 ho3 ho4 hne3;have D3:aG w3 w3.drew:=(aG.refl _).drew;obtain ⟨x,hx⟩:=bH (l:=rl) (j:=j) (by omega);obtain ⟨uv,urun,usl⟩:=vV underlying42 fK (aB.of_own ho4) (lo:=none) (hi':=some (.int .i64 (j:Int))) (a:=0) (b:=j) (.inl ⟨rfl,rfl⟩) (.inr rfl) (by omega) (by simp;omega);refine aH.mk' (λw'=>aG w3 w') D3 ?_;refine ySS rO aMq ((hr.ext (hf f3).2).str hx) (λ_ h=>h) hx (λ_ row e h=>by rw [h];rfl) λrow hrow=>?_;have hrow:row=[i64 x.k,i64 x.a,i64 x.b,i64 x.e]:=hrow;subst hrow;refine aD.ok (λw' _=>urun _) ?_;have mk3:=(hcd.mk (n:=4100*j) hc9 hp9).ext D3;refine aLf (tl:=tl) (ms:=ms) (is:=is) mk3 (by omega) (λw' f=>?_) (by omega) (λw' f=>hm.ext (hf (hst w' f).1).2) (λw' f=>hi.ext (hf (hst w' f).1).2) m0 m4 i0 i4 λw4 h4=>bW.2 ?_
  ·have:=usl w' (aB.of_own (hst w' f).2);unfold aU;rw [htl];simpa [<- htl] using this
  ·rw [aX (by omega),dF];obtain ⟨_,f4,cv4,code4,pos4,b1,b2,b3,b4,b5,b6,b7⟩:=h4;obtain ⟨f5,ho5⟩:=hst _ f4;exact ⟨⟨j+1,tl++[(code.length:Int)],cv4,code4,pos4,rfl,by omega,by omega,by simp [htl],f5,b1,b2,by omega,by omega,b6,ho5,λk hk hk'=>b7 k hk (htH k hk')⟩,by simp only [aT];omega⟩
 have c5:¬ ((j:Int) < (rl.length:Int))\/((j:Int) < (rl.length:Int)/\¬ ((j:Int) < 12))\/((j:Int) < (rl.length:Int)/\(j:Int) < 12/\¬ ((code.length:Int) < 70)):=by omega
 clear c0;rcases c5 with c1|⟨c1,c2⟩|⟨c1,c2,c3⟩
 case' neg.inl=>simp only [c1,aY]
 case' neg.inr.inl=>simp only [c1,c2,aY]
 case' neg.inr.inr=>
  simp only [c1,c2,aY];refine ⟨.inl ⟨_,rfl⟩,bA (bD.boxed hB9) bS iF rfl (gG lL (aB.of_own ho9) (aV.2 ?_))⟩;simp only [c3,aY]
 all_goals
  refine grow λtv' w3 f3 hB3 ho3 ho4 hne3=>?_;obtain ⟨H,hcd,hst,htH⟩:=hold (N:=4100*j) rfl hp9 f3 hB3 ho3 ho4 hne3;have htl':(tl++[(code.length:Int)]).length=j+1:=by simp [htl]
  clear hold grow;generalize tl++[(code.length:Int)]=tl' at *;clear hB9 ho9 hrg hot hne fr hng hs9 hB3 ho3 hne3 f3 hp9 htl;generalize code.length=L at *
  have fin:∀ {w' L N},Cd ⟨H,wB.heap.size,g,nv,lv',nums,loc⟩ w3 w' L N 0->L<=700000->Go.Vc.aI (.pointer (some ⟨g,0,none⟩))/\V prog (Instr.fieldAt 252 (.pointer (some ⟨g,0,none⟩)) 0) w' λt w=>V prog (Instr.loadAt 71 t) w K:=by
   intro w' L N hc hL;obtain ⟨_,f,cv,code,pos,b1,b2,b3,b4,b5,b6⟩:=hc;have hx:=(hf (hst _ f).1).2;have:=xB.size;exact ⟨.inl ⟨_,rfl⟩,bA (bD.boxed b1) (by first|exact cZ|exact eB|exact cA|exact eA|exact eQ|exact cS|exact fH|exact cI|exact gA|exact eP|exact cY|exact dZ|exact dI|exact fG|exact fD|exact dY|exact bL|exact bY|exact cH|exact cQ|exact fZ|exact fY|exact bJ|exact cP|exact cO|exact fX|exact fW|exact cG|exact dX|exact cF|exact eO|exact cD|exact fV|exact bV|exact eM|exact cN|exact cM|exact cX|exact fU|exact dH|exact bS) (by first|exact fA|exact gJ|exact kI|exact eE|exact jJ|exact dE|exact dA|exact cE|exact fS|exact iK|exact gI|exact kR|exact aL|exact gX|exact oH|exact aZ|exact lA|exact gR|exact sH|exact vZ|exact qF|exact mS|exact tQ|exact iF) rfl (hk _ code w' (aR b2 (show w.heap.size<=wB.heap.size by omega)) b5 (by omega) (x25.trans hx))⟩
  have hmt:∀ {w'},Fr (λk=>¬ H k) w3 w'->gD w' b5 [pv,i64 m.result,lv,_]:=λf=>hb5.ext (hf (hst _ f).1).2;refine ⟨λv w'=>∃ k:Nat,v=i64 k/\k<=L/\Cd ⟨H,wB.heap.size,g,nv,lv',nums,loc⟩ w3 w' L (4100*j) 0,λv _=>L - (RowKit.intOf v).toNat,⟨0,rfl,Nat.zero_le _,hcd⟩,?_⟩;clear hcd;rintro _ w10 ⟨k,rfl,hkL,hcd⟩ _;refine ⟨.inl ⟨_,rfl⟩,aTb hcd (aV.2 (aK (λhlt=>?_) λhge2=>?_))⟩
  ·obtain ⟨g',cap,code',pos',hcl,hpp,hC⟩:=hcd.code (by omega);obtain ⟨x,hx⟩:=bH (l:=code') (j:=k) (by omega);have hsl:=aB.of_own hC.own
   have nxt:∀ {w'},Cd ⟨H,wB.heap.size,g,nv,lv',nums,loc⟩ w3 w' L (4100*j) 0->V prog (binOp .add 3 (i64 k) (i64 1)) w' λt w2=>(∃ k:Nat,t=i64 k/\k<=L/\Cd ⟨H,wB.heap.size,g,nv,lv',nums,loc⟩ w3 w2 L (4100*j) 0)/\L - (RowKit.intOf t).toNat < L - (RowKit.intOf (i64 (k:Int))).toNat:=by
    intro w' hc';refine mH (by omega) ?_;exact ⟨⟨k+1,rfl,by omega,hc'⟩,by simp only [aT];omega⟩
   refine ⟨.inl ⟨_,rfl⟩,bA (bD.boxed hC.blk) (by first|exact cZ|exact eB|exact cA|exact eA|exact eQ|exact cS|exact fH|exact cI|exact gA|exact eP|exact cY|exact dZ|exact dI|exact fG|exact fD|exact dY|exact bL|exact bY|exact cH|exact cQ|exact fZ|exact fY|exact bJ|exact cP|exact cO|exact fX|exact fW|exact cG|exact dX|exact cF|exact eO|exact cD|exact fV|exact bV|exact eM|exact cN|exact cM|exact cX|exact fU|exact dH|exact bS) (by first|exact fA|exact gJ|exact kI|exact eE|exact jJ|exact dE|exact dA|exact cE|exact fS|exact iK|exact gI|exact kR|exact aL|exact gX|exact oH|exact aZ|exact lA|exact gR|exact sH|exact vZ|exact qF|exact mS|exact tQ|exact iF) rfl ?_⟩;refine aMm lL bK (by first|exact fA|exact gJ|exact kI|exact eE|exact jJ|exact dE|exact dA|exact cE|exact fS|exact iK|exact gI|exact kR|exact aL) hsl (by omega) (by omega) (aEi hx) (aF.2 ?_);by_cases h24:x.op=24
   case neg=>simp only [h24,aY];exact nxt hcd
   simp only [h24,aY];refine ⟨.inl ⟨_,rfl⟩,bA (bD.boxed hC.blk) (by first|exact cZ|exact eB|exact cA|exact eA|exact eQ|exact cS|exact fH|exact cI|exact gA|exact eP|exact cY|exact dZ|exact dI|exact fG|exact fD|exact dY|exact bL|exact bY|exact cH|exact cQ|exact fZ|exact fY|exact bJ|exact cP|exact cO|exact fX|exact fW|exact cG|exact dX|exact cF|exact eO|exact cD|exact fV|exact bV|exact eM|exact cN|exact cM|exact cX|exact fU|exact dH|exact bS) (by first|exact fA|exact gJ|exact kI|exact eE|exact jJ|exact dE|exact dA|exact cE|exact fS|exact iK|exact gI|exact kR|exact aL|exact gX|exact oH|exact aZ|exact lA|exact gR|exact sH|exact vZ|exact qF|exact mS|exact tQ|exact iF) rfl ?_⟩;refine aMm lL aW (by first|exact fA|exact gJ|exact kI|exact eE|exact jJ|exact dE|exact dA|exact cE|exact fS|exact iK|exact gI|exact kR|exact aL) hsl (by omega) (by omega) (RF hx) (aV.2 ?_);by_cases ha0:x.a < 0
   case neg=>simp only [ha0,aY];exact nxt hcd
   simp only [ha0,aY];refine ⟨λv w'=>∃ q:Nat,v=i64 q/\q < tl'.length/\w'=w10,λv _=>tl'.length - (RowKit.intOf v).toNat,⟨0,rfl,by omega,rfl⟩,?_⟩;rintro _ w11 ⟨q,rfl,hq,hw⟩ _;have hw:=hw.symm;subst hw;have hot:=aB.of_own (hst _ hC.fr).2;refine gG aM hot (jV.2 ?_);rw [aX (by omega)];refine aV.2 ?_;by_cases c0:(q:Int) < (tl'.length:Int) - 1/\bI tl' q<=(k:Int)
   case pos=>
    obtain ⟨c1,c2⟩:=c0;simp only [c1,aY];refine nO aM aL hot (by omega) (by omega) (fQ (rM (by omega))) (SD.2 ?_);simp only [c2,aY];refine mH (by omega) ?_;exact ⟨⟨q+1,rfl,by omega,rfl⟩,by simp only [aT];omega⟩
   have c5:¬ ((q:Int) < (tl'.length:Int) - 1)\/((q:Int) < (tl'.length:Int) - 1/\¬ (bI tl' q<=(k:Int))):=by omega
   clear c0;rcases c5 with c1|⟨c1,c2⟩
   case' neg.inl=>simp only [c1,aY]
   case' neg.inr=>
    simp only [c1,aY];refine nO aM aL hot (by omega) (by omega) (fQ (rM (by omega))) (SD.2 ?_);simp only [c2,aY]
   all_goals
    have D1:aG w10 w10.drew:=(aG.refl _).drew;have hC:=hC.ext D1;have hot:=hot.ext D1;refine aH.mk' (λw'=>aG w10.drew w') (aG.refl _) ?_;refine ⟨.inl ⟨_,rfl⟩,dT (λw' hx=>bD.boxed (hC.blk.ext hx)) (by first|exact cZ|exact eB|exact cA|exact eA|exact eQ|exact cS|exact fH|exact cI|exact gA|exact eP|exact cY|exact dZ|exact dI|exact fG|exact fD|exact dY|exact bL|exact bY|exact cH|exact cQ|exact fZ|exact fY|exact bJ|exact cP|exact cO|exact fX|exact fW|exact cG|exact dX|exact cF|exact eO|exact cD|exact fV|exact bV|exact eM|exact cN|exact cM|exact cX|exact fU|exact dH|exact bS) (by first|exact fA|exact gJ|exact kI|exact eE|exact jJ|exact dE|exact dA|exact cE|exact fS|exact iK|exact gI|exact kR|exact aL|exact gX|exact oH|exact aZ|exact lA|exact gR|exact sH|exact vZ|exact qF|exact mS|exact tQ|exact iF) rfl ?_⟩;refine tW aM hot ?_;refine aD.ok (λw' _=>mB) (aD.ok (λw' _=>nW) (aD.ok (λw' _=>QK) ?_));rw [show IntKind.i64.wrap ((tl'.length:Int) - 1)=(tl'.length:Int) - 1 from aX (by omega),show IntKind.i64.wrap ((q:Int)+1)=(q:Int)+1 from aX (by omega)]
    obtain ⟨r,hr2,hr3⟩:∃ r:Nat,min ((tl'.length:Int) - 1) ((q:Int)+1)=r/\r < tl'.length:=⟨min (tl'.length - 1) (q+1),by omega,by omega⟩;rw [hr2];refine gF aM aL hot (λ_ h=>h) (by omega) (by omega) (fQ (rM hr3)) ?_;refine aD.ok (λw' _=>gE underlying71 nZ (by omega) (by omega)) ?_;refine aD.ok (λw' _=>FA.ex aW w' _ _) ?_;rw [Int.toNat_natCast];exact aJp hC (by omega) λw12 code2 hl2 hC2=>nxt (hC2.cd (by omega) hpp)
  refine ⟨λw'=>∃ L',L'<=60000/\Cd ⟨H,wB.heap.size,g,nv,lv',nums,loc⟩ w3 w' L' 60000 0,?_,?_⟩
  ·refine bA (hmt hcd.2.1) (by first|exact cZ|exact eB|exact cA|exact eA|exact eQ|exact cS|exact fH|exact cI|exact gA|exact eP|exact cY|exact dZ|exact dI|exact fG|exact fD|exact dY|exact bL|exact bY|exact cH|exact cQ|exact fZ|exact fY|exact bJ|exact cP|exact cO|exact fX|exact fW|exact cG|exact dX|exact cF|exact eO|exact cD|exact fV|exact bV|exact eM|exact cN|exact cM|exact cX|exact fU|exact dH|exact bS|exact eJ|exact gN|exact eG|exact gM|exact iX|exact dG|exact gL|exact iW|exact dP|exact dO|exact dW|exact kD|exact jN|exact iV|exact jM|exact bR|exact lC|exact lB|exact lK|exact jH|exact dC|exact bN|exact iI|exact jG|exact eU|exact jF|exact lJ|exact kT|exact lI|exact bK|exact aW|exact oR|exact fB|exact jE) (by first|exact fA|exact gJ|exact kI|exact eE|exact jJ|exact dE|exact dA|exact cE|exact fS|exact iK|exact gI|exact kR|exact aL) rfl (aS.2 (aK (λhr=>?_) λhr=>⟨L,by omega,hcd.weak (by omega)⟩));refine bA (hmt hcd.2.1) (by first|exact cZ|exact eB|exact cA|exact eA|exact eQ|exact cS|exact fH|exact cI|exact gA|exact eP|exact cY|exact dZ|exact dI|exact fG|exact fD|exact dY|exact bL|exact bY|exact cH|exact cQ|exact fZ|exact fY|exact bJ|exact cP|exact cO|exact fX|exact fW|exact cG|exact dX|exact cF|exact eO|exact cD|exact fV|exact bV|exact eM|exact cN|exact cM|exact cX|exact fU|exact dH|exact bS|exact eJ|exact gN|exact eG|exact gM|exact iX|exact dG|exact gL|exact iW|exact dP|exact dO|exact dW|exact kD|exact jN|exact iV|exact jM|exact bR|exact lC|exact lB|exact lK|exact jH|exact dC|exact bN|exact iI|exact jG|exact eU|exact jF|exact lJ|exact kT|exact lI|exact bK|exact aW|exact oR|exact fB|exact jE) (by first|exact fA|exact gJ|exact kI|exact eE|exact jJ|exact dE|exact dA|exact cE|exact fS|exact iK|exact gI|exact kR|exact aL) rfl ?_
   refine DH (hcd.mk (n:=49200) (by omega) (by omega)) (by omega) λw11 h11=>?_;obtain ⟨L',h1,h2⟩:=h11.cd;exact ⟨L',by omega,h2.weak (by omega)⟩
  rintro w11 ⟨L',hL',hcd'⟩ _;refine dV (hcd'.mk (n:=60000) (by omega) (by omega)) (by omega) λw12 h12=>?_;obtain ⟨L2,hL2,hcd2⟩:=h12.cd;refine ⟨.inl ⟨_,rfl⟩,aTb hcd2 (dR.2 (aK (λhg=>?_) λhg=>fin hcd2 (by omega)))⟩;have hsB:wB.heap.size<=w12.heap.size:=(hst _ hcd2.2.1).1.size;refine bld tR [(0,i64 39)] rfl rfl ?_;refine EP underlying71 nZ rfl (by decide) [.agg #[i64 39,i64 0,i64 0]] rfl rfl (by intro v hv;rw [List.mem_singleton] at hv;subst hv;rfl) (by decide) (by decide) λuv w13 ho13 x13=>?_;refine ⟨.inl ⟨_,rfl⟩,YC (code:=[⟨39,0,0⟩]) (hcd2.ext x13) ho13 hsB (by intro x hx;rw [List.mem_singleton] at hx;subst hx;exact ⟨by decide,by decide⟩) (λk hk hH=>?_) λw14 hcd4=>?_⟩
  ·have h1:=(ho13.lt k hk).1;have h2:=(hcd2.1.hH k hH).1;have h3:=hcd2.2.1.size;omega
  refine bA (hmt hcd4.2.1) (by first|exact cZ|exact eB|exact cA|exact eA|exact eQ|exact cS|exact fH|exact cI|exact gA|exact eP|exact cY|exact dZ|exact dI|exact fG|exact fD|exact dY|exact bL|exact bY|exact cH|exact cQ|exact fZ|exact fY|exact bJ|exact cP|exact cO|exact fX|exact fW|exact cG|exact dX|exact cF|exact eO|exact cD|exact fV|exact bV|exact eM|exact cN|exact cM|exact cX|exact fU|exact dH|exact bS|exact eJ|exact gN|exact eG|exact gM|exact iX|exact dG|exact gL|exact iW|exact dP|exact dO|exact dW|exact kD|exact jN|exact iV|exact jM|exact bR|exact lC|exact lB|exact lK|exact jH|exact dC|exact bN|exact iI|exact jG|exact eU|exact jF|exact lJ|exact kT|exact lI|exact bK|exact aW|exact oR|exact fB|exact jE) (by first|exact fA|exact gJ|exact kI|exact eE|exact jJ|exact dE|exact dA|exact cE|exact fS|exact iK|exact gI|exact kR|exact aL) rfl (aS.2 (aK (λhr=>?_) λhr=>fin hcd4 (by simp)));refine bld tR [(0,i64 1)] rfl rfl (bld tR [(0,i64 39)] rfl rfl ?_)
  have hsB4:wB.heap.size<=w14.heap.size:=(hst _ hcd4.2.1).1.size;refine EP underlying71 nZ rfl (by decide) [.agg #[i64 1,i64 0,i64 0],.agg #[i64 39,i64 0,i64 0]] rfl rfl (by intro v hv;simp only [List.mem_cons,List.not_mem_nil,or_false] at hv;rcases hv with rfl|rfl<;>rfl) (by decide) (by decide) λuv5 w15 ho15 x15=>?_;refine ⟨.inl ⟨_,rfl⟩,YC (code:=[⟨1,0,0⟩,⟨39,0,0⟩]) (hcd4.ext x15) ho15 hsB4 (by intro x hx;simp only [List.mem_cons,List.not_mem_nil,or_false] at hx;rcases hx with rfl|rfl<;>exact ⟨by decide,by decide⟩) (λk hk hH=>?_) λw16 hcd6=>fin hcd6 (by simp)⟩;have h1:=(ho15.lt k hk).1;have h2:=(hcd4.1.hH k hH).1;have h3:=hcd4.2.1.size;omega
end Go.Proofs.YtgkkecladbmjkaaGreatDoor
namespace Go.Vc
section
variable {P:Program} {w:Ω} {K:O->Ω->Prop}
theorem uZ (w:Ω) (s:ByteArray) (pos:Nat) (ty:TypeId) (h:pos < s.size) :
  (Instr.next (.pointer (some ⟨w.heap.size,0,none⟩)) true ty).run P (w.iter s pos)=.ok (.tuple #[.bool true,i64 pos,.int .i32 (Utf8.decode s pos).1]) (w.iter s (pos+(Utf8.decode s pos).2)):=by
 simp only [Instr.next,getObj,setObj,Sem.run_bind,Sem.run,World.iter_heap,Result.andThen,h,if_true,World.iter_set];simp [goInt]
theorem DJ {a:Array O} {n:Nat} {v:O} (h:a[n]?=some v) (hk:K v w):V P (Instr.extract (.tuple a) n) w K:=V.ok (by simp [Instr.extract,h]) hk
theorem aJs {t:TypeId} (ht:P.underlying t=some .string) {s:ByteArray} {k:Nat} (h:k<=s.size):(Instr.sliceAt t (.string s) (some (i64 k)) none none).run P w=.ok (.string (s.extract k s.size)) w:=by
 simp [Instr.sliceAt,Instr.slice,run_underlying ht,Instr.sliceBounds,Instr.sliceBound,asIntOf,h]
theorem ZB {t e n:TypeId} {z:O} {by_ sz:Nat} (ht:P.underlying t=some (.array n e)) (hi:cV P e z sz by_) {b off:Nat} {k:IntKind} {i:Int} (h0:0<=i) (h1:i < n) :
  (Instr.indexAt t (.pointer (some ⟨b,off,none⟩)) (.int k i)).run P w=.ok (.pointer (some ⟨b,off+i.toNat*sz,none⟩)) w:=by
 simp [Instr.indexAt,asIntOf,run_underlying ht,Instr.sureAddr,dU hi,h0,h1,gO]
end
end Go.Vc
namespace Go.Proofs.YtgkkecladbmjkaaGreatDoor
open Tryz
open Go.Vc Go.Tc
variable {w:Ω} {K:O->Ω->Prop}
variable {vs:List ByteArray}
def nmB:List ByteArray:=[⟨#[97,108,112,104,97]⟩,⟨#[98,195,169,116,97]⟩,⟨#[103,45,49]⟩,⟨#[100,46,195,191]⟩]
structure oT (w:Ω):Prop where
 f:w.cell? ⟨0,195,none⟩=some (.int .u8 2)
 a0:w.cell? ⟨1,0,none⟩=some (.int .u8 128)
 a1:w.cell? ⟨1,1,none⟩=some (.int .u8 191)
theorem oT.ext {w':Ω} (h:oT w) (hx:aG w w'):oT w':=⟨hx.cell h.f,hx.cell h.a0,hx.cell h.a1⟩
def aLc (t:ByteArray) (vs:List ByteArray):Prop:=t.size<=8/\(t.size=0\/(∃ c,t[0]?=some c/\c.toNat < 128/\t.extract 1 t.size∈vs)\/(∃ c,t[0]?=some 195/\t[1]?=some c/\128<=c.toNat/\c.toNat<=191/\t.extract 2 t.size∈vs))
theorem PD {s:ByteArray} (hT:oT w) (h0:s∈vs) (hvs:∀ t∈vs,aLc t vs) (hk:∀ w',aG w w'->K (.bool true) w'):aC prog 142 #[.string s] w K:=by
 apply aIg;unfold KY;refine ⟨λv w'=>∃ t,t∈vs/\v=.string t/\aG w w',λv _=>match v with|.string s=>s.size|_=>0,⟨s,h0,rfl,aG.refl _⟩,?_⟩;rintro _ w1 ⟨t,ht,rfl,x1⟩ _;obtain ⟨h8,hc⟩:=hvs t ht;refine V.ok (sG underlying9) (dR.2 ?_);have hsz:∀ {j:Nat} {c:UInt8},t[j]?=some c->j < t.size:=λh=>(getElem?_eq_some_iff.1 h).1;have hex:∀ k,(t.extract k t.size).size=t.size - k:=λk=>by simp
 rcases hc with hz|⟨c,hc0,hlt,hmem⟩|⟨c,hc0,hc1,hlo,hhi,hmem⟩
 ·have:¬ (t.size:Int) > 0:=by omega
  simp only [this,aY];exact hk _ x1
 ·have hs:=hsz hc0;have e1:(t.size:Int) > 0:=by omega
  simp only [e1,aY];refine V.ok (uC underlying9 hc0) (aV.2 ?_);have e2:(c.toNat:Int) < 128:=by omega
  simp only [e2,aY];refine V.ok (aJs (k:=1) underlying9 (by omega)) ?_;refine ⟨λv w'=>v=.string (t.extract 1 t.size)/\w'=w1,V.ok (sG underlying9) (dR.2 ?_),?_⟩
  ·have e3:¬ ((t.extract 1 t.size).size:Int) > 8:=by rw [hex];omega
   simp only [e3,aY];exact ⟨trivial,trivial⟩
  ·rintro _ _ ⟨rfl,rfl⟩ _;refine ⟨⟨_,hmem,rfl,x1⟩,?_⟩;show (t.extract 1 t.size).size < t.size;rw [hex];omega
 ·have hs0:=hsz hc0;have hs:=hsz hc1;have e1:(t.size:Int) > 0:=by omega
  simp only [e1,aY];refine V.ok (uC underlying9 hc0) (aV.2 ?_);have e2:¬ (((195:UInt8).toNat:Nat):Int) < 128:=by decide
  simp only [e2,aY];have hT1:=hT.ext x1;refine V.ok (ZB underlying288 pW (by decide) (by decide)) ?_;refine V.ok (aLy hT1.f) ?_;refine V.ok (v:=.int .u8 2) (w':=w1) (by kernel_rfl) ?_;refine V.ok (v:=i64 2) (w':=w1) (by kernel_rfl) ?_;refine V.ok (v:=.int .u8 0) (w':=w1) (by kernel_rfl) ?_;refine V.ok (ZB underlying291 NM (by decide) (by decide)) ?_;obtain ⟨d,z,by_,g1,g2,g3⟩:=aMp;refine V.ok (kF (cs:=[.int .u8 128,.int .u8 191]) g1 g2 g3 rfl λj hj=>?_) ?_
  ·match j,hj with
   | 0,_=>exact hT1.a0
   | 1,_=>exact hT1.a1
  refine asB aLj rfl rfl λb2 w2 hb2 x2=>?_;have hb2:gD w2 b2 [.int .u8 128,.int .u8 191]:=hb2;refine aF.2 ?_;simp only [aY,Int.reduceEq];have D1:aG w2 w2.drew:=(aG.refl _).drew;refine aH.mk' (λw'=>aG w2 w') D1 ?_;refine aD.ok (λw' _=>sG underlying9) (aD.ok (λw' _=>pE) ?_);have e3:¬ (t.size:Int) < 2:=by omega
  simp only [e3,aY];refine aD.ok (λw' _=>uC underlying9 hc1) ?_;refine dT (λw' hw=>hb2.ext hw) lC vZ rfl (aD.ok (λw' _=>pE) ?_);have e4:¬ (c.toNat:Int) < 128:=by omega
  simp only [e4,aY];refine dT (λw' hw=>hb2.ext hw) lB vZ rfl ?_;refine aD.ok (λw' _=>uC underlying9 hc1) (aD.ok (λw' _=>pE) ?_);have e5:¬ (191:Int) < (c.toNat:Int):=by omega
  simp only [e5,aY];refine V.ok (aJs (k:=2) underlying9 (by omega)) ?_;refine ⟨⟨_,hmem,rfl,(x1.trans x2).trans D1⟩,?_⟩;show (t.extract 2 t.size).size < t.size;rw [hex];omega
def rnB (c:Nat):Bool:=(97<=c&&c<=122)||(48<=c&&c<=57)||c == 45||c == 46||(224<=c&&c<=255)
theorem BO {c:Nat} (h:rnB c=true):(97<=c/\c<=122)\/(¬ (97<=c)/\48<=c/\c<=57)\/c=45\/c=46\/(224<=c/\c<=255):=by
 simp only [rnB,Bool.or_eq_true,Bool.and_eq_true,decide_eq_true_eq,beq_iff_eq] at h;omega
theorem VV {c:Nat} (h:rnB c=true) (hk:K (.bool true) w):aC prog 242 #[.int .i32 c] w K:=by
 apply aFx;unfold IQ;rcases BO h with ⟨h1,h2⟩|⟨h0,h1,h2⟩|rfl|rfl|⟨h1,h2⟩
 ·have a1:(c:Int)>=97:=by omega
  have a2:(c:Int)<=122:=by omega
  simp only [a1,a2,aY];exact hk
 ·have a1:¬ (c:Int)>=97:=by omega
  have a2:(c:Int)>=48:=by omega
  have a3:(c:Int)<=57:=by omega
  simp only [a1,a2,a3,aY];exact hk
 ·simp only [show ((45:Nat):Int)=45 from rfl,aY,Int.reduceGE];exact hk
 ·simp only [show ((46:Nat):Int)=46 from rfl,aY,Int.reduceEq,Int.reduceGE];exact hk
 ·have a1:(c:Int)>=97:=by omega
  have a2:¬ (c:Int)<=122:=by omega
  have a3:(c:Int)>=48:=by omega
  have a4:¬ (c:Int)<=57:=by omega
  have a5:¬ (c:Int)=45:=by omega
  have a6:¬ (c:Int)=46:=by omega
  have a7:(c:Int)>=224:=by omega
  have a8:(c:Int)<=255:=by omega
  simp only [a1,a2,a3,a4,a5,a6,a7,a8,aY];exact hk
def aMk (s:ByteArray) (vs:List ByteArray) (ps:List Nat):Prop:=(s∈vs/\∀ t∈vs,aLc t vs)/\(1<=s.size/\s.size<=16)/\0∈ps/\∀ p∈ps,p < s.size->rnB (Utf8.decode s p).1=true/\p+(Utf8.decode s p).2∈ps/\0 < (Utf8.decode s p).2
theorem aAh {s:ByteArray} {ps:List Nat} (hT:oT w) (h:aMk s vs ps):aC prog 109 #[.string s] w (mU True w):=by
 obtain ⟨⟨h1,h2⟩,⟨h3,h4⟩,h5,h6⟩:=h;apply aJc;suffices key:∀ R:O->Ω->Prop,(∀ w',aG w w'->R (.bool true) w')->AM (.string s) w R from key _ λ_ hx=>mU.yes trivial hx;intro R hR;unfold AM;refine V.ok (sG underlying9) (aV.2 ?_);have e1:¬ (s.size:Int) < 1:=by omega
 simp only [e1,aY];refine V.ok (sG underlying9) (dR.2 ?_);have e2:¬ (s.size:Int) > 16:=by omega
 simp only [e2,aY];refine PD hT h1 h2 λw1 x1=>fN.2 ?_;simp only [aY];refine V.ok (run_range_string _ _ _ underlying9) ?_;refine ⟨λw'=>∃ p∈ps,w'=w1.iter s p,λw'=>mu λq=>∃ p∈ps,w'=w1.iter s p/\s.size - p=q,⟨0,h5,rfl⟩,?_⟩;rintro _ ⟨p0,hp0,rfl⟩ _;obtain ⟨p,hp,hpe,hmu⟩:=EC (p:=λq=>∃ p∈ps,w1.iter s p0=w1.iter s p/\s.size - p=q) ⟨_,p0,hp0,rfl,rfl⟩;rw [hpe];rw [hpe] at hmu;by_cases hlt:p < s.size
 ·obtain ⟨g1,g2,g3⟩:=h6 p hp hlt;refine V.ok (uZ _ _ _ _ hlt) (DJ (v:=.bool true) rfl (aE.2 (DJ (v:=.int .i32 ((Utf8.decode s p).1:Nat)) rfl ?_)))
  have hmu':mu (λq=>∃ p'∈ps,w1.iter s (p+(Utf8.decode s p).2)=w1.iter s p'/\s.size - p'=q) < mu (λq=>∃ p'∈ps,w1.iter s p=w1.iter s p'/\s.size - p'=q):=by
   rw [<- hmu];exact Nat.lt_of_le_of_lt (ZW ⟨_,g2,rfl,rfl⟩) (by omega)
  generalize (Utf8.decode s p).2=wd at *;generalize (Utf8.decode s p).1=c at *;rcases BO g1 with ⟨h1,h2⟩|⟨h0,h1,h2⟩|rfl|rfl|⟨h1,h2⟩
  ·have a1:(c:Int)>=97:=by omega
   have a2:(c:Int)<=122:=by omega
   simp only [a1,a2,aY];exact ⟨⟨_,g2,rfl⟩,hmu'⟩
  ·have a1:¬ (c:Int)>=97:=by omega
   have a2:(c:Int)>=48:=by omega
   have a3:(c:Int)<=57:=by omega
   simp only [a1,a2,a3,aY];exact ⟨⟨_,g2,rfl⟩,hmu'⟩
  ·simp only [show ((45:Nat):Int)=45 from rfl,aY,Int.reduceGE];exact ⟨⟨_,g2,rfl⟩,hmu'⟩
  ·simp only [show ((46:Nat):Int)=46 from rfl,aY,Int.reduceEq,Int.reduceGE];exact ⟨⟨_,g2,rfl⟩,hmu'⟩
  ·have a1:(c:Int)>=97:=by omega
   have a2:¬ (c:Int)<=122:=by omega
   have a3:(c:Int)>=48:=by omega
   have a4:¬ (c:Int)<=57:=by omega
   have a5:¬ (c:Int)=45:=by omega
   have a6:¬ (c:Int)=46:=by omega
   have a7:(c:Int)>=224:=by omega
   have a8:(c:Int)<=255:=by omega
   simp only [a1,a2,a3,a4,a5,a6,a7,a8,aY];exact ⟨⟨_,g2,rfl⟩,hmu'⟩
 ·refine V.ok (run_next_end _ _ _ _ hlt) (DJ rfl (aA.2 ?_));exact hR _ (x1.trans ((aG.refl _).alloc _))
theorem VW {s:ByteArray} {ps:List Nat} (hT:oT w) (h:aMk s vs ps) (hne:(s.toList == ({ data:=#[] }:ByteArray).toList)=false):aC prog 224 #[.string s] w (mU True w):=by
 obtain ⟨⟨h1,h2⟩,⟨h3,h4⟩,h5,h6⟩:=h;apply aGb;suffices key:∀ R:O->Ω->Prop,(∀ w',aG w w'->R (.bool true) w')->zX (.string s) w R from key _ λ_ hx=>mU.yes trivial hx;intro R hR;unfold zX;refine V.ok sZ ?_;rw [hne];simp only [aY];refine V.ok (sG underlying9) (dR.2 ?_);have e2:¬ (s.size:Int) > 16:=by omega
 simp only [e2,aY];refine PD hT h1 h2 λw1 x1=>fN.2 ?_;simp only [aY];refine V.ok (run_range_string _ _ _ underlying9) ?_;refine ⟨λw'=>∃ p∈ps,w'=w1.iter s p,λw'=>mu λq=>∃ p∈ps,w'=w1.iter s p/\s.size - p=q,⟨0,h5,rfl⟩,?_⟩;rintro _ ⟨p0,hp0,rfl⟩ _;obtain ⟨p,hp,hpe,hmu⟩:=EC (p:=λq=>∃ p∈ps,w1.iter s p0=w1.iter s p/\s.size - p=q) ⟨_,p0,hp0,rfl,rfl⟩;rw [hpe];rw [hpe] at hmu;by_cases hlt:p < s.size
 ·obtain ⟨g1,g2,g3⟩:=h6 p hp hlt;refine V.ok (uZ _ _ _ _ hlt) (DJ (v:=.bool true) rfl (aE.2 (DJ (v:=.int .i32 ((Utf8.decode s p).1:Nat)) rfl ?_)));refine VV g1 (fN.2 (aA.2 ⟨⟨_,g2,rfl⟩,?_⟩));show mu _ < mu _;rw [<- hmu];exact Nat.lt_of_le_of_lt (ZW ⟨_,g2,rfl,rfl⟩) (by omega)
 ·refine V.ok (run_next_end _ _ _ _ hlt) (DJ rfl (aA.2 ?_));exact hR _ (x1.trans ((aG.refl _).alloc _))
def ZY (t:ByteArray) (vs:List ByteArray):Bool:=vs.any λu=>decide (u.data=t.data)
theorem ED {t:ByteArray} (h:ZY t vs=true):t∈vs:=by
 simp only [ZY,List.any_eq_true,decide_eq_true_eq] at h;obtain ⟨u,hu,he⟩:=h;have:u=t:=ByteArray.ext he;subst this;exact hu
def XZ (t:ByteArray) (vs:List ByteArray):Bool:=
 decide (t.size<=8)&&(decide (t.size=0)||(match t[0]? with
  | some c=>(decide (c.toNat < 128)&&ZY (t.extract 1 t.size) vs)||(decide (c=195)&&(match t[1]? with
   | some d=>decide (128<=d.toNat/\d.toNat<=191)&&ZY (t.extract 2 t.size) vs
   | none=>false))
  | none=>false))
theorem XY {t:ByteArray} (h:XZ t vs=true):aLc t vs:=by
 simp only [XZ,Bool.and_eq_true,Bool.or_eq_true,decide_eq_true_eq] at h;refine ⟨h.1,?_⟩;rcases h.2 with h2|h2
 ·exact .inl h2
 ·right;cases h0:t[0]? with
  | none=>rw [h0] at h2;cases h2
  | some c=>
   rw [h0] at h2;simp only [Bool.or_eq_true,Bool.and_eq_true,decide_eq_true_eq] at h2;rcases h2 with ⟨a,b⟩|⟨a,b⟩
   ·exact .inl ⟨c,rfl,a,ED b⟩
   ·subst a;cases h1:t[1]? with
    | none=>rw [h1] at b;cases b
    | some d=>
     rw [h1] at b;simp only [Bool.and_eq_true,decide_eq_true_eq] at b;exact .inr ⟨d,rfl,rfl,b.1.1,b.1.2,ED b.2⟩
def ZP (s:ByteArray) (vs:List ByteArray) (ps:List Nat):Bool:=
 (ZY s vs&&vs.all λt=>XZ t vs)&&decide (1<=s.size/\s.size<=16)&&decide (0∈ps)&&ps.all λp=>!decide (p < s.size)||(rnB (Utf8.decode s p).1&&decide (p+(Utf8.decode s p).2∈ps)&&decide (0 < (Utf8.decode s p).2))
theorem yX {s:ByteArray} {ps:List Nat} (h:ZP s vs ps=true):aMk s vs ps:=by
 simp only [ZP,Bool.and_eq_true,decide_eq_true_eq,List.all_eq_true] at h;obtain ⟨⟨⟨⟨h1,h2⟩,h3⟩,h4⟩,h5⟩:=h;refine ⟨⟨ED h1,λt ht=>XY (h2 t ht)⟩,h3,h4,λp hp hlt=>?_⟩;have:=h5 p hp;simp only [hlt,decide_true,Bool.not_true,Bool.false_or,Bool.and_eq_true,decide_eq_true_eq] at this;exact ⟨this.1.1,this.1.2,this.2⟩
theorem NH {s:ByteArray} (h:s∈nmB) (hT:oT w):uO w s:=by
 have key:∀ {vs:List ByteArray} {ps:List Nat},ZP s vs ps=true->(s.toList == ({ data:=#[] }:ByteArray).toList)=false->uO w s:=λh1 h2 w' hx=>⟨aAh (hT.ext hx) (yX h1),VW (hT.ext hx) (yX h1) h2,(yX h1).2.1.2⟩;simp only [nmB,List.mem_cons,List.not_mem_nil,or_false] at h;rcases h with rfl|rfl|rfl|rfl
 ·exact key (vs:=[⟨#[97,108,112,104,97]⟩,⟨#[108,112,104,97]⟩,⟨#[112,104,97]⟩,⟨#[104,97]⟩,⟨#[97]⟩,⟨#[]⟩]) (ps:=[0,1,2,3,4,5]) (by kernel_rfl) (by kernel_rfl)
 ·exact key (vs:=[⟨#[98,195,169,116,97]⟩,⟨#[195,169,116,97]⟩,⟨#[116,97]⟩,⟨#[97]⟩,⟨#[]⟩]) (ps:=[0,1,3,4,5]) (by kernel_rfl) (by kernel_rfl)
 ·exact key (vs:=[⟨#[103,45,49]⟩,⟨#[45,49]⟩,⟨#[49]⟩,⟨#[]⟩]) (ps:=[0,1,2,3]) (by kernel_rfl) (by kernel_rfl)
 ·exact key (vs:=[⟨#[100,46,195,191]⟩,⟨#[46,195,191]⟩,⟨#[195,191]⟩,⟨#[]⟩]) (ps:=[0,1,2,4]) (by kernel_rfl) (by kernel_rfl)
theorem NI {n:Int} (hk:∀ s∈nmB,K (.string s) w):aC prog 83 #[i64 n] w K:=by
 apply aPn;unfold SS;refine aEy (v:=.agg (nmB.map Value.string).toArray) (λw=>by kernel_rfl) ?_;refine eV (by decide) (by decide) λq hq0 hq1=>?_;have hc:q=0\/q=1\/q=2\/q=3:=by omega
 rcases hc with rfl|rfl|rfl|rfl
 ·exact V.ok (v:=.string ⟨#[97,108,112,104,97]⟩) (w':=w) (by kernel_rfl) (hk _ (by simp [nmB]))
 ·exact V.ok (v:=.string ⟨#[98,195,169,116,97]⟩) (w':=w) (by kernel_rfl) (hk _ (by simp [nmB]))
 ·exact V.ok (v:=.string ⟨#[103,45,49]⟩) (w':=w) (by kernel_rfl) (hk _ (by simp [nmB]))
 ·exact V.ok (v:=.string ⟨#[100,46,195,191]⟩) (w':=w) (by kernel_rfl) (hk _ (by simp [nmB]))
end Go.Proofs.YtgkkecladbmjkaaGreatDoor
namespace Go.Vc
section
variable {P:Program} {w:Ω} {K:O->Ω->Prop}
theorem aSn {t e sz:Nat} {z:O} {by_:Nat} (ht:P.underlying t=some (.slice e)) (hi:cV P e z sz by_) {v:O} {n:Nat} {cs:List O} (h:aB w v sz n cs) {lo hi':Option O} {a b:Nat} (ha:(lo=none/\a=0)\/lo=some (.int .i64 a)) (hb:(hi'=none/\b=n)\/hi'=some (.int .i64 b)) (hab:a<=b) (hbn:b<=n) :
  ∃ v',(∀ w',(Instr.sliceAt t v lo hi' none).run P w'=.ok v' w')/\∀ w2,aB w2 v sz n cs->aB w2 v' sz (b - a) ((cs.drop (a*sz)).take ((b - a)*sz)):=by
 have hcl:cs.length=n*sz:=h.1;have hmul:(b - a)*sz+a*sz<=n*sz:=by rw [<- Nat.add_mul];exact Nat.mul_le_mul_right _ (by omega)
 rcases h.2 with ⟨rfl,h0⟩|⟨g,off,cap,rfl,h1,h2,_⟩
 ·have ea:a=0:=by omega
  have eb:b=0:=by omega
  subst ea eb;refine ⟨.slice none 0 0,λw'=>?_,λw2 _=>?_⟩
  ·rcases ha with ⟨rfl,_⟩|rfl<;>rcases hb with ⟨rfl,_⟩|rfl<;>simp [Instr.sliceAt,Instr.slice,run_underlying ht,dU hi,Instr.sliceBounds,Instr.sliceBound,asIntOf]
  ·simp;exact aB.nil w2 _
 ·have hb1:(0:Int)<=b/\(b:Int)<=cap:=⟨by omega,by omega⟩;have ha1:(0:Int)<=a/\(a:Int)<=b:=⟨by omega,by omega⟩;have hbc:b<=cap:=by omega
  refine ⟨.slice (if cap=a then some ⟨g,off,none⟩ else (some (⟨g,off,none⟩:Addr)).map (·.add (a*sz))) (b - a) (cap - a),λw'=>?_,λw2 hw2=>?_⟩
  ·rcases ha with ⟨rfl,rfl⟩|rfl<;>rcases hb with ⟨rfl,rfl⟩|rfl<;>simp [Instr.sliceAt,Instr.slice,run_underlying ht,dU hi,Instr.sliceBounds,Instr.sliceBound,asIntOf,hab,hbc]
  ·refine ⟨by rw [List.length_take,List.length_drop];omega,.inr ?_⟩;by_cases hca:cap=a
   ·rw [if_pos hca];have e0:b - a=0:=by omega
    exact ⟨g,off,cap - a,rfl,by omega,by omega,λj u hj=>by rw [e0] at hj;simp at hj⟩
   ·rw [if_neg hca];rcases hw2.2 with ⟨he,_⟩|⟨g',off',cap',he,_,_,h3⟩
    ·cases he
    ·cases he;refine ⟨g,off+a*sz,cap - a,by simp [gO],by omega,by omega,λj u hj=>?_⟩;rw [List.getElem?_take] at hj;split at hj
     ·rw [List.getElem?_drop] at hj;have:=h3 _ _ hj;rw [Nat.add_assoc];exact this
     ·cases hj
end
end Go.Vc
namespace Go.Proofs.YtgkkecladbmjkaaGreatDoor
open Tryz
open Go.Vc Go.Tc
variable {w:Ω} {K:O->Ω->Prop}
theorem dS.part {α:Type} {T:Ω->List O->α->Prop} {sz t e by_:Nat} {z v:O} {l:List α} (ht:Program.underlying prog t=some (.slice e)) (hi:cV prog e z sz by_) (h:dS T sz w v l) {lo hi':Option O} {a b:Nat} (ha:(lo=none/\a=0)\/lo=some (.int .i64 a)) (hb:(hi'=none/\b=l.length)\/hi'=some (.int .i64 b)) (hab:a<=b) (hbn:b<=l.length) :
  ∃ v',(∀ w',(Instr.sliceAt t v lo hi' none).run prog w'=.ok v' w')/\dS T sz w v' ((l.drop a).take (b - a)):=by
 obtain ⟨cs,h1,h2⟩:=h;obtain ⟨v',hr,hs⟩:=aSn ht hi h1 ha hb hab hbn;refine ⟨v',hr,(cs.drop (a*sz)).take ((b - a)*sz),?_,λk x hk=>?_⟩
 ·have:=hs w h1
  rwa [show ((l.drop a).take (b - a)).length=b - a by simp;omega]
 ·rw [List.getElem?_take] at hk;split at hk
  case isFalse=>cases hk
  rename_i hlt
  rw [List.getElem?_drop] at hk;obtain ⟨row,h3,h4⟩:=h2 (a+k) x hk;refine ⟨row,?_,h4⟩
  have hle:k*sz+sz<=(b - a)*sz:=by
   have:=Nat.mul_le_mul_right sz (show k+1<=b - a by omega);rw [Nat.add_mul,Nat.one_mul] at this;exact this
  have hmin:min sz ((b - a)*sz - k*sz)=sz:=Nat.min_eq_left (by omega);rw [<- h3,List.drop_take,List.drop_drop,List.take_take,Nat.add_mul,hmin]
theorem eW.part {t e by_:Nat} {z v:O} {l:List Rw} (ht:Program.underlying prog t=some (.slice e)) (hi:cV prog e z 4 by_) (h:eW w v l) {lo hi':Option O} {a b:Nat} (ha:(lo=none/\a=0)\/lo=some (.int .i64 a)) (hb:(hi'=none/\b=l.length)\/hi'=some (.int .i64 b)) (hab:a<=b) (hbn:b<=l.length) :
  ∃ v',(∀ w',(Instr.sliceAt t v lo hi' none).run prog w'=.ok v' w')/\eW w v' ((l.drop a).take (b - a)):=by
 by_cases h0:0 < l.length
 ·obtain ⟨v',h1,h2⟩:=dS.part ht hi (h.2 h0) ha hb hab hbn;exact ⟨v',h1,eW.of h2⟩
 ·obtain ⟨⟨a0,c,rfl⟩,_⟩:=h;have el:l=[]:=List.length_eq_zero_iff.1 (by omega);subst el;obtain rfl:a=0:=by simp at hbn;omega
  obtain rfl:b=0:=by simpa using hbn
  refine ⟨.slice (if c=0 then a0 else a0.map (·.add (0*4))) 0 c,λw'=>?_,⟨_,_,rfl⟩,λh=>by simp at h⟩
  rcases ha with ⟨rfl,_⟩|rfl<;>rcases hb with ⟨rfl,_⟩|rfl<;>simp [Instr.sliceAt,Instr.slice,run_underlying ht,dU hi,Instr.sliceBounds,Instr.sliceBound,asIntOf]
theorem YB {t s f o ft sz n g cap B e:Nat} {ez fz:O} {eb fb:Nat} {xs:List O} {k:Nat} {u:O} {K':Ω->Prop} (_:Program.underlying prog t=some (.slice e)) (_:cV prog e ez sz eb) (_:FA prog s f o) (hft:cV prog ft fz 1 fb)
  (ho:w.ownsRow B e sz (.slice (some ⟨g,0,none⟩) n cap) n xs) (hk:k < n) (hos:o < sz) (hu:cB u=true) (hK:∀ w',w'=w.setCell ⟨g,k*sz+o,none⟩ u->w'.ownsRow B e sz (.slice (some ⟨g,0,none⟩) n cap) n (xs.set (k*sz+o) u)->Fr (λi=>i=g) w w'->K' w') :
  U prog (Instr.storeAt ft (.pointer (some ⟨g,0+k*sz+o,none⟩)) u) w λ_ w2=>K' w2:=by
 have hle:k*sz+sz<=n*sz:=by
  have:=Nat.mul_le_mul_right sz (show k+1<=n by omega);rw [Nat.add_mul,Nat.one_mul] at this;exact this
 obtain ⟨s1,s2⟩:=ho.stored (k*sz+o) u;have hc:=ho.cellAt (k*sz+o) (by omega);have hlt:k*sz+o < xs.length:=by rw [ho.1];omega
 rw [List.getElem?_eq_getElem hlt] at hc;rw [Nat.zero_add];exact U.ok (lV hft hu hc (ho.frozenAt _)) (hK _ rfl s1 (Fr.of_set rfl))
def oS (code:Nat->List gP):List gU:=[⟨[],0,[1,2,3,4],code 0⟩,⟨[1,2],2,[1,2,3,4],code 1⟩,⟨[4,3],3,[1,2],code 2⟩]
def AX (n1 n2:ByteArray):List zV:=[⟨n1,0,[1,2],2⟩,⟨n2,1,[4,3],3⟩]
def apC (lv p1 p2 lv3:O) (c:Nat->O):List O:=[bT,i64 0,lv,c 0,p1,i64 2,lv,c 1,p2,i64 3,lv3,c 2]
theorem aBt {mv lv p1 p2 lv3:O} {c:Nat->O} {code:Nat->List gP} (h:aB w mv 4 3 (apC lv p1 p2 lv3 c)) (hl:aU w lv [1,2,3,4]) (h1:aU w p1 [1,2]) (h2:aU w p2 [4,3]) (h3:aU w lv3 [1,2]) (hc:∀ k,k < 3->pM w (c k) (code k)):oV w mv (oS code):=by
 refine ⟨_,h,λk x hk=>?_⟩
 match k,hk with
 | 0,hk=>cases hk;exact ⟨_,rfl,bT,lv,c 0,rfl,aB.nil _ _,hl,hc 0 (by decide)⟩
 | 1,hk=>cases hk;exact ⟨_,rfl,p1,lv,c 1,rfl,h1,hl,hc 1 (by decide)⟩
 | 2,hk=>cases hk;exact ⟨_,rfl,p2,lv3,c 2,rfl,h2,h3,hc 2 (by decide)⟩
 | k+3,hk=>simp [oS] at hk
theorem aOr {iv q1 q2:O} {n1 n2:ByteArray} (h:aB w iv 4 2 [.string n1,i64 0,q1,i64 2,.string n2,i64 1,q2,i64 3]) (h1:aU w q1 [1,2]) (h2:aU w q2 [4,3]):oW w iv (AX n1 n2):=by
 refine ⟨_,h,λk x hk=>?_⟩
 match k,hk with
 | 0,hk=>cases hk;exact ⟨_,rfl,q1,rfl,h1⟩
 | 1,hk=>cases hk;exact ⟨_,rfl,q2,rfl,h2⟩
 | k+2,hk=>simp [AX] at hk
theorem rB {g:Nat} {w':Ω} (h:Chg w g w'):Fr (λk=>k=g) w w':=Fr.of_grown h.grown λk hk=>by cases hk;rfl
structure IL (g4 gi:Nat) (w:Ω) (v:O) (l:List Int):Prop where
 own:w.ownsRow (g4+1) 3 1 v l.length (l.map i64)
 ne:∀ k,v.ownBlock=some k->k≠gi
theorem IL.ext {g4 gi:Nat} {w':Ω} {v:O} {l:List Int} (h:IL g4 gi w v l) (hx:aG w w'):IL g4 gi w' v l:=⟨hx.own h.own,h.ne⟩
theorem IL.fr {g4 gi N:Nat} {w':Ω} {v:O} {l:List Int} (h:IL g4 gi w v l) (f:Fr (λk=>k=gi\/k<=g4\/N<=k) w w') (hN:w.heap.size<=N):IL g4 gi w' v l:=
 ⟨f.own h.own λk hk hS=>by have:=h.own.lt k hk;have:=h.ne k hk;omega,h.ne⟩
theorem IL.ints {g4 gi:Nat} {v:O} {l:List Int} (h:IL g4 gi w v l):aU w v l:=aB.of_own h.own
theorem QW (n:Int):cB (i64 n)=true:=rfl
theorem CJ (s:ByteArray):cB (.string s)=true:=rfl
theorem aJy (a:Option Addr) (n c:Nat):cB (.slice a n c)=true:=rfl
theorem WU {code:Nat->List gP} {j:Nat} {m:gU} (h:(oS code)[j]?=some m):m.params.length<=4/\m.locals.length<=4:=by
 match j,h with
 | 0,hm=>cases hm;exact ⟨by simp,by simp⟩
 | 1,hm=>cases hm;exact ⟨by simp,by simp⟩
 | 2,hm=>cases hm;exact ⟨by simp,by simp⟩
 | k+3,hm=>simp [oS] at hm
theorem aFf {lv p1 p2 lv3 v:O} {c:Nat->O} {j:Nat} (h:j < 3):(apC lv p1 p2 lv3 c).set (j*4+3) v=apC lv p1 p2 lv3 (λk=>if k=j then v else c k):=by
 match j,h with
 | 0,_=>rfl
 | 1,_=>rfl
 | 2,_=>rfl
theorem aFd {mv lv p1 p2 lv3:O} {c:Nat->O} {code:Nat->List gP} (h:aB w mv 4 3 (apC lv p1 p2 lv3 c)) (hl:aU w lv [1,2,3,4]) (h1:aU w p1 [1,2]) (h2:aU w p2 [4,3]) (h3:aU w lv3 [1,2]) (hc:∀ k,k < 3->pM w (c k) (code k)) :
  aB w mv 4 3 (apC lv p1 p2 lv3 c)/\∀ (k:Nat) (x:gU),(oS code)[k]?=some x->jO w (((apC lv p1 p2 lv3 c).drop (k*4)).take 4) x:=by
 refine ⟨h,λk x hk=>?_⟩
 match k,hk with
 | 0,hk=>cases hk;exact ⟨bT,lv,c 0,rfl,aB.nil _ _,hl,hc 0 (by decide)⟩
 | 1,hk=>cases hk;exact ⟨p1,lv,c 1,rfl,h1,hl,hc 1 (by decide)⟩
 | 2,hk=>cases hk;exact ⟨p2,lv3,c 2,rfl,h2,h3,hc 2 (by decide)⟩
 | k+3,hk=>simp [oS] at hk
structure Zm (w0:Ω) (lv:O) (code:List gP) (d:Nat) (w:Ω):Prop where
 ext:aG w0 w
 at_:∃ cv,bD w w0.heap.size [cv,bT,i64 0,lv,i64 (d:Int)] 252/\w.ownsRow (w0.heap.size+1) 70 3 cv code.length (jK code)
section
variable {w0 w':Ω} {lv:O} {code:List gP} {d:Nat} {loc:List Int}
theorem Zm.step (h:Zm w0 lv code d w) (hx:aG w w'):Zm w0 lv code d w':=by
 obtain ⟨x,cv,h1,h2⟩:=h;exact ⟨x.trans hx,cv,h1.ext hx,hx.own h2⟩
theorem ZQ (h:Zm w0 lv code d w) (hk:K (i64 0) w):aC prog 210 #[.pointer (some ⟨w0.heap.size,0,none⟩)] w K:=by
 obtain ⟨x,cv,h1,h2⟩:=h;apply TW;unfold AB;refine ⟨.inl ⟨_,rfl⟩,bA h1.boxed eJ aZ rfl (aFs.2 (aF.2 ?_))⟩;simp only [show (((0:Nat):Int)=0) by rfl,decide_true,aE];exact hk
theorem ZH {m:Int} (hm:0 < m) (hk:K (i64 0) w):aC prog 11 #[i64 0,i64 m] w K:=by
 apply aCn;unfold GD;refine rm hm λc hc _ _=>?_;have hc:c=0:=by rw [hc];simp
 subst hc;refine aV.2 ?_;simp only [show ¬ ((0:Int) < 0) by decide,decide_false,aA];exact hk
theorem aMb {op a b:Int} (h:Zm w0 lv code d w) (hl:code.length<=1000) (hk:∀ w',Zm w0 lv (code++[⟨op,a,b⟩]) d w'->K (.tuple #[]) w'):aC prog 132 #[.pointer (some ⟨w0.heap.size,0,none⟩),i64 op,i64 a,i64 b] w K:=by
 obtain ⟨x,cv,a1,a2⟩:=h;have sx:=a1.lt;apply UF;unfold AJ;refine ⟨.inl ⟨_,rfl⟩,bA (bD.boxed a1) bS iF rfl ?_⟩;refine bld tR [(0,i64 op),(1,i64 a),(2,i64 b)] rfl rfl ?_;refine EP underlying71 nZ rfl (by decide) [.agg #[i64 op,i64 a,i64 b]] rfl rfl (by intro v hv;rw [List.mem_singleton] at hv;subst hv;rfl) (by decide) (by decide) λuv w5 ho5 x5=>?_;have s5:=x5.size;refine apG underlying71 nZ rfl (by decide) (x5.own a2) (aB.of_own ho5) (by rfl) (by omega) (by unfold maxLen;omega) (by omega) λv6 w6 ho6 hg6 hl6=>?_;have a1':bD w6 w0.heap.size _ _:=(Fr.of_grown (S:=λk=>cv.ownBlock=some k) hg6 λk hk=>hk).blk (a1.ext x5) λhk=>by have:=(a2.lt _ hk).1;omega
 have x6:aG w0 w6:=(x.trans x5).grown hg6 λk hk=>by have:=(a2.lt k hk).1;omega
 have e6:jK code++[Value.agg #[i64 op,i64 a,i64 b]].flatMap (λv=>v.cells.toList)=jK (code++[⟨op,a,b⟩]):=by rw [CP];rfl
 rw [e6] at ho6;refine ⟨.inl ⟨_,rfl⟩,BG bS wS a1' (n:=5) rfl (by decide) (eZ ho6) (hk _ ⟨x6.setCell (Nat.le_refl _) _,v6,a1'.set 0 _,?_⟩)⟩;rw [List.length_append];exact (Fr.of_set (S:=λi=>i=w0.heap.size) rfl).own ho6 λk hk he=>by have:=(ho6.lt k hk).1;omega
def EK (loc:List Int) (k:Int) (j:Nat):List Int:=((List.range j).filter λi=>decide (bI loc i=k)).map Int.ofNat
theorem HX (loc:List Int) (k:Int) (j:Nat):EK loc k (j+1)=EK loc k j++if bI loc j=k then [(j:Int)] else []:=by
 unfold EK;rw [List.range_succ,List.filter_append,List.map_append];by_cases h:bI loc j=k<;>simp [h]
theorem aEl (loc:List Int) (k:Int):∀ j,(EK loc k j).length<=j:=λj=>by
 unfold EK;rw [List.length_map];exact Nat.le_trans (List.length_filter_le _ _) (by simp)
theorem aAa {k z:Int} (h:Zm w0 lv code d w) (hloc:aU w0 lv loc) (hll:loc.length<=100) (hz:(EK loc k loc.length)[0]?=some z) (hk:∀ w',Zm w0 lv code d w'->K (.tuple #[i64 z,.bool true]) w') :
  aC prog 211 #[.pointer (some ⟨w0.heap.size,0,none⟩),i64 k] w K:=by
 apply TV;unfold AA;refine ⟨λsv v w'=>∃ (j:Nat),v=i64 j/\j<=loc.length/\aG w w'/\w'.ownsRow w.heap.size 3 1 sv (EK loc k j).length ((EK loc k j).map i64),λ_ v _=>loc.length - (RowKit.intOf v).toNat,⟨0,rfl,Nat.zero_le _,aG.refl _,World.ownsRow_nil _ _ _ _⟩,?_⟩;rintro sv _ w1 ⟨j,rfl,hj,x1,ho⟩ _;have h1:=h.step x1;obtain ⟨x,cv,a1,a2⟩:=h1;have hloc:=hloc.ext x;have hjl:=aEl loc k j;refine ⟨.inl ⟨_,rfl⟩,bA (bD.boxed a1) eG aZ rfl (gG aM hloc (aV.2 (aK (λhlt=>?_) λhge=>?_)))⟩
 ·refine ⟨.inl ⟨_,rfl⟩,bA (bD.boxed a1) eG aZ rfl ?_⟩;refine nO aM aL hloc (by omega) (by omega) (fQ (rM (l:=loc) (j:=j) (by omega))) (aF.2 (aK (λhe=>?_) λhe=>?_))
  ·refine mF bU [i64 j] rfl rfl (by simp) rfl λv2 w2 ho2 x2=>?_;refine WT bU (x2.own ho) (aB.of_own ho2) rfl (by omega) (by unfold maxLen;omega) (x1.trans x2).size λv3 w3 ho3 hg3=>?_;refine mH (by omega) ?_;refine ⟨⟨j+1,rfl,by omega,(x1.trans x2).grown hg3 λq hq=>((x2.own ho).lt q hq).1,?_⟩,by simp only [aT];omega⟩;rw [HX,if_pos he];simpa using ho3
  ·refine mH (by omega) ?_;refine ⟨⟨j+1,rfl,by omega,x1,?_⟩,by simp only [aT];omega⟩;rw [HX,if_neg he,List.append_nil];exact ho
 have hjj:j=loc.length:=by omega
 subst hjj;have hpos:0 < (EK loc k loc.length).length:=(List.getElem?_eq_some_iff.1 hz).1;refine gG aM (aB.of_own ho) (aF.2 ?_);simp only [show ¬ (((EK loc k loc.length).length:Int)=0) by omega,decide_false,aA];refine ZQ ⟨x,cv,a1,a2⟩ ?_;refine gG aM (aB.of_own ho) (ZH (by omega) ?_);refine aMo aM aL ho (by omega) (by omega) (u:=i64 z) (by show ((EK loc k loc.length).map i64)[0]?=_;rw [List.getElem?_map,hz];rfl) ?_;exact hk _ ⟨x,cv,a1,a2⟩
theorem aVv {k z:Int} (h:Zm w0 lv code d w) (hl:code.length<=1000) (hloc:aU w0 lv loc) (hll:loc.length<=100) (hz:(EK loc k loc.length)[0]?=some z) (hk:∀ w',Zm w0 lv (code++[⟨2,z,0⟩]) d w'->K (.tuple #[]) w') :
  aC prog 178 #[.pointer (some ⟨w0.heap.size,0,none⟩),i64 k] w K:=by
 apply UC;unfold AF;refine ZQ h (ZH (by decide) ?_);refine ⟨λt w'=>t=.bool true/\w'=w,?_,?_⟩
 ·refine aF.2 ?_;simp only [decide_true,aE];exact ⟨trivial,trivial⟩
 rintro _ w1 ⟨rfl,hw⟩ _;have hw:=hw.symm;subst hw;simp only [aE];refine aAa h hloc hll hz λw2 h2=>?_;refine cL.2 (cK.2 ?_);simp only [aE];exact aMb h2 hl hk
theorem aSh {d':Nat} {K':Ω->Prop} (h:Zm w0 lv code d w) (hk:∀ w',Zm w0 lv code d' w'->K' w'):V prog (Instr.fieldAt 252 (.pointer (some ⟨w0.heap.size,0,none⟩)) 4) w λq w1=>U prog (Instr.storeAt 3 q (i64 (d':Nat))) w1 λ_ w2=>K' w2:=by
 obtain ⟨x,cv,a1,a2⟩:=h;refine BG gM fK a1 (n:=5) rfl (by decide) rfl (hk _ ⟨x.setCell (Nat.le_refl _) _,cv,a1.set 4 _,?_⟩);exact (Fr.of_set (S:=λi=>i=w0.heap.size) rfl).own a2 λk hk he=>by have:=(a2.lt k hk).1;omega
theorem aAp (h:Zm w0 lv code d w) (hk:K (i64 (d:Nat)) w):V prog (Instr.fieldAt 252 (.pointer (some ⟨w0.heap.size,0,none⟩)) 4) w λq w1=>V prog (Instr.loadAt 3 q) w1 K:=by
 obtain ⟨x,cv,a1,_⟩:=h;exact bA (bD.boxed a1) gM aL rfl hk
theorem aVd {z:Int} (h:Zm w0 lv code 0 w) (hl:code.length<=1000) (hloc:aU w0 lv loc) (hll:loc.length<=100) (hz:(EK loc 2 loc.length)[0]?=some z) (hk:∀ w',Zm w0 lv (code++[⟨2,z,0⟩]) 0 w'->K (.tuple #[]) w') :
  aC prog 181 #[.pointer (some ⟨w0.heap.size,0,none⟩)] w K:=by
 apply UA;unfold AE;refine ⟨.inl ⟨_,rfl⟩,aAp h (bW.2 ?_)⟩;refine ⟨.inl ⟨_,rfl⟩,aSh (d':=1) h λw1 h1=>?_⟩;refine ZQ h1 (ZH (by decide) ?_);refine ⟨λt w'=>t=i64 0/\w'=w1,⟨.inl ⟨_,rfl⟩,aAp h1 (dR.2 ?_)⟩,?_⟩
 ·simp only [show ¬ (((1:Nat):Int) > 3) by decide,decide_false,aA];exact ⟨trivial,trivial⟩
 rintro _ w1' ⟨rfl,hw⟩ _;have hw:=hw.symm;subst hw;refine ⟨λw'=>Zm w0 lv (code++[⟨2,z,0⟩]) 1 w',aF.2 ?_,?_⟩
 ·simp only [decide_true,aE];refine aAa h1 hloc hll hz λw2 h2=>cL.2 (cK.2 ?_);simp only [aE];exact aMb h2 hl λw3 h3=>h3
 intro w4 h4 _;refine ⟨.inl ⟨_,rfl⟩,aAp h4 (jV.2 ?_)⟩;exact ⟨.inl ⟨_,rfl⟩,aSh (d':=0) h4 λw5 h5=>hk w5 h5⟩
end
def bare (m:gU) (code:List gP):Prop:=(m.result=0/\code=[⟨39,0,0⟩])\/(∃ z,(m.result=2\/m.result=3)/\(EK (m.params++m.locals) m.result (m.params++m.locals).length)[0]?=some z/\code=[⟨2,z,0⟩,⟨39,0,0⟩])
theorem aTl {rv mv iv:O} {row:List O} {m:gU} {code:List gP} (hr:eW w rv []) (hrow:jO w row m) (pl:m.params.length<=50) (ll:m.locals.length<=50) (hb:bare m code)
  (hk:∀ v w',w'.ownsRow w.heap.size 70 3 v code.length (jK code)->aG w w'->K v w') :
  aC prog 84 #[rv,.agg row.toArray,mv,iv] w K:=by
 obtain ⟨pv,lv,cv,rfl,hp,hl,hc⟩:=hrow;apply aCe;unfold EZ;refine bx λb5 w1 hb5 x1=>?_;have hb5:gD w1 b5 [pv,i64 m.result,lv,cv]:=hb5;have D1:aG w1 w1.drew:=(aG.refl _).drew;have x2:=x1.trans D1;refine aH.mk' (λw'=>aG w1.drew w') (aG.refl _) ?_;refine dT (λw' hx=>hb5.ext (D1.trans hx)) fB aZ rfl ?_;refine dT (λw' hx=>hb5.ext (D1.trans hx)) oQ aZ rfl ?_;have hb5:=hb5.ext D1;generalize w1.drew=w2 at x2 hb5;clear D1;refine mF bU [] rfl rfl (by simp) rfl λv3 w3 ho3 x3=>⟨x3,?_⟩;refine WT bU ho3 (hp.ext (x2.trans x3)) (WW _) (by omega) (by unfold maxLen;omega) x3.size λv4 w4 ho4 hg4=>?_;have x4:aG w2 w4:=x3.grown hg4 λk hk=>(ho3.lt k hk).1;refine ⟨x4,WT bU ho4 (hl.ext (x2.trans x4)) (WW _) (by omega) (by unfold maxLen;omega) x4.size λlv' w5 ho5 hg5=>?_⟩;have x5:aG w2 w5:=x4.grown hg5 λk hk=>(ho4.lt k hk).1;refine ⟨x5,vS aBn [(3,lv')] rfl (by simp [eZ ho5]) ?_⟩
 have hloc:aU w5 lv' (m.params++m.locals):=by
  have:=aB.of_own ho5;unfold aU;simpa using this
 clear ho3 ho4 ho5 hg4 hg5;refine tH λw6 hB6 x6=>⟨x5.trans x6,?_⟩;have hB6:bD w6 w5.heap.size [bT,bT,i64 ((0:Nat):Int),lv',i64 ((0:Nat):Int)] 252:=hB6;have x25:=x2.trans x5;have hr:=hr.ext x25;have hb5:=hb5.ext x5;have hw5:w.heap.size<=w5.heap.size:=x25.size;have h6:Zm w5 lv' [] 0 w6:=⟨x6,bT,hB6,World.ownsRow_nil _ _ _ _⟩;have hlocl:(m.params++m.locals).length<=100:=by simp;omega
 refine ⟨λv w'=>v=i64 0/\w'=w6,λ_ _=>0,⟨rfl,rfl⟩,?_⟩;rintro _ w7 ⟨rfl,hw⟩ _;have hw:=hw.symm;subst hw;refine lnR rO (hr.ext h6.ext) (aV.2 ?_);simp only [show ¬ ((0:Int) < ((List.length ([]:List Rw):Nat):Int)) by decide,aY,decide_false];refine ⟨λtv v w'=>tv=bT/\v=i64 0/\w'=w6,λ_ _ _=>0,⟨rfl,rfl,rfl⟩,?_⟩;rintro _ _ w7 ⟨rfl,rfl,hw⟩ _;have hw:=hw.symm;subst hw;refine lnR rO (hr.ext h6.ext) (aV.2 ?_);simp only [show ¬ ((0:Int) < ((List.length ([]:List Rw):Nat):Int)) by decide,aY,reduceIte,Bool.false_eq_true,decide_false];refine ⟨.inl ⟨_,rfl⟩,bA (bD.boxed hB6) bS iF rfl (aFr.2 ?_)⟩;refine mF bU [i64 ((0:Nat):Int)] rfl rfl (by simp) rfl λv7 w7 ho7 x7=>?_;refine WT bU (B:=w7.heap.size) (World.ownsRow_nil _ _ _ _) (aB.of_own ho7) rfl (by omega) (by unfold maxLen;omega) (Nat.le_refl _) λv8 w8 ho8 hg8=>?_;have h8:Zm w5 lv' [] 0 w8:=(h6.step x7).step ((aG.refl _).grown hg8 λk hk=>by cases hk)
 have fin:∀ {w'},Zm w5 lv' code 0 w'->Go.Vc.aI (.pointer (some ⟨w5.heap.size,0,none⟩))/\V prog (Instr.fieldAt 252 (.pointer (some ⟨w5.heap.size,0,none⟩)) 0) w' λt w=>V prog (Instr.loadAt 71 t) w K:=by
  rintro w' ⟨x,cv,a1,a2⟩;exact ⟨.inl ⟨_,rfl⟩,bA (bD.boxed a1) bS iF rfl (hk _ w' (aR a2 (by omega)) (x25.trans x))⟩
 refine ⟨λv w'=>v=i64 0/\Zm w5 lv' [] 0 w',λ_ _=>0,⟨rfl,h8⟩,?_⟩;rintro _ w9 ⟨rfl,h9⟩ _;obtain ⟨x9,cv9,b9,o9⟩:=h9;have h9:Zm w5 lv' [] 0 w9:=⟨x9,cv9,b9,o9⟩;refine ⟨.inl ⟨_,rfl⟩,bA (bD.boxed b9) bS iF rfl (gG lL (aB.of_own o9) (aV.2 ?_))⟩;simp only [show ¬ ((0:Int) < ((List.length ([]:List gP):Nat):Int)) by decide,aY,decide_false];have hmt:∀ {w'},aG w5 w'->gD w' b5 [pv,i64 m.result,lv,_]:=λhx=>hb5.ext hx;refine ⟨λw'=>∃ c,Zm w5 lv' c 0 w'/\code=c++[⟨39,0,0⟩]/\c.length<=1,?_,?_⟩
 ·refine bA (hmt x9) jE aL rfl (aS.2 ?_);rcases hb with ⟨h1,h2⟩|⟨z,h1,h2,h3⟩
  ·simp only [h1,ne_eq,not_true_eq_false,decide_false,aA];exact ⟨[],h9,h2,by decide⟩
  ·simp only [show m.result≠0 by omega,ne_eq,not_false_eq_true,decide_true,aE];refine bA (hmt x9) jE aL rfl ?_;apply UG;unfold AK;rcases h1 with h1|h1
   ·rw [h1] at h2;refine aF.2 ?_;simp only [h1,show ¬ ((2:Int)=1) by decide,decide_false,aA];refine aF.2 ?_;simp only [decide_true,aE];exact aVd h9 (by decide) hloc hlocl h2 λw' h'=>⟨_,h',by rw [h3];rfl,by simp⟩
   ·rw [h1] at h2;refine aF.2 ?_;simp only [h1,show ¬ ((3:Int)=1) by decide,decide_false,aA];refine aF.2 ?_;simp only [show ¬ ((3:Int)=2) by decide,decide_false,aA];exact aVv h9 (by decide) hloc hlocl h2 λw' h'=>⟨_,h',by rw [h3];rfl,by simp⟩
 rintro w10 ⟨c,h10,hcc,hcl⟩ _;refine aMb h10 (by omega) λw11 h11=>?_;rw [<- hcc] at h11;obtain ⟨x11,cv11,b11,o11⟩:=h11;have hlen:code.length<=2:=by rw [hcc];simp;omega
 refine ⟨.inl ⟨_,rfl⟩,bA (bD.boxed b11) bS iF rfl (gG lL (aB.of_own o11) (dR.2 ?_))⟩;simp only [show ¬ ((code.length:Int) > 120) by omega,decide_false,aA];exact fin ⟨x11,cv11,b11,o11⟩
def bc (k:Nat):List gP:=if k=0 then [⟨39,0,0⟩] else [⟨2,1,0⟩,⟨39,0,0⟩]
def RZ (s n1 n2:ByteArray):bF:=⟨s,[1,2,3,4],AX n1 n2,oS bc,[1,2]⟩
theorem aFe {code:Nat->List gP} (h:∀ k,k < 3->code k=bc k):oS code=oS bc:=by
 unfold oS;rw [h 0 (by decide),h 1 (by decide),h 2 (by decide)]
theorem aEz {code:Nat->List gP} {j:Nat} {m:gU} (h:(oS code)[j]?=some m):bare m (bc j):=by
 match j,h with
 | 0,h=>cases h;exact .inl ⟨rfl,rfl⟩
 | 1,h=>cases h;exact .inr ⟨1,.inl rfl,by kernel_rfl,rfl⟩
 | 2,h=>cases h;exact .inr ⟨1,.inr rfl,by kernel_rfl,rfl⟩
 | k+3,h=>simp [oS] at h
theorem aTm {rv mv iv:O} {rl:List Rw} {row:List O} {m:gU} {ms:List gU} {is:List zV} (hr:eW w rv rl) (hrow:jO w row m) (hm:oV w mv ms) (hi:oW w iv is) (hb:mP w) (rn:rl.length<=5000000000000) (pl:m.params.length<=1000) (ll:m.locals.length<=1000)
  (m0:0 < ms.length/\ms.length<=1000) (m4:∀ m∈ms,m.params.length<=4) (i0:is.length<=1000) (i4:∀ x∈is,x.params.length<=4) {code0:List gP} (hz:bare m code0) (h0:∀ x∈code0,x.rg) (hl0:code0.length<=700000) (p0:m.params.length<=50) (l0:m.locals.length<=50)
  (hk:∀ v code w',w'.ownsRow w.heap.size 70 3 v code.length (jK code)->(∀ x∈code,x.rg)->code.length<=700000->(rl.length=0->code=code0)->aG w w'->K v w') :
  aC prog 84 #[rv,.agg row.toArray,mv,iv] w K:=by
 by_cases e:rl=[]
 ·subst e;exact aTl hr hrow p0 l0 hz λv w' ho x=>hk v _ w' ho h0 hl0 (λ_=>rfl) x
 ·exact aNx hr hrow hm hi hb rn pl ll m0 m4 i0 i4 λv c w' a1 a2 a3 x=>hk v c w' a1 a2 a3 (λh=>absurd (List.eq_nil_of_length_eq_zero h) e) x
theorem SB {n:Int} {rv:O} {rl:List Rw} (hr:eW w rv rl) (hb:mP w) (hT:oT w) (rn:rl.length<=5000000000000)
  (hk:∀ p i w',iG w' p i->mO w' i->i.rg->i.methods.length=3->(∀ m∈i.methods,m.code.length<=700000)->(∀ w'',Fr (λk=>k < w.heap.size) w' w''->oT w''->iG w'' p i/\mO w'' i)->(∃ cs:List O,∀ w'',Fr (λk=>k < w.heap.size) w' w''->aB w'' p.mv 4 i.methods.length cs/\∀ (k:Nat) (x:gU),i.methods[k]?=some x->jO w'' ((cs.drop (k*4)).take 4) x)->aG w w'->(rl.length=0->∃ s n1 n2,i=RZ s n1 n2)->K (p.val i) w'):aC prog 38 #[i64 n,rv] w K:=by
 apply aQp;unfold TN;refine MA jT λw1 hB4 x1=>?_;have hlt4:=hB4.lt;have hg4:w.heap.size<=w.heap.size:=Nat.le_refl _;generalize hgg4:w.heap.size=g4 at hB4 hg4 hlt4;refine mF bU [i64 1,i64 2,i64 3,i64 4] rfl rfl (by simp) rfl λlv w2 hol x2=>?_;refine NI λnm hnm=>?_;refine mF bU [i64 1,i64 2,i64 3,i64 4] rfl rfl (by simp) rfl λfv w3 hof x3=>?_;refine mF bU [i64 1,i64 2] rfl rfl (by simp) rfl λxv w4 hox x4=>?_;have o1:=eZ hof;have o2:=eZ hox;refine bld aKk [(0,.string nm),(1,fv),(4,xv)] rfl (by simp [o1,o2,CJ]) ?_;refine xL PW rfl (show ([.string nm,fv,bT,bT,xv]:List O).all cB=true by simp [o1,o2,CJ,aJy]) λw5 hBi x5=>?_;have hBi:bD w5 w4.heap.size [.string nm,fv,bT,bT,xv] 46:=hBi;have s1:=x1.size;have s2:=x2.size;have s3:=x3.size;have s4:=x4.size;have s5:=x5.size;have R0:∀ {v:O} {l:List Int} {wa wb:Ω},wb.ownsRow wa.heap.size 3 1 v l.length (l.map i64)->w1.heap.size<=wa.heap.size->wb.heap.size<=w4.heap.size->IL g4 w4.heap.size wb v l:=λho h1 h2=>⟨aR ho (by omega),λk hk=>by have:=(ho.lt k hk).2;omega⟩;have rl5:IL g4 w4.heap.size w5 lv [1,2,3,4]:=(R0 (l:=[1,2,3,4]) hol (by omega) (by omega)).ext ((x3.trans x4).trans x5);have rf5:IL g4 w4.heap.size w5 fv [1,2,3,4]:=(R0 (l:=[1,2,3,4]) hof (by omega) (by omega)).ext (x4.trans x5);have rx5:IL g4 w4.heap.size w5 xv [1,2]:=(R0 (l:=[1,2]) hox (by omega) (by omega)).ext x5
 clear R0 hol hof hox;have x15:=(((x2.trans x3).trans x4).trans x5);have hB4:=hB4.ext x15;have hgi4:g4≠w4.heap.size:=by omega
 have hiw:w4.heap.size < w5.heap.size:=hBi.lt;have hiw0:w.heap.size<=w4.heap.size:=by omega
 have x05:=x1.trans x15;have hr0:=hr;have hr:=hr.ext x05;generalize w4.heap.size=gi at *;have R1:∀ {v:O} {l:List Int} {wa wb:Ω},wb.ownsRow wa.heap.size 3 1 v l.length (l.map i64)->w5.heap.size<=wa.heap.size->IL g4 gi wb v l:=λho h1=>⟨aR ho (by omega),λk hk=>by have:=(ho.lt k hk).1;omega⟩;refine bW.2 (NI λn1 hn1=>?_);refine mF bU [i64 1,i64 2] rfl rfl (by simp) rfl λq1 w6 hq1 x6=>?_;have s6:=x6.size;have rq1:IL g4 gi w6 q1 [1,2]:=R1 (l:=[1,2]) hq1 (by omega);have oq1:=eZ hq1;refine bld aBo [(0,.string n1),(1,i64 0),(2,q1),(3,i64 2)] rfl (by simp [oq1,QW,CJ]) ?_;refine bW.2 (lnR rO (hr.ext x6) ?_);refine eV (by decide) (by decide) λ_ _ _=>bW.2 (NI λn2 hn2=>?_);refine mF bU [i64 4,i64 3] rfl rfl (by simp) rfl λq2 w7 hq2 x7=>?_;have s7:=x7.size;have rq2:IL g4 gi w7 q2 [4,3]:=R1 (l:=[4,3]) hq2 (by omega);have oq2:=eZ hq2;refine bld aBo [(0,.string n2),(1,i64 1),(2,q2),(3,i64 3)] rfl (by simp [oq2,QW,CJ]) ?_;refine EP underlying43 pK rfl (by decide) [.agg #[.string n1,i64 0,q1,i64 2],.agg #[.string n2,i64 1,q2,i64 3]] rfl rfl (by intro v hv;simp only [List.mem_cons,List.not_mem_nil,or_false] at hv;rcases hv with rfl|rfl<;>rfl) (by decide) (by decide) λiv w8 hoi x8=>?_;have s8:=x8.size;have hoi:w8.ownsRow w7.heap.size 180 4 iv 2 [.string n1,i64 0,q1,i64 2,.string n2,i64 1,q2,i64 3]:=hoi
 have x58:=(x6.trans x7).trans x8;refine BG dC RH (hBi.ext x58) (n:=5) rfl (by decide) (eZ hoi) ?_;have hB9:bD (w8.setCell ⟨gi,2,none⟩ iv) gi [.string nm,fv,iv,bT,xv] 46:=(hBi.ext x58).set 2 iv;have f9:Fr (λk=>k=gi\/k<=g4\/w8.heap.size<=k) w8 (w8.setCell ⟨gi,2,none⟩ iv):=Fr.of_set (.inl rfl);have rl9:=(rl5.ext x58).fr f9 (Nat.le_refl _);have rf9:=(rf5.ext x58).fr f9 (Nat.le_refl _);have rx9:=(rx5.ext x58).fr f9 (Nat.le_refl _);have rq19:=(rq1.ext (x7.trans x8)).fr f9 (Nat.le_refl _);have rq29:=(rq2.ext x8).fr f9 (Nat.le_refl _);have hoi9:=f9.own hoi λk hk hS=>by have:=hoi.lt k hk;omega
 have hB49:bD (w8.setCell ⟨gi,2,none⟩ iv) g4 _ _:=(hB4.ext x58).other hgi4;have f59:aG w (w8.setCell ⟨gi,2,none⟩ iv):=(x05.trans x58).setCell hiw0 iv;have xr9:∀ {w'},Fr (λk=>k=gi\/k=g4\/w8.heap.size<=k) (w8.setCell ⟨gi,2,none⟩ iv) w'->aG w w':=λf=>f.ext f59 λk hk=>by omega
 have sz9:(w8.setCell ⟨gi,2,none⟩ iv).heap.size=w8.heap.size:=by simp
 generalize w8.setCell ⟨gi,2,none⟩ iv=w9 at *;have hoi0:=hoi;clear rl5 rf5 rx5 rq1 rq2 hoi hB4 hBi hq1 hq2 f9;have ol:=eZ rl9.own;refine bld RY [(2,lv)] rfl (by simp [ol]) ?_;refine mF bU [i64 1,i64 2] rfl rfl (by simp) rfl λp1 w10 hp1 x10=>?_;have s10:=x10.size;have rp1:IL g4 gi w10 p1 [1,2]:=R1 (l:=[1,2]) hp1 (by omega);have op1:=eZ hp1;refine bld RY [(0,p1),(1,i64 2),(2,lv)] rfl (by simp [ol,op1,QW]) ?_;refine mF bU [i64 4,i64 3] rfl rfl (by simp) rfl λp2 w11 hp2 x11=>?_;have s11:=x11.size;have rp2:IL g4 gi w11 p2 [4,3]:=R1 (l:=[4,3]) hp2 (by omega);have op2:=eZ hp2;obtain ⟨lv3,urun,usl⟩:=vV underlying42 fK rl9.ints (lo:=none) (hi':=some (.int .i64 ((2:Nat):Int))) (a:=0) (b:=2) (.inl ⟨rfl,rfl⟩) (.inr rfl) (by decide) (by decide);refine V.ok (urun _) ?_;have ol3:cB lv3=true:=by obtain ⟨a,c,rfl⟩:=(usl _ rl9.ints).shape;rfl
 refine bld RY [(0,p2),(1,i64 3),(2,lv3)] rfl (by simp [ol3,op2,QW]) ?_;refine EP underlying44 pJ rfl (by decide) [.agg #[bT,i64 0,lv,bT],.agg #[p1,i64 2,lv,bT],.agg #[p2,i64 3,lv3,bT]] rfl rfl (by intro v hv;simp only [List.mem_cons,List.not_mem_nil,or_false] at hv;rcases hv with rfl|rfl|rfl<;>rfl) (by decide) (by decide) λmv w12 hom x12=>?_;have s12:=x12.size;have hom:w12.ownsRow w11.heap.size 74 4 mv 3 (apC lv p1 p2 lv3 λ_=>bT):=hom
 obtain ⟨gm,cap,rfl⟩:∃ gm cap,mv=.slice (some ⟨gm,0,none⟩) 3 cap:=by
  rcases hom.2 with ⟨_,e⟩|⟨gm,cap,cur,rfl,_⟩
  ·cases e
  ·exact ⟨gm,cap,rfl⟩
 have hgm:=hom.lt gm rfl;have x9b:=x10.trans x11;have x9c:=x9b.trans x12;refine BG bN RG (hB9.ext x9c) (n:=5) rfl (by decide) rfl ?_;have hBC:bD (w12.setCell ⟨gi,3,none⟩ (.slice (some ⟨gm,0,none⟩) 3 cap)) gi [.string nm,fv,iv,.slice (some ⟨gm,0,none⟩) 3 cap,xv] 46:=(hB9.ext x9c).set 3 _;have fC:Fr (λk=>k=gi\/k=g4\/w11.heap.size<=k) w11 (w12.setCell ⟨gi,3,none⟩ (.slice (some ⟨gm,0,none⟩) 3 cap)):=(Fr.of_ext x12).set (.inl rfl);have homC:(w12.setCell ⟨gi,3,none⟩ (.slice (some ⟨gm,0,none⟩) 3 cap)).ownsRow w11.heap.size 74 4 (.slice (some ⟨gm,0,none⟩) 3 cap) 3 (apC lv p1 p2 lv3 λ_=>bT):=(Fr.of_set (S:=λk=>k=gi) rfl).own hom λk hk hS=>by have:=hom.lt k hk;omega
 have hB4C:bD (w12.setCell ⟨gi,3,none⟩ (.slice (some ⟨gm,0,none⟩) 3 cap)) g4 _ _:=(hB49.ext x9c).other hgi4;have szC:(w12.setCell ⟨gi,3,none⟩ (.slice (some ⟨gm,0,none⟩) 3 cap)).heap.size=w12.heap.size:=by simp
 generalize w12.setCell ⟨gi,3,none⟩ (.slice (some ⟨gm,0,none⟩) 3 cap)=wC at *;have hb11:aG w w11:=(aG.refl w).trans (f59.trans x9b);have hr0:∀ {w'},aG w w'->eW w' rv rl:=λhx=>(hr0:eW w rv rl).ext hx
 have hall:∀ {w'},Fr (λk=>k=gi\/k<=g4\/w11.heap.size<=k) w11 w'->aU w' fv [1,2,3,4]/\aU w' xv [1,2]/\aU w' lv [1,2,3,4]/\aU w' p1 [1,2]/\aU w' p2 [4,3]/\aU w' lv3 [1,2]/\oW w' iv (AX n1 n2):=by
  intro w' f;have hN:=Nat.le_refl w11.heap.size;have hl:=((rl9.ext x9b).fr f hN).ints;refine ⟨((rf9.ext x9b).fr f hN).ints,((rx9.ext x9b).fr f hN).ints,hl,((rp1.ext x11).fr f hN).ints,(rp2.fr f hN).ints,usl w' hl,aOr (aB.of_own (f.own (x9b.own hoi9) λk hk hS=>?_)) ((rq19.ext x9b).fr f hN).ints ((rq29.ext x9b).fr f hN).ints⟩;have:=(x9b.own hoi9).lt k hk;omega
 have hallX:∀ {w'},Fr (λk=>k=gi\/k=g4\/w11.heap.size<=k) w11 w'->aG w w':=λf=>f.ext hb11 λk hS=>by omega
 have hS:∀ {w'},Fr (λk=>k=gi\/k=g4\/w11.heap.size<=k) w11 w'->Fr (λk=>k=gi\/k<=g4\/w11.heap.size<=k) w11 w':=λf=>f.mono λk hk=>by omega
 clear rl9 rf9 rx9 rq19 rq29 hoi9 rp1 rp2 hB9 hB49 hom usl urun hp1 hp2;refine lnR rO (hr0 (hallX fC)) ?_;have hgmC:gm < wC.heap.size:=by omega
 refine ⟨λv w'=>∃ (j:Nat) (c:Nat->O) (code:Nat->List gP),v=i64 j/\j<=3/\Fr (λk=>k=gi\/k=g4\/w11.heap.size<=k) w11 w'/\wC.heap.size<=w'.heap.size/\bD w' gi [.string nm,fv,iv,.slice (some ⟨gm,0,none⟩) 3 cap,xv] 46/\bD w' g4 [.string ByteArray.empty,bT,bT,bT,bT] 46/\w'.ownsRow w11.heap.size 74 4 (.slice (some ⟨gm,0,none⟩) 3 cap) 3 (apC lv p1 p2 lv3 c)/\(∀ k,w'.ownsRow (gm+1) 70 3 (c k) (code k).length (jK (code k))/\(∀ x∈code k,x.rg)/\(code k).length<=700000)/\(rl.length=0->∀ k,k < j->code k=bc k),
  λv _=>3 - (RowKit.intOf v).toNat,⟨0,λ_=>bT,λ_=>[],rfl,Nat.zero_le _,fC,Nat.le_refl _,hBC,hB4C,homC,λk=>⟨World.ownsRow_nil _ _ _ _,λ_ h=>(by simp at h),Nat.zero_le _⟩,λ_ k hk=>absurd hk (Nat.not_lt_zero k)⟩,?_⟩
 clear hBC hB4C homC fC;rintro _ wD ⟨j,c,code,rfl,hj,f,hsz,hBi,hB4,hom,hcs,hbc⟩ _;obtain ⟨rf,rx,rl',rp1,rp2,rl3,rim⟩:=hall (hS f);have xw:=hallX f;have hms:oV wD (.slice (some ⟨gm,0,none⟩) 3 cap) (oS code):=aBt (aB.of_own hom) rl' rp1 rp2 rl3 λk _=>aB.of_own (hcs k).1;refine aV.2 (aK (λhlt=>?_) λhge=>?_)
 ·have hrD:=hr0 xw;have e1:∀ m:Nat,m<=3->V prog (binOp .mul 3 (i64 m) (i64 rl.length)) wD=V prog (binOp .mul 3 (i64 m) (i64 rl.length)) wD:=λ_ _=>rfl
  have e2:∀ m:Nat,m<=3->IntKind.i64.wrap ((m:Int)*(rl.length:Int))=((m*rl.length:Nat):Int):=λm hm=>by
   have:m*rl.length<=3*rl.length:=Nat.mul_le_mul_right _ hm;rw [<- Int.natCast_mul];exact aX (by omega)
  have e3:∀ (m d:Nat),m<=15000000000000->IntKind.i64.wrap (((m:Nat):Int).tdiv ((d:Nat):Int))=((m / d:Nat):Int):=λm d hm=>by
   have h1:((m:Nat):Int).tdiv ((d:Nat):Int)=((m / d:Nat):Int):=by
    rw [Int.tdiv_eq_ediv_of_nonneg (by omega)];rfl
   have h2:m / d<=m:=Nat.div_le_self _ _;rw [h1];clear h1;generalize m / d=q at *;exact aX (by omega)
  have e4:∀ a b:Nat,min ((a:Nat):Int) ((b:Nat):Int)=((min a b:Nat):Int):=λa b=>by omega
  have hj3:j*rl.length<=3*rl.length:=Nat.mul_le_mul_right _ hj;have hj4:(j+1)*rl.length<=3*rl.length:=Nat.mul_le_mul_right _ (by omega);refine aKm.2 ?_;rw [e2 j hj];refine (aBv (by decide)).2 ?_;rw [show (3:Int)=((3:Nat):Int) from rfl,e3 _ 3 (by omega)];refine V.ok QK (bW.2 ?_);rw [e4,jD (n:=(j:Int)+1) (by omega) (by omega),dF];refine aKm.2 ?_;rw [e2 (j+1) (by omega)];refine (aBv (by decide)).2 ?_;rw [e3 _ 3 (by omega)];refine V.ok QK ?_;rw [e4];have hd1:j*rl.length / 3<=(j+1)*rl.length / 3:=Nat.div_le_div_right (Nat.mul_le_mul_right _ (by omega));obtain ⟨v1,r1,hs1⟩:=eW.part underlying99 zC hrD (lo:=some (.int .i64 ((min rl.length (j*rl.length / 3):Nat):Int))) (hi':=some (.int .i64 ((min rl.length ((j+1)*rl.length / 3):Nat):Int))) (.inr rfl) (.inr rfl) (by omega) (by omega);refine V.ok (r1 _) ?_;refine ⟨λv w'=>∃ l,eW wD v l/\l.length<=5000000000000/\(rl.length=0->l.length=0)/\w'=wD,aF.2 (aK (λhz=>?_) λhz=>⟨_,hs1,(by simp;omega),(by intro h;simp [h]),rfl⟩),?_⟩
  ·refine (aBv (by decide)).2 ?_;rw [show (2:Int)=((2:Nat):Int) from rfl,e3 _ 2 (by omega)];refine V.ok QK ?_;rw [e4];obtain ⟨v2,r2,hs2⟩:=eW.part underlying99 zC hrD (lo:=none) (hi':=some (.int .i64 ((min rl.length (rl.length / 2):Nat):Int))) (a:=0) (.inl ⟨rfl,rfl⟩) (.inr rfl) (by omega) (by omega);exact V.ok (r2 _) ⟨_,hs2,(by simp;omega),(by intro h;simp [h]),rfl⟩
  rintro v3 wD' ⟨l,hl,hll,hlz,hwD⟩ _;have hwD:=hwD.symm;subst hwD;have D1:aG wD wD.drew:=(aG.refl _).drew;have hBid:=hBi.ext D1;obtain ⟨m,hm⟩:=bH (l:=oS code) (j:=j) (by simp [oS];omega);refine aH.mk' (λw'=>aG wD.drew w') (aG.refl _) ?_;refine dT (λw' hx=>bD.boxed (hBid.ext hx)) bN gR rfl ?_;refine dT (λw' hx=>bD.boxed (hBid.ext hx)) bN gR rfl ?_;refine ySS iJ oK (hms.ext D1) (λ_ h=>h) hm tD λrow hrow=>?_;refine dT (λw' hx=>bD.boxed (hBid.ext hx)) bN gR rfl ?_;refine dT (λw' hx=>bD.boxed (hBid.ext hx)) dC lA rfl ?_;have xwd:=xw.trans D1;have hmp:=WU hm;refine aTm (hl.ext D1) hrow (hms.ext D1) (rim.ext D1) (λq hq=>?_) hll (by omega) (by omega) ⟨by simp [oS],by simp [oS]⟩ (by simp [oS]) (by simp [AX]) (by simp [AX]) (aEz hm) (by intro x hx;unfold bc at hx;split at hx<;>simp only [List.mem_cons,List.not_mem_nil,or_false] at hx<;>(try rcases hx with rfl|rfl)<;>(try subst hx)<;>exact ⟨by decide,by decide⟩) (by unfold bc;split<;>decide) (by omega) (by omega) λv4 code4 wE ho4 hrg4 hlen4 hz4 xE=>⟨xE,?_⟩
  ·obtain ⟨z,hz⟩:=hb q hq;exact ⟨z,xwd.cell hz⟩
  have x3E:=D1.trans xE;refine aD.ok (λw' _=>gE underlying44 pJ (by omega) (by omega)) ?_;refine aD.ok (λw' _=>FA.ex iH w' _ _) ?_;rw [Int.toNat_natCast];refine YB underlying44 pJ iH wS (x3E.own hom) (by omega) (by decide) (eZ ho4) λwF hwF hoF fF=>bW.2 ?_;rw [aX (by omega),dF];have sE:=x3E.size;have sD:=D1.size;have sF:=fF.size;rw [aFf (by omega)] at hoF;refine ⟨⟨j+1,λk=>if k=j then v4 else c k,λk=>if k=j then code4 else code k,rfl,by omega,(f.trans (Fr.of_ext x3E) λ_ _ h=>h).trans fF λk _ hk=>by omega,by omega,fF.blk (hBi.ext x3E) (by omega),fF.blk (hB4.ext x3E) (by omega),hoF,λk=>?_,λhn k hk=>?_⟩,by simp only [aT];omega⟩
  rotate_left
  ·by_cases hkj:k=j
   ·simp only [hkj,if_true];exact hz4 (hlz hn)
   ·simp only [hkj,if_false];exact hbc hn k (by omega)
  by_cases hkj:k=j
  ·simp only [hkj,if_true];exact ⟨aR (fF.own ho4 λq hq hS=>by have:=(ho4.lt q hq).1;omega) (by omega),hrg4,hlen4⟩
  ·simp only [hkj,if_false];obtain ⟨c1,c2,c3⟩:=hcs k;exact ⟨fF.own (x3E.own c1) λq hq hS=>by have:=(c1.lt q hq).1;omega,c2,c3⟩
 ·refine qO (bD.boxed hBi) kQ rfl ?_;refine GF jT hB4 (l:=[.string nm,fv,iv,.slice (some ⟨gm,0,none⟩) 3 cap,xv]) rfl rfl rfl (by simp [o1,o2,eZ hoi0,CJ,aJy]) λwE hBE hc=>?_;refine ⟨_,vB underlying46 rfl jT hBE rfl,⟨_,rfl⟩,?_⟩;have fE:Fr (λk=>k=gi\/k=g4\/w11.heap.size<=k) w11 wE:=f.trans ((rB hc).mono λk hk=>.inr (.inl hk)) λ_ _ h=>h;have xw:=hallX fE;have hg4m:g4 < gm:=by omega
  have homE:=(rB hc).own hom λk hk hS=>by have:=(hom.lt k hk).1;omega
  have hcsE:∀ k,wE.ownsRow (gm+1) 70 3 (c k) (code k).length (jK (code k)):=λk=>(rB hc).own (hcs k).1 λq hq hS=>by have:=((hcs k).1.lt q hq).1;omega
  have stay:∀ w'',Fr (λk=>k < g4) wE w''->oT w''->iG w'' ⟨fv,iv,.slice (some ⟨gm,0,none⟩) 3 cap,xv⟩ ⟨nm,[1,2,3,4],AX n1 n2,oS code,[1,2]⟩/\mO w'' ⟨nm,[1,2,3,4],AX n1 n2,oS code,[1,2]⟩:=by
   intro w'' f'' hT'';have f3:Fr (λk=>k=gi\/k<=g4\/w11.heap.size<=k) w11 w'':=(hS fE).trans f'' λk _ hk=>by omega
   obtain ⟨rf,rx,rl',rp1,rp2,rl3,rim⟩:=hall f3;refine ⟨⟨rf,rim,aBt (aB.of_own (f''.own homE λk hk hS=>by have:=(homE.lt k hk).1;omega)) rl' rp1 rp2 rl3 λk _=>aB.of_own (f''.own (hcsE k) λq hq hS=>by have:=((hcsE k).lt q hq).1;omega),rx⟩,NH hnm hT'',λx hx=>?_⟩;simp only [AX,List.mem_cons,List.not_mem_nil,or_false] at hx;rcases hx with rfl|rfl
   ·exact NH hn1 hT''
   ·exact NH hn2 hT''
  have stayM:∃ cs:List O,∀ w'',Fr (λk=>k < g4) wE w''->aB w'' (.slice (some ⟨gm,0,none⟩) 3 cap) 4 3 cs/\∀ (k:Nat) (x:gU),(oS code)[k]?=some x->jO w'' ((cs.drop (k*4)).take 4) x:=by
   refine ⟨apC lv p1 p2 lv3 c,λw'' f''=>?_⟩;have f3:Fr (λk=>k=gi\/k<=g4\/w11.heap.size<=k) w11 w'':=(hS fE).trans f'' λk _ hk=>by omega
   obtain ⟨rf,rx,rl',rp1,rp2,rl3,rim⟩:=hall f3;exact aFd (w:=w'') (aB.of_own (f''.own homE λk hk hS=>by have:=(homE.lt k hk).1;omega)) rl' rp1 rp2 rl3 λk _=>aB.of_own (f''.own (hcsE k) λq hq hS=>by have:=((hcsE k).lt q hq).1;omega)
  have hTE:=hT.ext xw;obtain ⟨hat,hnmE⟩:=stay wE (Fr.refl _ _) hTE;refine hk ⟨fv,iv,.slice (some ⟨gm,0,none⟩) 3 cap,xv⟩ ⟨nm,[1,2,3,4],AX n1 n2,oS code,[1,2]⟩ wE hat hnmE (λm hm x hx=>?_) rfl (λm hm=>?_) (by rw [hgg4];exact stay) (by rw [hgg4];exact stayM) xw λhn=>⟨nm,n1,n2,by unfold RZ;rw [aFe λk hk=>hbc hn k (by omega)]⟩
  ·simp only [oS,List.mem_cons,List.not_mem_nil,or_false] at hm;rcases hm with rfl|rfl|rfl
   ·exact (hcs 0).2.1 x hx
   ·exact (hcs 1).2.1 x hx
   ·exact (hcs 2).2.1 x hx
  ·simp only [oS,List.mem_cons,List.not_mem_nil,or_false] at hm;rcases hm with rfl|rfl|rfl
   ·exact (hcs 0).2.2
   ·exact (hcs 1).2.2
   ·exact (hcs 2).2.2
end Go.Proofs.YtgkkecladbmjkaaGreatDoor
namespace Go.Vc
section
variable {P:Program} {w:Ω} {K:O->Ω->Prop}
end
end Go.Vc
namespace Go.Proofs.YtgkkecladbmjkaaGreatDoor
open Tryz
open Go.Vc Go.Tc
variable {w:Ω} {K:O->Ω->Prop}
theorem xD {cs row:List O} {sz k q o:Nat} {v:O} (h:(cs.drop (k*sz)).take sz=row) (hrow:row.length=sz) (ho:o < sz):((cs.set (q*sz+o) v).drop (k*sz)).take sz=if k=q then row.set o v else row:=by
 apply List.ext_getElem?;intro j
 have hj:∀ l:List O,((l.drop (k*sz)).take sz)[j]?=if j < sz then l[k*sz+j]? else none:=λl=>by
  rw [List.getElem?_take,List.getElem?_drop]
 have hr:row[j]?=if j < sz then cs[k*sz+j]? else none:=by rw [<- h,hj]
 rw [hj];by_cases hjs:j < sz
 ·rw [if_pos hjs];by_cases hkq:k=q
  ·subst hkq;rw [if_pos rfl,List.getElem?_set,List.getElem?_set];rw [if_pos hjs] at hr;by_cases hoj:o=j
   ·subst hoj;rw [if_pos rfl,if_pos rfl];have h1:o < row.length:=by omega
    have h2:k*sz+o < cs.length:=by
     have:row[o]?≠none:=by rw [List.getElem?_eq_getElem h1];simp
     rw [hr] at this;exact Nat.lt_of_not_le λhle=>this (List.getElem?_eq_none hle)
    rw [if_pos h1,if_pos h2]
   ·rw [if_neg hoj,if_neg (by omega),hr]
  ·rw [if_neg hkq,List.getElem?_set,if_neg ?_]
   ·rw [hr,if_pos hjs]
   ·intro he;rcases Nat.lt_or_gt_of_ne hkq with hlt|hgt
    ·have:=Nat.mul_le_mul_right sz (show k+1<=q by omega);rw [Nat.add_mul,Nat.one_mul] at this;omega
    ·have:=Nat.mul_le_mul_right sz (show q+1<=k by omega);rw [Nat.add_mul,Nat.one_mul] at this;omega
 ·rw [if_neg hjs];split
  ·rw [List.getElem?_eq_none (by rw [List.length_set];omega)]
  ·rw [List.getElem?_eq_none (by omega)]
end Go.Proofs.YtgkkecladbmjkaaGreatDoor
namespace Go.Tc
def bF.withCode (i:bF) (q:Nat) (code:List gP):bF:={ i with methods:=i.methods.set q { i.meth q with code:=code } }
end Go.Tc
namespace Go.Proofs.YtgkkecladbmjkaaGreatDoor
open Tryz
open Go.Vc Go.Tc
variable {w:Ω} {K:O->Ω->Prop}
variable {B B':Nat} {w':Ω} {i:bF}
structure Apl (w:Ω) (p:bP) (i:bF):Prop where
 at_:iG w p i
 nm:mO w i
 rg:i.rg
 ml:i.methods.length=3
 cl:∀ m∈i.methods,m.code.length<=2000000
theorem Apl.ext {w':Ω} {p:bP} {i:bF} (h:Apl w p i) (hx:aG w w'):Apl w' p i:=⟨h.at_.ext hx,h.nm.ext hx,h.rg,h.ml,h.cl⟩
theorem aAk (l:List gP):(jK l).all cB=true:=List.all_eq_true.2 λv hv=>by
 simp only [jK,List.mem_flatMap,List.mem_cons,List.not_mem_nil,or_false] at hv;obtain ⟨x,_,rfl|rfl|rfl⟩:=hv<;>rfl
def BJ (N0:Nat) (w0:Ω) (v:O) (w':Ω):Prop:=∃ code':List gP,w'.ownsRow N0 70 3 v code'.length (jK code')/\(∀ x∈code',x.rg)/\code'.length<=2000000/\Fr (λk=>N0<=k) w0 w'
structure aTt (S:Nat->Prop) (w:Ω) (p:bP) (i:bF):Prop where
 ap:∀ w'',Fr S w w''->oT w''->Apl w'' p i
 mt:∃ cs:List O,∀ w'',Fr S w w''->aB w'' p.mv 4 i.methods.length cs/\∀ (k:Nat) (x:gU),i.methods[k]?=some x->jO w'' ((cs.drop (k*4)).take 4) x
abbrev uN (B:Nat) (w:Ω) (p:bP) (i:bF):Prop:=aTt (λk=>k < B) w p i
theorem uN.by_ {p:bP} (h:uN B w p i) (hf:∀ w'',Fr (λk=>k < B') w' w''->Fr (λk=>k < B) w w''):uN B' w' p i:=by
 obtain ⟨h1,cs,h2⟩:=h;exact ⟨λw'' f hT=>h1 w'' (hf w'' f) hT,cs,λw'' f=>h2 w'' (hf w'' f)⟩
theorem uN.ext {p:bP} (h:uN B w p i) (hx:aG w w'):uN B w' p i:=h.by_ λ_ f=>(Fr.of_ext hx).trans f λ_ _ h=>h
theorem uN.now {p:bP} (h:uN B w p i) (hT:oT w):Apl w p i:=h.ap w (Fr.refl _ _) hT
theorem uN.chg {g:Nat} {p:bP} (h:uN B w p i) (f:Fr (λk=>k=g) w w') (hg:g < B) (hB:B'<=B):uN B' w' p i:=h.by_ λw'' f'=>((f.mono (T:=λk=>k < B) λk hk=>by omega)).trans f' λk _ hk=>by omega
def bP.cells (p:bP) (i:bF):List O:=[.string i.name,p.fv,p.iv,p.mv,p.xv]
theorem Apl.one {p:bP} (h:Apl w p i):(p.cells i).all cB=true:=by
 obtain ⟨a1,c1,e1⟩:=aB.shape h.at_.fl;obtain ⟨_,hx1,_⟩:=h.at_.im;obtain ⟨a2,c2,e2⟩:=aB.shape hx1;obtain ⟨_,hx3,_⟩:=h.at_.mt;obtain ⟨a3,c3,e3⟩:=aB.shape hx3;obtain ⟨a4,c4,e4⟩:=aB.shape h.at_.ex;unfold bP.cells;rw [e1,e2,e3,e4];rfl
theorem aTp {n:Int} {rv:O} {rl:List Rw} (hr:eW w rv rl) (hb:mP w) (hT:oT w) (rn:rl.length<=5000000000000)
  (hk:∀ p i w',uN w.heap.size w' p i->(∀ m∈i.methods,m.code.length<=700000)->aG w w'->K (p.val i) w'):aC prog 38 #[i64 n,rv] w K:=
 SB hr hb hT rn λp i w' _ _ h3 h4 h5 h7 h8 h6 _=>hk p i w' ⟨λw'' f hT''=>⟨(h7 w'' f hT'').1,(h7 w'' f hT'').2,h3,h4,λm hm=>Nat.le_trans (h5 m hm) (by decide)⟩,h8⟩ h5 h6
def HW (l:List (bP × bF)):List O:=l.flatMap λx=>x.1.cells x.2
def aCr (w:Ω) (row:List O) (x:bP × bF):Prop:=row=x.1.cells x.2/\Apl w x.1 x.2/\vN x.2
def nS (w:Ω) (v:O) (l:List (bP × bF)):Prop:=dS aCr 5 w v l
theorem nS.ext {w':Ω} {v:O} {l:List (bP × bF)} (h:nS w v l) (hx:aG w w'):nS w' v l:=dS.ext (λh k=>⟨h.1,h.2.1.ext k,h.2.2⟩) h hx
theorem HV:∀ {l:List (bP × bF)} {k:Nat} {x:bP × bF},l[k]?=some x->((HW l).drop (k*5)).take 5=x.1.cells x.2
 | [],_,_,h=>by simp at h
 | y::l,0,x,h=>by simp at h;subst h;simp [HW,bP.cells]
 | y::l,k+1,x,h=>by
  have:=HV (l:=l) (k:=k) (by simpa using h);simp only [HW,List.flatMap_cons] at this ⊢;rw [show (k+1)*5=5+k*5 by omega,<- List.drop_drop,List.drop_left' (by rfl)];exact this
theorem aBs (w:Ω) (row:List O) (x:bP × bF) (h:aCr w row x):row.length=5:=by rw [h.1];rfl
def tI (w:Ω) (v:O) (ll:List (List Rw)):Prop:=∃ vs:List O,aB w v 1 ll.length vs/\∀ (k:Nat) (l:List Rw),ll[k]?=some l->∃ u,vs[k]?=some u/\eW w u l/\l.length<=5000000000000
theorem tI.ext {w':Ω} {v:O} {ll:List (List Rw)} (h:tI w v ll) (hx:aG w w'):tI w' v ll:=by
 obtain ⟨vs,h1,h2⟩:=h;refine ⟨vs,h1.ext hx,λk l hk=>?_⟩;obtain ⟨u,h3,h4,h5⟩:=h2 k l hk;exact ⟨u,h3,h4.ext hx,h5⟩
end Go.Proofs.YtgkkecladbmjkaaGreatDoor
namespace Go.Vc
variable {w w':Ω} {o:Nat} {cs:List O} {P:Program} {K:O->Ω->Prop}
theorem NV (w:Ω) (g j:Nat) (c:Array O) (e:TypeId) (fz:Nat × Nat) (u:O) (h:w.heap[g]?=some (.cells c e fz)) :
  (w.setCell ⟨g,j,none⟩ u).heap[g]?=some (.cells (c.setIfInBounds j u) e fz):=by
 simp only [World.setCell,Array.getElem?_modify];rw [if_pos trivial,h];rfl
def kV (w:Ω) (b o:Nat) (cs:List O):Prop:=∃ c e fz,w.heap[b]?=some (.cells c e fz)/\o+cs.length<=c.size/\(fz.1=fz.2\/o+cs.length<=fz.1)/\∀ (j:Nat) v,cs[j]?=some v->c[o+j]?=some v
theorem kV.cell {w:Ω} {b o:Nat} {cs:List O} (h:kV w b o cs) {j:Nat} {v:O} (hj:cs[j]?=some v):w.cell? ⟨b,o+j,none⟩=some v:=by
 obtain ⟨c,e,fz,h1,_,_,h4⟩:=h;simp [World.cell?,h1,h4 j v hj]
theorem kV.lt {b:Nat} (h:kV w b o cs):b < w.heap.size:=by
 obtain ⟨c,e,fz,h1,_⟩:=h;exact (Array.getElem?_eq_some_iff.1 h1).1
theorem kV.of {b:Nat} (h:kV w b o cs) (hw:w'.heap[b]?=w.heap[b]?):kV w' b o cs:=by
 obtain ⟨c,e,fz,h1,h2⟩:=h;exact ⟨c,e,fz,hw.trans h1,h2⟩
theorem kV.ext {b:Nat} (h:kV w b o cs) (hx:aG w w'):kV w' b o cs:=h.of (hx.block b h.lt (by simp))
theorem kV.frozen {w:Ω} {b o:Nat} {cs:List O} (h:kV w b o cs) {j:Nat} (hj:j < cs.length):w.frozen? ⟨b,o+j,none⟩=false:=by
 obtain ⟨c,e,fz,h1,_,h4,_⟩:=h;have:¬ (fz.1<=o+j/\o+j < fz.2):=by omega
 simp only [World.frozen?,h1];simpa using this
theorem kV.set {w:Ω} {b o:Nat} {cs:List O} (h:kV w b o cs) {j:Nat} (hj:j < cs.length) (v:O):kV (w.setCell ⟨b,o+j,none⟩ v) b o (cs.set j v):=by
 obtain ⟨c,e,fz,h1,h2,h3,h4⟩:=h;refine ⟨_,e,fz,NV w b (o+j) c e fz v h1,by simpa using h2,by simpa using h3,λi u hi=>?_⟩;rw [List.getElem?_set] at hi;by_cases hij:j=i
 ·subst hij;rw [if_pos rfl,if_pos hj] at hi;cases hi;have:o+j < c.size:=by omega
  simp [this]
 ·rw [if_neg hij] at hi;rw [Array.getElem?_setIfInBounds_ne (by omega)];exact h4 i u hi
theorem aEf {t x:Nat} (h:XA P t 1) (hl:L1 P x) {b n cap:Nat} (hs:kV w b o cs) {k:IntKind} {i:Int} {u:O} (h0:0<=i) (h1:i < n) (hu:cs[i.toNat]?=some u) (hk:K u w) :
  V P (Instr.indexAt t (.slice (some ⟨b,o,none⟩) n cap) (.int k i)) w λp w1=>V P (Instr.loadAt x p) w1 K:=by
 obtain ⟨e',z',b',ht,hi⟩:=h;obtain ⟨d,hd,ha⟩:=hl;refine V.ok (gE ht hi h0 h1) ?_;simp only [Nat.mul_one];exact V.ok (jX hd ha (hs.cell hu)) hk
theorem gC {s f j ft:Nat} (hf:FA P s f j) (hl:L1 P ft) {b:Nat} (hs:kV w b o cs) {u:O} (hu:cs[j]?=some u) (hk:K u w) :
  V P (Instr.fieldAt s (.pointer (some ⟨b,o,none⟩)) f) w λq w1=>V P (Instr.loadAt ft q) w1 K:=by
 obtain ⟨d,hd,ha⟩:=hl;exact V.ok (hf.ex w b o) (V.ok (jX hd ha (hs.cell hu)) hk)
end Go.Vc
namespace Go.Proofs.YtgkkecladbmjkaaGreatDoor
open Tryz
open Go.Vc
def iZ (w:Ω) (sv:O) (l:List Int):Prop:=(sv=.slice none 0 0/\l=[])\/∃ ad c,sv=.slice (some ad) l.length c/\(0 < l.length->cU w sv l)
theorem iZ.ext {w w':Ω} {sv:O} {l:List Int} (h:iZ w sv l) (hx:aG w w'):iZ w' sv l:=by
 rcases h with h|⟨ad,c,h1,h2⟩
 ·exact .inl h
 ·exact .inr ⟨ad,c,h1,λh0=>(h2 h0).ext hx⟩
theorem aNj {v:O} {l:List Int} {k:Nat} {w:Ω} (h:iZ w v l) (hk:k<=1000):aC prog 10 #[v,i64 (k:Int)] w λr w'=>w'.ownsRow w.heap.size 5 1 r (l.take k).length ((l.take k).map u8)/\aG w w':=by
 apply aRh;unfold UH;refine mF mQ [] rfl rfl (by simp) rfl λv1 w1 ho1 x1=>?_
 have hln:V prog (Builtin.len_ #[23] 3 #[v]) w1 λt w'=>t=i64 l.length/\w'=w1:=by
  rcases h with ⟨rfl,rfl⟩|⟨ad,c,rfl,_⟩
  iterate 2
   ·exact pS.2 ⟨rfl,rfl⟩
 refine hln.mono λt w' ⟨ht,hw⟩=>?_;subst ht;have hw:=hw.symm;subst hw;refine mn2 λc hc h1 h2=>?_;obtain ⟨b,rfl⟩:∃ b:Nat,c=b:=⟨c.toNat,by rcases hc with rfl|rfl<;>omega⟩;have hb:b=min l.length k:=by omega
 have main:cU w1 v l->V prog (Instr.sliceAt 23 v none (some (i64 (b:Int))) none) w1 λt11 w4=>V prog (Builtin.append_ #[23,23] 23 #[v1,t11]) w4 λr w'=>w'.ownsRow w.heap.size 5 1 r (l.take k).length ((l.take k).map u8)/\aG w w':=λhB=>by
  obtain ⟨v2,hr,hs2⟩:=vV underlying23 pW hB (lo:=none) (hi':=some (i64 b)) (a:=0) (b:=b) (.inl ⟨rfl,rfl⟩) (.inr rfl) (by omega) (by omega);refine V.ok (hr _) ?_;refine WT mQ ho1 (hs2 _ hB) (by rw [List.all_eq_true];intro x hx;exact List.all_eq_true.1 (pZ l) x (List.mem_of_mem_drop (List.mem_of_mem_take hx))) (by omega) (by unfold maxLen;omega) x1.size λv3 w3 ho3 hg3=>?_;refine ⟨?_,x1.grown hg3 λk hk=>(ho1.lt k hk).1⟩;have:=ho3;have e:(l.take k).length=b:=by simp;omega
  rw [e];simp only [Nat.zero_add,List.nil_append,Nat.sub_zero,List.drop_zero] at this;rw [show (l.take k).map u8=(l.map u8).take b from by rw [List.map_take,hb];simp [Nat.min_comm,List.take_eq_take_iff]];exact this
 rcases h with ⟨rfl,rfl⟩|⟨ad,c,rfl,hB⟩
 ·exact main (aB.nil _ _)
 by_cases h0:0 < l.length
 ·exact main ((hB h0).ext x1)
 ·have hl0:l=[]:=List.eq_nil_of_length_eq_zero (by omega);subst hl0;have hb0:b=0:=by simp at hb;exact hb
  subst hb0;refine V.ok (aVk underlying23 pW (Nat.zero_le _)) ?_;obtain ⟨z,ht,hi,hz⟩:=(by exact mQ:XE prog 23 5 1);obtain ⟨i,hi',hz',hn,hby⟩:=info_parts hi;obtain ⟨ad',he⟩:∃ ad',(if c=0 then some ad else (some ad).map (·.add 0))=some ad':=by split<;>exact ⟨_,rfl⟩
  rw [he];obtain ⟨v3,w3,hr,h2,h3,_⟩:=run_append_own (P:=prog) w1 w.heap.size 23 23 5 i z 1 1 ht hi' hz' hn hby (by simpa using hz) (by omega) v1 0 [] ho1 ad' 0 c [] rfl (λj u hj=>by simp at hj) (λu hu=>by simp at hu) (by unfold maxLen;omega) (by omega) x1.size;refine V.ok hr ⟨?_,x1.grown h3 λk hk=>(ho1.lt k hk).1⟩;simpa using h2
theorem sQ {v:O} {l:List Int} {w:Ω} (h:cU w v l) (hl:l.length<=4294967296):aC prog 58 #[v] w λr w'=>w'.ownsRow w.heap.size 5 1 r l.length (l.map u8)/\aG w w':=by
 apply aCf;unfold FJ;exact EO (R:=λr w'=>w'.ownsRow w.heap.size 5 1 r l.length (l.map u8)/\aG w w') mQ h (pZ l) (by omega) λv' w' h1 h2=>⟨h1,h2⟩
def a1 (d:O):List O:=[i64 (-1),i64 3,i64 0,.bool false,d]
def a2 (d:O):List O:=[i64 (-1),i64 4,i64 0,.bool false,d]
structure aOw (w:Ω) (rb hb ab:Nat) (d1 d2 pub sec:O):Prop where
 room:bD w rb [.pointer (some ⟨hb,0,none⟩),.slice none 0 0,.slice none 0 0,pub,sec] 134
 heap:bD w hb [i64 100,.slice (some ⟨ab,0,none⟩) 2 2] 193
 arr:bD w ab (a1 d1++a2 d2) 127
 lt:ab < hb/\hb < rb
def dk (k:Nat) (d1 d2:O):O:=if k=0 then d1 else d2
def aXu (k:Nat) (d:O):List O:=[i64 (-1),i64 (3+(k:Int)),i64 0,.bool false,d]
theorem bM {w:Ω} {B e s n:Nat} {v:O} {xs:List O} (h:w.ownsRow B e s v n xs):cB v=true:=by
 rcases h.2 with ⟨h1,_⟩|⟨g,cap,cur,h1,_⟩<;>(rw [h1];rfl)
def svc (rb:Nat) (who a b:Int) (av:O):O:=.agg #[.pointer (some ⟨rb,0,none⟩),.pointer none,i64 who,i64 a,i64 b,av]
theorem tE {l:List Int} {a:Nat} (h:a < l.length):(l.map u8)[((a:Nat):Int).toNat]?=some (u8 (l.getD a 0)):=by simp [List.getD,h]
end Go.Proofs.YtgkkecladbmjkaaGreatDoor
namespace Go.Vc
theorem eY {P:Program} {w:Ω} {S:Ω->Prop} {L:O->Prop} {t x:TypeId} {v:O} {n:Nat} {cs:List O} {k:IntKind} {i:Int} {u:O} (h:XA P t 1) (hl:L1 P x) (hs0:aB w v 1 n cs) (hs:∀ w',S w'->aB w' v 1 n cs) (h0:0<=i) (h1:i < n) (hu:cs[i.toNat]?=some u) (hk:L u) :
  aD P S (Instr.indexAt t v (.int k i)) λp=>aD P S (Instr.loadAt x p) L:=by
 obtain ⟨e,z,b',ht,hi⟩:=h;obtain ⟨d,hd,ha⟩:=hl;obtain ⟨b,off,cap,rfl,_⟩:=hs0.there (by omega);refine aD.ok (λw' _=>gE ht hi h0 h1) (aD.ok (λw' hw=>jX hd ha ?_) hk);obtain ⟨b2,off2,cap2,he,hc⟩:=(hs w' hw).there (by omega);cases he;simpa using hc _ _ hu
end Go.Vc
namespace Go.Proofs.YtgkkecladbmjkaaGreatDoor
open Tryz
open Go.Vc
def sW (l S:List Int) (a i:Nat) (cur:List Int):Prop:=cur.length=l.length/\∀ j,cur[j]?=if a<=j/\j < a+i then S[j - a]? else l[j]?
theorem sW.step {l S cur:List Int} {a i:Nat} (h:sW l S a i cur) (hi:i < S.length) (ha:a+i < l.length):sW l S a (i+1) (cur.set (a+i) (S.getD i 0)):=by
 refine ⟨by simp [h.1],λj=>?_⟩;by_cases hj:a+i=j
 ·subst hj;rw [List.getElem?_set_self (by have:=h.1;omega),if_pos (by omega)];simp [List.getD,hi]
 ·rw [List.getElem?_set_ne hj,h.2 j];by_cases h1:a<=j/\j < a+i
  ·rw [if_pos h1,if_pos (by omega)]
  ·rw [if_neg h1,if_neg (by omega)]
theorem sW.done {l S cur:List Int} {a:Nat} (h:sW l S a S.length cur) (ha:a+S.length<=l.length):cur=l.take a++S++l.drop (a+S.length):=by
 apply List.ext_getElem?;intro j;rw [h.2 j];have hta:(l.take a).length=a:=by simp;omega
 by_cases h1:j < a
 ·rw [if_neg (by omega),List.append_assoc,List.getElem?_append_left (by omega),List.getElem?_take,if_pos h1]
 ·by_cases h2:j < a+S.length
  ·rw [if_pos (by omega),List.append_assoc,List.getElem?_append_right (by omega),hta,List.getElem?_append_left (by omega)]
  ·rw [if_neg (by omega),List.getElem?_append_right (by simp;omega),List.getElem?_drop]
   congr 1
   simp;omega
end Go.Proofs.YtgkkecladbmjkaaGreatDoor
namespace Go.Vc
end Go.Vc
namespace Go.Proofs.YtgkkecladbmjkaaGreatDoor
open Tryz
open Go.Vc
structure aXv (w:Ω) (rb hb ab B B1:Nat) (d1 d2 pub sec:O) (p1 p2 t1 t2:List Int):Prop where
 room:aOw w rb hb ab d1 d2 pub sec
 o1:w.ownsRow B 5 1 d1 p1.length (p1.map u8)
 o2:w.ownsRow B 5 1 d2 p2.length (p2.map u8)
 l1:∀ i,d1.ownBlock=some i->i < B1
 l2:∀ i,d2.ownBlock=some i->i < B1
 q1:w.ownsRow B1 5 1 pub t1.length (t1.map u8)
 q2:w.ownsRow B1 5 1 sec t2.length (t2.map u8)
 ne:∀ i,pub.ownBlock=some i->sec.ownBlock≠some i
 lt:rb < B/\B<=B1/\B1<=w.heap.size
 n1:p1.length<=64
 n2:p2.length<=64
 m1:t1.length<=128
 m2:t2.length<=128
def pk (k:Nat) (p1 p2:List Int):List Int:=if k=0 then p1 else p2
structure dB where
 owner:Int
 label:Int
 life:Int
 share:Bool
 dv:O
 data:List Int
def dB.cells (a:dB):List O:=[i64 a.owner,i64 a.label,i64 a.life,.bool a.share,a.dv]
def jW (ar:List dB):List O:=ar.flatMap dB.cells
theorem rV (ar:List dB):(jW ar).length=ar.length*5:=by
 induction ar with
 | nil=>rfl
 | cons a ar ih=>
  show (a.cells++jW ar).length=_;rw [List.length_append,ih];simp [dB.cells];omega
theorem kA:∀ {ar:List dB} {k:Nat} {a:dB} {j:Nat},ar[k]?=some a->j < 5->(jW ar)[k*5+j]?=a.cells[j]?
 | [],k,a,j,h,_=>by simp at h
 | b::ar,0,a,j,h,hj=>by
  simp at h;subst h;show (b.cells++jW ar)[0*5+j]?=_;rw [List.getElem?_append_left (by simp [dB.cells];omega)];simp
 | b::ar,k+1,a,j,h,hj=>by
  show (b.cells++jW ar)[(k+1)*5+j]?=_;rw [List.getElem?_append_right (by simp [dB.cells];omega)];have:(k+1)*5+j - b.cells.length=k*5+j:=by simp [dB.cells];omega
  rw [this];exact kA (by simpa using h) hj
theorem BN (ar:List dB) (a:dB):jW (ar++[a])=jW ar++a.cells:=by simp [jW]
structure gT (w:Ω) (hb B:Nat) (size:Int) (g cap:Nat) (ar:List dB):Prop where
 heap:bD w hb [i64 size,.slice (some ⟨g,0,none⟩) ar.length cap] 193
 row:w.ownsRow B 127 5 (.slice (some ⟨g,0,none⟩) ar.length cap) ar.length (jW ar)
 data:∀ a∈ar,w.ownsRow B 5 1 a.dv a.data.length (a.data.map u8)
 len:∀ a∈ar,a.data.length<=64
 dist:∀ (i j:Nat) a b x,ar[i]?=some a->ar[j]?=some b->a.dv.ownBlock=some x->b.dv.ownBlock=some x->i=j
 drow:∀ a∈ar,a.dv.ownBlock≠some g
 lt:B<=w.heap.size
 cnt:ar.length<=1000
 fresh:hb≠g/\∀ a∈ar,a.dv.ownBlock≠some hb
theorem gT.ext {w w':Ω} {hb B:Nat} {size:Int} {g cap:Nat} {ar:List dB} (h:gT w hb B size g cap ar) (hx:aG w w'):gT w' hb B size g cap ar:=
 ⟨h.heap.ext hx,hx.own h.row,λa ha=>hx.own (h.data a ha),h.len,h.dist,h.drow,by have:=h.lt;have:=hx.size;omega,h.cnt,h.fresh⟩
theorem gT.get {w:Ω} {hb B:Nat} {size:Int} {g cap:Nat} {ar:List dB} (h:gT w hb B size g cap ar) {k:Nat} {a:dB} (hk:ar[k]?=some a) {j:Nat} (hj:j < 5):w.cell? ⟨g,k*5+j,none⟩=a.cells[j]?:=by
 obtain ⟨u,hu⟩:=bH (l:=a.cells) (j:=j) (by simp [dB.cells];omega);have:=h.row.cells (g:=g) rfl (k*5+j) u (by rw [kA hk hj];exact hu);rw [gO] at this;rw [hu];simpa using this
def atV (g:Nat) (n:Nat) (r:Int):O:=if 1<=r/\r<=n then .pointer (some ⟨g,(r.toNat - 1)*5,none⟩) else .pointer none
theorem zR {w:Ω} {hb B:Nat} {size:Int} {g cap:Nat} {ar:List dB} (h:gT w hb B size g cap ar) {r:Int}:aC prog 97 #[.pointer (some ⟨hb,0,none⟩),i64 r] w λv w'=>v=atV g ar.length r/\w'=w:=by
 apply aPb;unfold SK;have hc:=h.cnt;refine aV.2 ?_;by_cases h1:r < 1
 ·simp only [h1,kB,aJ,aE,reduceIte,decide_true];exact ⟨by unfold atV;rw [if_neg (by omega)],trivial⟩
 simp only [h1,dJ,aJ,reduceIte,Bool.false_eq_true,decide_false];refine ⟨.inl ⟨_,rfl⟩,?_⟩;refine bA h.heap.boxed dH dA rfl (oD.2 ?_);by_cases h2:r > ((ar.length:Nat):Int)
 ·simp only [h2,dR,aE,decide_true];exact ⟨by unfold atV;rw [if_neg (by omega)],trivial⟩
 simp only [h2,dR,aA,decide_false];refine ⟨.inl ⟨_,rfl⟩,?_⟩;refine bA h.heap.boxed dH dA rfl (jV.2 ?_);rw [aX (by omega)];refine V.ok (nV (by omega) (by omega)) ⟨?_,(by first|rfl|trivial)⟩;unfold atV;rw [if_pos (by omega)];have:(r - 1).toNat=r.toNat - 1:=by omega
 simp [this]
theorem ER {g n:Nat} {r:Int} {k:Nat} (hk:r=(k:Int)+1) (hn:k < n):atV g n r=.pointer (some ⟨g,k*5,none⟩):=by
 unfold atV;rw [if_pos (by omega)];have:r.toNat - 1=k:=by omega
 rw [this]
theorem gS {a:dB} (h:cB a.dv=true):a.cells.all cB=true:=by
 show (cB (i64 a.owner)&&(cB (i64 a.label)&&(cB (i64 a.life)&&(cB (.bool a.share)&&(cB a.dv&&true)))))=true;rw [h];rfl
theorem qJ {w:Ω} {hb B:Nat} {size:Int} {g cap:Nat} {ar:List dB} (h:gT w hb B size g cap ar) {k:Nat} {a:dB} (hk:ar[k]?=some a) {r:Int} (hr:r=(k:Int)+1) :
  aC prog 56 #[.pointer (some ⟨hb,0,none⟩),i64 r] w λq w'=>(∃ v,q=.tuple #[.agg ({ a with dv:=v }:dB).cells.toArray,.bool true]/\w'.ownsRow w.heap.size 5 1 v a.data.length (a.data.map u8))/\aG w w':=by
 have hkl:k < ar.length:=(List.getElem?_eq_some_iff.1 hk).1;have ham:=List.mem_of_getElem? hk;have hal:=h.len a ham;apply aCg;unfold FK;refine MA gK λw1 hz x1=>?_;have h1:=h.ext x1;refine (zR h1).mono λq w2 ⟨hq,hw⟩=>?_;subst hq;have hw:=hw.symm;subst hw;rw [ER hr hkl];refine V.ok (gZ underlying194) (aA.2 ⟨.inl ⟨_,rfl⟩,?_⟩);refine V.ok (vC (cs:=a.cells) rfl λj hj=>h1.get hk hj) ?_;refine xL pD rfl (gS (bM (h.data a ham))) λw3 hc x3=>?_;refine ⟨.inl ⟨_,rfl⟩,?_⟩;have h3:=h1.ext x3;refine V.ok jY (V.ok (kO (h3.get hk (j:=4) (by omega))) ?_);have x13:=x1.trans x3;refine (sQ (l:=a.data) (aB.of_own (h3.data a ham)) (by omega)).mono λv w4 ⟨ho,x4⟩=>?_;have x14:=x13.trans x4;refine BG bL lO (hc.ext x4) rfl (by show 4 < 5;omega) (bM ho) ?_;have hc5:bD (w4.setCell ⟨w1.heap.size,4,none⟩ v) w1.heap.size ({ a with dv:=v }:dB).cells 127:=(hc.ext x4).set 4 v;have f5:Fr (λi=>i=w1.heap.size) w4 (w4.setCell ⟨w1.heap.size,4,none⟩ v):=Fr.of_set rfl;have hzl:=hz.lt;have hcl:=hc.lt;have l1:=x1.size;have l3:=x3.size;have hz5:=f5.blk (hz.ext (x3.trans x4)) (by omega);have ho5:=f5.own ho λi hi=>by have:=(ho.lt i hi).1;omega
 have x5:aG w (w4.setCell ⟨w1.heap.size,4,none⟩ v):=x14.setCell l1 _;generalize w4.setCell ⟨w1.heap.size,4,none⟩ v=w5 at hc5 hz5 ho5 x5 ⊢;refine qO hc5.boxed EG rfl ?_;refine GF gK hz5 (l:=({ a with dv:=v }:dB).cells) rfl rfl rfl (gS (bM ho)) λw6 h6 hch=>?_;refine ⟨_,vB underlying127 rfl gK h6 rfl,⟨_,rfl⟩,⟨v,rfl,?_⟩,hch.ext w x5 (Nat.le_refl _)⟩;exact aR (hch.ownRow ho5 (by omega)) (by omega)
def aBp:dB:=⟨0,0,0,false,.slice none 0 0,[]⟩
theorem YZ {P:Program} {w:Ω} {s e:TypeId} (hs:P.underlying s=some (.pointer e)) {x:Operand} {c:O} :
  (do eqGuard .eql s x (.const c) (.pointer none) (.pointer none);binOp .eql s (.pointer none) (.pointer none)).run P w=.ok (.bool true) w:=by
 simp [eqGuard,binOp,lZ,aMa hs]
theorem WS {w:Ω} {hb B:Nat} {size:Int} {g cap:Nat} {ar:List dB} (h:gT w hb B size g cap ar) {r:Int} (hr:¬ (1<=r/\r<=ar.length)) :
  aC prog 56 #[.pointer (some ⟨hb,0,none⟩),i64 r] w λq w'=>q=.tuple #[.agg aBp.cells.toArray,.bool false]/\aG w w':=by
 apply aCg;unfold FK;refine MA gK λw1 hz x1=>?_;refine (zR (h.ext x1)).mono λq w2 ⟨hq,hw⟩=>?_;subst hq;have hw:=hw.symm;subst hw;unfold atV;rw [if_neg hr];refine V.ok (YZ underlying194) (aE.2 ?_);refine bld pY [] rfl rfl ?_;refine GF gK hz (l:=aBp.cells) rfl rfl rfl rfl λw6 h6 hch=>?_;exact ⟨_,vB underlying127 rfl gK h6 rfl,⟨_,rfl⟩,rfl,hch.ext w x1 (Nat.le_refl _)⟩
def qW (a:dB) (who:Int):Bool:=decide (a.owner=-1)||decide (a.owner=who)||a.share
theorem aEc {w:Ω} {a:dB} {who:Int}:aC prog 240 #[.agg a.cells.toArray,i64 who] w λr w'=>r=.bool (qW a who)/\aG w w':=by
 apply aFz;unfold IU;refine bx λb w1 hb x1=>?_;refine bA hb dI aL rfl (aF.2 ?_);by_cases h1:a.owner=-1
 ·simp only [h1,kB,aJ,reduceIte,decide_true];exact ⟨by simp [qW,h1],x1⟩
 simp only [h1,dJ,aJ,reduceIte,Bool.false_eq_true,decide_false];refine bA hb dI aL rfl (aF.2 ?_);by_cases h2:a.owner=who
 ·simp only [h2,kB,aJ,reduceIte,decide_true];exact ⟨by simp [qW,h2],x1⟩
 simp only [h2,dJ,aJ,reduceIte,Bool.false_eq_true,decide_false];refine bA hb dY oH rfl ?_;exact ⟨by simp [qW,h1,h2],x1⟩
def GG (ar:List dB) (r who:Int):Int:=if 1<=r/\r<=ar.length then (match ar[r.toNat - 1]? with|some a=>if qW a who then 36864 else 28420|none=>28417) else 28417
theorem OJ {ar:List dB} {r who:Int} {k:Nat} {a:dB} (hk:ar[k]?=some a) (hr:r=(k:Int)+1):GG ar r who=if qW a who then 36864 else 28420:=by
 have hkl:k < ar.length:=(List.getElem?_eq_some_iff.1 hk).1;unfold GG;rw [if_pos (by omega),show r.toNat - 1=k by omega,hk]
theorem MX {ar:List dB} {r:Int} (h:1<=r/\r<=ar.length):∃ (k:Nat) (a:dB),ar[k]?=some a/\r=(k:Int)+1:=by
 obtain ⟨a,ha⟩:=bH (l:=ar) (j:=r.toNat - 1) (by omega);exact ⟨_,a,ha,by omega⟩
theorem sR {ar:List dB} {r who:Int} (h:GG ar r who=36864):∃ (k:Nat) (a:dB),ar[k]?=some a/\r=(k:Int)+1/\qW a who=true:=by
 by_cases h1:1<=r/\r<=ar.length
 ·obtain ⟨k,a,hk,hr⟩:=MX h1;rw [OJ hk hr] at h;split at h
  ·rename_i hm;exact ⟨k,a,hk,hr,hm⟩
  ·omega
 ·unfold GG at h;rw [if_neg h1] at h;omega
theorem DA {w:Ω} {hb B:Nat} {size:Int} {g cap:Nat} {ar:List dB} (h:gT w hb B size g cap ar) {r who:Int} :
  aC prog 217 #[.pointer (some ⟨hb,0,none⟩),i64 r,i64 who] w λq w'=>q=i64 (GG ar r who)/\aG w w':=by
 apply aGi;unfold JD;refine V.ok (gZ underlying100) (aA.2 ?_);by_cases h1:1<=r/\r<=ar.length
 ·obtain ⟨k,a,hk,hr⟩:=MX h1;refine (qJ h hk hr).mono λq w1 ⟨⟨v,hq,ho⟩,x1⟩=>?_;subst hq;refine cL.2 (cK.2 ?_);refine xL pD rfl (gS (bM ho)) λw2 hc x2=>?_;refine fN.2 (aA.2 ?_);refine qO hc.boxed EG rfl ?_;refine aEc.mono λq w3 ⟨hq,x3⟩=>?_;subst hq;have X:=(x1.trans x2).trans x3;rw [OJ hk hr];refine fN.2 (aO.mk (λhn=>⟨?_,X⟩) λhn=>⟨?_,X⟩)
  ·have:qW a who=false:=by
    have h9:qW ({ a with dv:=v }:dB) who=false:=by simpa using hn
    exact h9
   rw [if_neg (by rw [this];simp)]
  ·have:qW a who=true:=by
    have h9:qW ({ a with dv:=v }:dB) who=true:=by simpa using hn
    exact h9
   rw [if_pos this]
 ·refine (WS h h1).mono λq w1 ⟨hq,x1⟩=>?_;subst hq;refine cL.2 (cK.2 ?_);refine xL pD rfl rfl λw2 hc x2=>?_;refine fN.2 (aE.2 ⟨?_,x1.trans x2⟩);unfold GG;rw [if_neg h1]
def DS (ar:List dB) (r a n who:Int):Int:=if GG ar r who=36864 then (match ar[r.toNat - 1]? with|some x=>if a < 0\/n < 0\/a > x.data.length\/n > x.data.length - a then 28418 else 36864|none=>28418) else GG ar r who
theorem gW {ar:List dB} {r a n who:Int} (h:DS ar r a n who=36864):∃ (k:Nat) (x:dB),ar[k]?=some x/\r=(k:Int)+1/\qW x who=true/\0<=a/\0<=n/\a+n<=x.data.length:=by
 unfold DS at h;split at h
 ·rename_i h1
  obtain ⟨k,x,hk,hr,hm⟩:=sR h1;rw [show r.toNat - 1=k by omega,hk] at h;simp only at h;split at h
  ·omega
  ·exact ⟨k,x,hk,hr,hm,by omega,by omega,by omega⟩
 ·rename_i h1;exact absurd h h1
theorem UX {w:Ω} {hb B:Nat} {size:Int} {g cap:Nat} {ar:List dB} (h:gT w hb B size g cap ar) {r a n who:Int} :
  aC prog 241 #[.pointer (some ⟨hb,0,none⟩),i64 r,i64 a,i64 n,i64 who] w λq w'=>q=i64 (DS ar r a n who)/\aG w w':=by
 apply aFy;unfold IR;refine (DA h).mono λq w1 ⟨hq,x1⟩=>?_;subst hq;refine aS.2 (aK (λhne=>?_) λhfine=>?_)
 ·refine ⟨?_,x1⟩;unfold DS;rw [if_neg hne]
 have hfine':GG ar r who=36864:=by omega
 obtain ⟨k,x,hk,hr,hm⟩:=sR hfine';have hxl:=h.len x (List.mem_of_getElem? hk)
 have er:DS ar r a n who=if a < 0\/n < 0\/a > x.data.length\/n > x.data.length - a then 28418 else 36864:=by
  unfold DS;rw [if_pos hfine',show r.toNat - 1=k by omega,hk]
 rw [er];refine (qJ (h.ext x1) hk hr).mono λq w2 ⟨⟨v,hq,ho⟩,x2⟩=>?_;subst hq;refine cL.2 (cK.2 ?_);refine xL pD rfl (gS (bM ho)) λw3 hc x3=>?_;have X:=(x1.trans x2).trans x3;have hs:=aB.of_own (x3.own ho);refine aV.2 ?_;by_cases h1:a < 0
 ·simp only [h1,kB,aJ,aE,reduceIte,decide_true];exact ⟨by rw [if_pos (.inl trivial)],X⟩
 simp only [h1,aV,dJ,aJ,reduceIte,Bool.false_eq_true,decide_false];by_cases h2:n < 0
 ·simp only [h2,kB,aJ,aE,reduceIte,decide_true];exact ⟨by rw [if_pos (.inr (.inl trivial))],X⟩
 simp only [h2,dJ,reduceIte,Bool.false_eq_true,decide_false];refine bA hc.boxed bL fS rfl ?_;refine gG jQ hs (dR.2 ?_);by_cases h3:a > ((x.data.length:Nat):Int)
 ·simp only [h3,kB,aJ,aE,reduceIte,decide_true];exact ⟨by rw [if_pos (.inr (.inr (.inl trivial)))],X⟩
 simp only [h3,dJ,aJ,reduceIte,Bool.false_eq_true,decide_false];refine bA hc.boxed bL fS rfl (gG jQ hs (jV.2 ?_));rw [aX (by omega)];by_cases h4:n > ((x.data.length:Nat):Int) - a
 ·simp only [h4,dR,aE,decide_true];exact ⟨by simp,X⟩
 simp only [h4,dR,aA,decide_false];exact ⟨by simp,X⟩
theorem gT.upd {w w':Ω} {hb B:Nat} {size:Int} {g cap:Nat} {ar:List dB} (h:gT w hb B size g cap ar) {k:Nat} {x:dB} (hk:ar[k]?=some x) {d':List Int} (hd:d'.length<=64) (ho:w'.ownsRow B 5 1 x.dv d'.length (d'.map u8)) (hf:Fr (λi=>x.dv.ownBlock=some i) w w') :
  gT w' hb B size g cap (ar.set k { x with data:=d' }):=by
 have hkl:k < ar.length:=(List.getElem?_eq_some_iff.1 hk).1;have hxm:=List.mem_of_getElem? hk;have hlt:=h.lt
 have hrow:jW (ar.set k { x with data:=d' })=jW ar:=by
  apply List.ext_getElem?;intro j;by_cases hj:j < ar.length*5
  ·obtain ⟨a,ha⟩:=bH (l:=ar) (j:=j / 5) (by omega);have e:j=j / 5*5+j % 5:=by omega
   rw [e,kA ha (Nat.mod_lt _ (by decide))];by_cases hjk:k=j / 5
   ·have:(ar.set k { x with data:=d' })[j / 5]?=some { x with data:=d' }:=by rw [<- hjk,List.getElem?_set_self hkl]
    rw [kA this (Nat.mod_lt _ (by decide))];rw [<- hjk,hk] at ha;cases ha;rfl
   ·have:(ar.set k { x with data:=d' })[j / 5]?=some a:=by rw [List.getElem?_set_ne hjk];exact ha
    rw [kA this (Nat.mod_lt _ (by decide))]
  ·rw [List.getElem?_eq_none (by rw [rV];simp;omega),List.getElem?_eq_none (by rw [rV];omega)]
 have find:∀ {i:Nat} {a:dB},(ar.set k { x with data:=d' })[i]?=some a->∃ b,ar[i]?=some b/\b.dv=a.dv/\((i=k/\a={ x with data:=d' })\/(i≠k/\a=b)):=by
  intro i a hi;by_cases hik:k=i
  ·subst hik;rw [List.getElem?_set_self hkl] at hi;cases hi;exact ⟨x,hk,rfl,.inl ⟨rfl,rfl⟩⟩
  ·rw [List.getElem?_set_ne hik] at hi;exact ⟨a,hi,rfl,.inr ⟨λe=>hik e.symm,rfl⟩⟩
 have each:∀ a∈ar.set k { x with data:=d' },w'.ownsRow B 5 1 a.dv a.data.length (a.data.map u8)/\a.data.length<=64/\a.dv.ownBlock≠some g:=by
  intro a ha;obtain ⟨i,hi⟩:=List.getElem?_of_mem ha;obtain ⟨b,hb',hdv,hc⟩:=find hi;have hbm:=List.mem_of_getElem? hb';rcases hc with ⟨rfl,rfl⟩|⟨hne,rfl⟩
  ·exact ⟨ho,hd,h.drow x hxm⟩
  ·refine ⟨hf.own (h.data a hbm) λj hj he=>hne (h.dist i k a x j hb' hk hj he),h.len a hbm,h.drow a hbm⟩
 refine ⟨?_,?_,λa ha=>(each a ha).1,λa ha=>(each a ha).2.1,λi j a b y hi hj ha hb'=>?_,λa ha=>(each a ha).2.2,by have:=hf.size;omega,by simpa using h.cnt,h.fresh.1,λa ha=>?_⟩
 ·have:=hf.blk h.heap λhe=>h.fresh.2 x hxm he;simpa using this
 ·have:=hf.own h.row λi hi he=>by
   have:g=i:=by simpa [Value.ownBlock] using hi
   exact h.drow x hxm (this▸he)
  rw [hrow];simpa using this
 ·obtain ⟨a',h1,h2,_⟩:=find hi;obtain ⟨b',h3,h4,_⟩:=find hj;exact h.dist i j a' b' y h1 h3 (h2▸ha) (h4▸hb')
 ·obtain ⟨i,hi⟩:=List.getElem?_of_mem ha;obtain ⟨b,hb',hdv,_⟩:=find hi;rw [<- hdv];exact h.fresh.2 b (List.mem_of_getElem? hb')
structure aTv (w:Ω) (rb hb B:Nat) (size:Int) (g cap:Nat) (ar:List dB) (pub sec:O) (tp ts:List Int):Prop where
 room:bD w rb [.pointer (some ⟨hb,0,none⟩),.slice none 0 0,.slice none 0 0,pub,sec] 134
 h:gT w hb B size g cap ar
 qp:w.ownsRow B 5 1 pub tp.length (tp.map u8)
 qs:w.ownsRow B 5 1 sec ts.length (ts.map u8)
 lp:tp.length<=128
 ls:ts.length<=128
 ne:∀ x,pub.ownBlock=some x->sec.ownBlock≠some x
 np:∀ a∈ar,∀ x,a.dv.ownBlock=some x->pub.ownBlock≠some x
 ns:∀ a∈ar,∀ x,a.dv.ownBlock=some x->sec.ownBlock≠some x
 gp:pub.ownBlock≠some g
 gs:sec.ownBlock≠some g
 lt:rb≠hb
 fresh:∀ x,(x=rb\/x=hb)->x≠g/\(∀ a∈ar,a.dv.ownBlock≠some x)/\pub.ownBlock≠some x/\sec.ownBlock≠some x
def MuG (rb hb g:Nat) (ar:List dB) (pub sec:O) (i:Nat):Prop:=i=rb\/i=hb\/i=g\/(∃ a∈ar,a.dv.ownBlock=some i)\/pub.ownBlock=some i\/sec.ownBlock=some i
theorem RK {w:Ω} {hb B:Nat} {size:Int} {g cap:Nat} {ar:List dB} (h:gT w hb B size g cap ar) {k:Nat} {x:dB} (hk:ar[k]?=some x) {r:Int} (hr:r=(k:Int)+1) {a:Nat} (ha:a < x.data.length) :
  aC prog 219 #[.pointer (some ⟨hb,0,none⟩),i64 r,i64 (a:Int)] w λq w'=>q=.tuple #[u8 (x.data.getD a 0),.bool true]/\w'=w:=by
 have hxm:=List.mem_of_getElem? hk;have hkl:k < ar.length:=(List.getElem?_eq_some_iff.1 hk).1;have hd:=aB.of_own (h.data x hxm);apply aGg;unfold JA;refine (zR h).mono λq w1 ⟨hq,hw⟩=>?_;subst hq;have hw:=hw.symm;subst hw;rw [ER hr hkl];refine V.ok (gZ underlying194) ?_;simp only [show ¬ ((a:Int) < 0) by omega,aV,dJ,aJ,reduceIte,Bool.false_eq_true,decide_false];refine ⟨.inl ⟨_,rfl⟩,?_⟩;refine V.ok jY (V.ok (kO (h.get hk (j:=4) (by omega))) (gG jQ hd ?_));simp only [show ¬ ((a:Int)>=((x.data.length:Nat):Int)) by omega,kU,aA,decide_false];refine ⟨.inl ⟨_,rfl⟩,?_⟩;refine V.ok jY (V.ok (kO (h.get hk (j:=4) (by omega))) ?_);exact nO jQ vZ hd (by omega) (by omega) (tE ha) ⟨rfl,rfl⟩
theorem QR {w:Ω} {hb B:Nat} {size:Int} {g cap:Nat} {ar:List dB} (h:gT w hb B size g cap ar) {k:Nat} {x:dB} (hk:ar[k]?=some x) {r:Int} (hr:r=(k:Int)+1) {a:Nat} (ha:a < x.data.length) {z:Int} :
  aC prog 220 #[.pointer (some ⟨hb,0,none⟩),i64 r,i64 (a:Int),u8 z] w λ_ w'=>w'.ownsRow B 5 1 x.dv x.data.length ((x.data.set a z).map u8)/\w.grownBy w' x.dv.ownBlock:=by
 have hxm:=List.mem_of_getElem? hk;have hkl:k < ar.length:=(List.getElem?_eq_some_iff.1 hk).1;apply aGf;unfold IZ;refine (RK h hk hr ha).mono λq w1 ⟨hq,hw⟩=>?_;subst hq;have hw:=hw.symm;subst hw;refine cL.2 (cK.2 (fN.2 (aA.2 ?_)));refine (zR h).mono λq w1 ⟨hq,hw⟩=>?_;subst hq;have hw:=hw.symm;subst hw;rw [ER hr hkl];refine ⟨.inl ⟨_,rfl⟩,?_⟩;refine V.ok jY (V.ok (kO (h.get hk (j:=4) (by omega))) ?_);refine stO jQ pW (h.data x hxm) (by omega) (by omega) rfl λw3 ho3 hg3=>?_;refine ⟨?_,hg3⟩;rw [List.map_set];simpa using ho3
def aBx (a b:dB):Prop:=b.owner=a.owner/\b.label=a.label/\b.life=a.life/\b.share=a.share/\b.data=a.data
def Wk (st who:Int) (ar ar':List dB):Prop:=ar.length<=ar'.length/\(st≠36864->ar'.length=ar.length)/\∀ (k:Nat) (a:dB),ar[k]?=some a->∃ a',ar'[k]?=some a'/\(aBx a a'\/(st=36864/\qW a who=true))
def aVx (w:Ω) (rb hb B:Nat) (size:Int) (g:Nat) (ar:List dB) (pub sec:O) (who:Int) (r:O) (w':Ω):Prop:=
 ∃ (p st:Int) (g' cap':Nat) (ar':List dB) (pub' sec':O) (tp' ts':List Int),r=.tuple #[i32 p,i64 st]/\aTv w' rb hb B size g' cap' ar' pub' sec' tp' ts'/\Wk st who ar ar'/\Fr (MuG rb hb g ar pub sec) w w'
section
variable {w:Ω} {rb hb B:Nat} {size:Int} {g cap:Nat} {ar:List dB} {pub sec av:O} {tp ts:List Int}
end
end Go.Proofs.YtgkkecladbmjkaaGreatDoor
namespace Go.Vc
section
variable {P:Program} {w:Ω} {K:O->Ω->Prop} {k:IntKind} {t:TypeId} {a b:Int}
theorem tO:(binOp .and t (.int k a) (.int k b)).run P w=.ok (.int k (k.wrap (BitVec.ofInt k.bits a &&& BitVec.ofInt k.bits b).toNat)) w:=by simp [binOp,Op.intBits]
theorem YS:(binOp .or t (.int k a) (.int k b)).run P w=.ok (.int k (k.wrap (BitVec.ofInt k.bits a ||| BitVec.ofInt k.bits b).toNat)) w:=by simp [binOp,Op.intBits]
theorem QH:(binOp .xor t (.int k a) (.int k b)).run P w=.ok (.int k (k.wrap (BitVec.ofInt k.bits a ^^^ BitVec.ofInt k.bits b).toNat)) w:=by simp [binOp,Op.intBits]
theorem aJu:(Op.unary .xor (.int k a)).run P w=.ok (.int k (k.wrap (BitVec.ofInt k.bits (if k.signed then -1 else k.max) ^^^ BitVec.ofInt k.bits a).toNat)) w:=by simp [Op.unary,Op.intBits]
theorem aJt {k':IntKind} (h:0<=b):(binOp .shl t (.int k a) (.int k' b)).run P w=.ok (.int k (k.wrap (a*2 ^ (min b.toNat k.bits)))) w:=by
 have:¬ b < 0:=by omega
 simp [binOp,Op.shift,this]
theorem BP {k':IntKind} (h:0<=b):(binOp .shr t (.int k a) (.int k' b)).run P w=.ok (.int k (a.fdiv (2 ^ (min b.toNat k.bits)))) w:=by
 have:¬ b < 0:=by omega
 simp [binOp,Op.shift,this]
theorem aTq (b:Int):0<=IntKind.i32.wrap (BitVec.ofInt IntKind.i32.bits b &&& BitVec.ofInt IntKind.i32.bits 31).toNat:=by
 have h:(BitVec.ofInt IntKind.i32.bits b &&& BitVec.ofInt IntKind.i32.bits 31).toNat<=31:=by
  rw [BitVec.toNat_and];exact Nat.le_trans Nat.and_le_right (by decide)
 generalize (BitVec.ofInt IntKind.i32.bits b &&& BitVec.ofInt IntKind.i32.bits 31).toNat=n at h;simp only [IntKind.wrap_i32];omega
end
end Go.Vc
namespace Go.Proofs.YtgkkecladbmjkaaGreatDoor
open Tryz
open Go.Vc
def aWr (f:FuncId):Prop:=∀ a:Int,∃ z:Int,∀ w,aC prog f #[i32 a] w λr w'=>r=i32 z/\w'=w
def aWq (f:FuncId):Prop:=∀ a b:Int,∃ z:Int,∀ w,aC prog f #[i32 a,i32 b] w λr w'=>r=i32 z/\w'=w
section
variable {w:Ω} {rb hb B:Nat} {size:Int} {g cap:Nat} {ar:List dB} {pub sec av:O} {tp ts:List Int}
end
theorem MT {w:Ω} {a b:dB} (ha:cU w a.dv a.data) (hb':cU w b.dv b.data):aC prog 57 #[.agg a.cells.toArray,.agg b.cells.toArray] w λr w'=>(∃ q:Bool,r=.bool q/\(aBx a b->q=true))/\aG w w':=by
 apply aQb;unfold TC;refine bx λp1 w1 h1 x1=>?_;refine bx λp2 w2 h2 x2=>?_;have h1':=h1.ext x2;have X:=x1.trans x2;refine bA h1' dI aL rfl ?_;refine bA h2 dI aL rfl (aF.2 ?_);by_cases e1:a.owner=b.owner
 case neg=>
  simp only [e1,CV,aJ,reduceIte,Bool.false_eq_true,decide_false];exact ⟨⟨_,rfl,λh=>absurd h.1.symm e1⟩,X⟩
 simp only [e1,EL,aJ,reduceIte,decide_true];refine bA h1' fG aL rfl ?_;refine bA h2 fG aL rfl (aF.2 ?_);by_cases e2:a.label=b.label
 case neg=>
  simp only [e2,CV,aJ,reduceIte,Bool.false_eq_true,decide_false];exact ⟨⟨_,rfl,λh=>absurd h.2.1.symm e2⟩,X⟩
 simp only [e2,EL,aJ,reduceIte,decide_true];refine bA h1' fD aL rfl ?_;refine bA h2 fD aL rfl (aF.2 ?_);by_cases e3:a.life=b.life
 case neg=>
  simp only [e3,CV,aJ,reduceIte,Bool.false_eq_true,decide_false];exact ⟨⟨_,rfl,λh=>absurd h.2.2.1.symm e3⟩,X⟩
 simp only [e3,EL,aJ,reduceIte,decide_true];refine bA h1' dY oH rfl ?_;refine bA h2 dY oH rfl ?_;refine V.ok (ZA underlying4) ?_;by_cases e4:a.share=b.share
 case neg=>
  simp only [show (a.share == b.share)=false by simpa using e4,CV,aJ,reduceIte,Bool.false_eq_true];exact ⟨⟨_,rfl,λh=>absurd h.2.2.2.1.symm e4⟩,X⟩
 simp only [show (a.share == b.share)=true by simpa using e4,EL,aJ,reduceIte];refine bA h1' bL fS rfl ?_;refine V.ok (wP underlying23 underlying5 underlying9 (ha.ext X)) ?_;refine bA h2 bL fS rfl ?_;refine V.ok (wP underlying23 underlying5 underlying9 (hb'.ext X)) ?_;refine V.ok sZ ?_;exact ⟨⟨_,rfl,λh=>by rw [h.2.2.2.2];simp⟩,X⟩
end Go.Proofs.YtgkkecladbmjkaaGreatDoor
namespace Go.Vc
variable {w:Ω} {B n sz:Nat} {P:Program} {z:O}
theorem eC {g e size:Nat} {cs:List O} (hb:bD w g cs e) (hn:cs.length=n*size) (hB:B<=g) (hm:n<=maxLen):w.ownsRow B e size (.slice (some ⟨g,0,none⟩) n n) n cs:=
 ⟨hn,.inr ⟨g,n,cs.toArray,rfl,hB,hb,Nat.le_refl _,hm,by simpa using hn,by rw [<- hn];simp⟩⟩
theorem apZ {K:O->Ω->Prop} {t e by_ ty:Nat} (ht:P.underlying t=some (.slice e)) (hi:cV P e z sz by_) (hz:(z.cells.size == sz)=true) (hsz:0 < sz) {B':Nat} {v:O} {xs:List O} (ho:w.ownsRow B e sz v n xs) {x:O} {m:Nat} {news:List O} (hs:w.ownsRow B' e sz x m news) (hm:0 < m) (h1:news.all cB=true)
  (hb:(n+m)*by_<=140737488355328) (h63:n+m<=maxLen) (hB:B<=w.heap.size)
  (hk:∀ g cap w',w'.ownsRow B e sz (.slice (some ⟨g,0,none⟩) (n+m) cap) (n+m) (xs++news)->w.grownBy w' v.ownBlock->(v.ownBlock=some g\/g=w.heap.size)->K (.slice (some ⟨g,0,none⟩) (n+m) cap) w') :
  V P (Builtin.append_ #[t,t] ty #[v,x]) w K:=by
 obtain ⟨i,hi',hz',hn,hby⟩:=info_parts hi;have hs0:=hs;rcases hs.2 with ⟨_,h0⟩|⟨b,cap,cur,rfl,_⟩
 ·omega
 ·obtain ⟨g,cap,w',hr,h2,h3,h4,h5⟩:=run_append_lies (P:=P) (w:=w) t ty B e i z sz by_ ht hi' hz' hn hby (by simpa using hz) hsz v n xs ho ⟨b,0,none⟩ m cap news hs.1 (hs0.cells rfl) (λu hu=>by rw [tA];exact List.all_eq_true.1 h1 u hu) hm h63 hb hB _ rfl;exact V.ok hr (hk g cap w' h2 h3 h4)
theorem YR {t e:TypeId} {by_:Nat} (ht:P.underlying t=some (.slice e)) (hi:cV P e z sz by_) {g cap a:Nat} (ha:a<=n) (_:n<=cap) :
  (Instr.sliceAt t (.slice (some ⟨g,0,none⟩) n cap) (some (.int .i64 (a:Int))) none none).run P w=.ok (.slice (if cap=a then some ⟨g,0,none⟩ else some ⟨g,a*sz,none⟩) (n - a) (cap - a)) w:=by
 simp [Instr.sliceAt,Instr.slice,run_underlying ht,dU hi,Instr.sliceBounds,Instr.sliceBound,asIntOf,ha,gO]
end Go.Vc
namespace Go.Proofs.YtgkkecladbmjkaaGreatDoor
open Tryz
open Go.Vc
theorem gT.cap {w:Ω} {hb B:Nat} {size:Int} {g cap:Nat} {ar:List dB} (h:gT w hb B size g cap ar):ar.length<=cap/\B<=g/\g < w.heap.size:=by
 refine ⟨?_,h.row.lt _ rfl⟩;rcases h.row.2 with ⟨h',_⟩|⟨g',cap',cur,h',_,_,hc,_⟩
 ·cases h'
 ·cases h';exact hc
theorem gT.push {w w':Ω} {hb B:Nat} {size:Int} {g cap g' cap':Nat} {ar:List dB} (h:gT w hb B size g cap ar) (a:dB) (hl:a.data.length<=64) (hcnt:ar.length+1<=1000)
  (hheap:bD w' hb [i64 size,.slice (some ⟨g',0,none⟩) (ar.length+1:Nat) cap'] 193) (hrow:w'.ownsRow B 127 5 (.slice (some ⟨g',0,none⟩) (ar.length+1) cap') (ar.length+1) (jW ar++a.cells))
  (hd:w'.ownsRow w.heap.size 5 1 a.dv a.data.length (a.data.map u8)) (hne:a.dv.ownBlock≠some g') (hg:g'=g\/w.heap.size<=g') (hf:Fr (λi=>i=hb\/i=g) w w') :
  gT w' hb B size g' cap' (ar++[a]):=by
 have hlt:=h.lt;have hsz:=hf.size;have hc:=h.cap
 have old:∀ b∈ar,w'.ownsRow B 5 1 b.dv b.data.length (b.data.map u8):=λb hbm=>hf.own (h.data b hbm) λi hi he=>by
  rcases he with rfl|rfl
  ·exact h.fresh.2 b hbm hi
  ·exact h.drow b hbm hi
 have find:∀ {i:Nat} {b:dB},(ar++[a])[i]?=some b->(i < ar.length/\ar[i]?=some b)\/(i=ar.length/\b=a):=by
  intro i b hi;by_cases hil:i < ar.length
  ·rw [List.getElem?_append_left hil] at hi;exact .inl ⟨hil,hi⟩
  ·rw [List.getElem?_append_right (by omega)] at hi;have hi':=(List.getElem?_eq_some_iff.1 hi).1;simp at hi';have e:i=ar.length:=by omega
   subst e;simp at hi;exact .inr ⟨rfl,hi.symm⟩
 have low:∀ b∈ar,∀ x,b.dv.ownBlock=some x->x < w.heap.size:=λb hbm x hx=>((h.data b hbm).lt x hx).2;have high:∀ x,a.dv.ownBlock=some x->w.heap.size<=x:=λx hx=>(hd.lt x hx).1;refine ⟨by simpa using hheap,by rw [BN];simpa using hrow,?_,?_,?_,?_,by omega,by simp;omega,?_,?_⟩
 ·intro b hb';rcases List.mem_append.1 hb' with hb'|hb'
  ·exact old b hb'
  ·obtain rfl:=List.mem_singleton.1 hb';exact aR hd (by omega)
 ·intro b hb';rcases List.mem_append.1 hb' with hb'|hb'
  ·exact h.len b hb'
  ·obtain rfl:=List.mem_singleton.1 hb';exact hl
 ·intro i j b c x hi hj hbx hcx;rcases find hi with ⟨_,hi'⟩|⟨rfl,rfl⟩<;>rcases find hj with ⟨_,hj'⟩|⟨rfl,rfl⟩
  ·exact h.dist i j b c x hi' hj' hbx hcx
  ·have:=low b (List.mem_of_getElem? hi') x hbx;have:=high x hcx;omega
  ·have:=low c (List.mem_of_getElem? hj') x hcx;have:=high x hbx;omega
  ·rfl
 ·intro b hb';rcases List.mem_append.1 hb' with hb'|hb'
  ·intro he;rcases hg with rfl|hg
   ·exact h.drow b hb' he
   ·have:=low b hb' _ he;omega
  ·obtain rfl:=List.mem_singleton.1 hb';exact hne
 ·have:=h.heap.lt;have:=h.fresh.1;omega
 ·intro b hb' he;rcases List.mem_append.1 hb' with hb'|hb'
  ·exact h.fresh.2 b hb' he
  ·obtain rfl:=List.mem_singleton.1 hb';have:=high _ he;have:=h.heap.lt;omega
end Go.Proofs.YtgkkecladbmjkaaGreatDoor
namespace Go.Vc
variable {w:Ω} {cs:List O} {o:Nat}
theorem kV.boxed {b:Nat} (h:kV w b 0 cs):gD w b cs:=λ_ _ hj=>h.cell hj
theorem Fr.seg {S:Nat->Prop} {w':Ω} {b:Nat} (f:Fr S w w') (h:kV w b o cs) (hn:¬ S b):kV w' b o cs:=h.of (f.block b h.lt hn)
theorem GM {P:Program} {K:Ω->Prop} {ft b n by_:Nat} {z u:O} (hi:cV P ft z 1 by_) (hb:kV w b 0 cs) (hn:cs.length=n) (ho:o < n) (hu:cB u=true) (hk:K (w.setCell ⟨b,0+o,none⟩ u)) :
  U P (Instr.storeAt ft (.pointer (some ⟨b,0+o,none⟩)) u) w λ_ w2=>K w2:=
 U.ok (lV hi hu (hb.cell (List.getElem?_eq_getElem (by omega))) (hb.frozen (by omega))) hk
end Go.Vc
namespace Go.Proofs.YtgkkecladbmjkaaGreatDoor
open Tryz
open Go.Vc
structure tL where
 what:Int
 a:Int
 b:Int
 c:Int
def tL.cells (e:tL):List O:=[i64 e.what,i64 e.a,i64 e.b,i64 e.c]
def oY (l:List tL):List O:=l.flatMap tL.cells
theorem PG (l m:List tL):oY (l++m)=oY l++oY m:=by simp [oY]
theorem aDe (l:List tL):(oY l).all cB=true:=by
 rw [List.all_eq_true];intro v hv;obtain ⟨e,_,he⟩:=List.mem_flatMap.1 hv;simp only [tL.cells,List.mem_cons,List.not_mem_nil,or_false] at he;rcases he with rfl|rfl|rfl|rfl<;>rfl
structure PA where
 owner:Int
 label:Int
 life:Int
 share:Bool
 data:List Int
def pa (a:dB):PA:=⟨a.owner,a.label,a.life,a.share,a.data⟩
structure PS where
 size:Int
 ar:List PA
 tp:List Int
 ts:List Int
 tr:List tL
def PS.ev (s:PS) (l:List tL):PS:={ s with tr:=s.tr++l }
structure RP where
 (rb hb B g cap tb:Nat) (size:Int) (ar:List dB) (iv fv pub sec tv:O) (tp ts:List Int) (tr:List tL)
def RP.ps (p:RP):PS:=⟨p.size,p.ar.map pa,p.tp,p.ts,p.tr⟩
@[reducible] def RP.ev1 (p:RP) (tv':O) (e:tL):RP:={ p with tv:=tv',tr:=p.tr++[e] }
def kE (p:RP) (i:Nat):Prop:=i=p.rb\/i=p.hb\/i=p.g\/(∃ a∈p.ar,a.dv.ownBlock=some i)\/p.pub.ownBlock=some i\/p.sec.ownBlock=some i
def mN (p:RP) (i:Nat):Prop:=i=p.tb\/p.tv.ownBlock=some i
def qD (l:List Int):Prop:=∀ b∈l,0<=b/\b < 256
structure bZ (p:RP) (w:Ω):Prop where
 room:kV w p.rb 0 [.pointer (some ⟨p.hb,0,none⟩),p.iv,p.fv,p.pub,p.sec]
 h:gT w p.hb p.B p.size p.g p.cap p.ar
 qp:w.ownsRow p.B 5 1 p.pub p.tp.length (p.tp.map u8)
 qs:w.ownsRow p.B 5 1 p.sec p.ts.length (p.ts.map u8)
 lp:p.tp.length<=128
 ls:p.ts.length<=128
 ne:∀ x,p.pub.ownBlock=some x->p.sec.ownBlock≠some x
 np:∀ a∈p.ar,∀ x,a.dv.ownBlock=some x->p.pub.ownBlock≠some x
 ns:∀ a∈p.ar,∀ x,a.dv.ownBlock=some x->p.sec.ownBlock≠some x
 gp:p.pub.ownBlock≠some p.g
 gs:p.sec.ownBlock≠some p.g
 lt:p.rb≠p.hb
 fresh:∀ x,(x=p.rb\/x=p.hb)->x≠p.g/\(∀ a∈p.ar,a.dv.ownBlock≠some x)/\p.pub.ownBlock≠some x/\p.sec.ownBlock≠some x
 tbox:bD w p.tb [p.tv] 125
 trow:w.ownsRow p.B 54 4 p.tv p.tr.length (oY p.tr)
 tne:p.tv.ownBlock≠some p.tb
 tfr:∀ i,mN p i->¬ kE p i
 two:2<=p.ar.length
 sz:0<=p.size/\p.size<=1000
 bytes:∀ a∈p.ar,qD a.data
variable {p:RP} {w w':Ω}
theorem bZ.hi (h:bZ p w):∀ i,kE p i\/mN p i->i < w.heap.size:=by
 intro i hm;rcases hm with (rfl|rfl|rfl|⟨a,ha,he⟩|he|he)|rfl|he
 ·exact h.room.lt
 ·exact h.h.heap.lt
 ·exact (h.h.row.lt _ rfl).2
 ·exact ((h.h.data a ha).lt _ he).2
 ·exact (h.qp.lt _ he).2
 ·exact (h.qs.lt _ he).2
 ·exact h.tbox.lt
 ·exact (h.trow.lt _ he).2
theorem gT.frT {S:Nat->Prop} {hb B:Nat} {size:Int} {g cap:Nat} {ar:List dB} (h:gT w hb B size g cap ar) (hf:Fr S w w') (hn:∀ i,S i->i≠hb/\i≠g/\∀ a∈ar,a.dv.ownBlock≠some i):gT w' hb B size g cap ar:=
 ⟨hf.blk h.heap λhs=>(hn _ hs).1 rfl,hf.own h.row λi hi hs=>(hn i hs).2.1 (by simpa [Value.ownBlock] using hi.symm),λa ha=>hf.own (h.data a ha) λi hi hs=>(hn i hs).2.2 a ha hi,h.len,h.dist,h.drow,by have:=hf.size;have:=h.lt;omega,h.cnt,h.fresh⟩
theorem bZ.fr {S:Nat->Prop} (h:bZ p w) (f:Fr S w w') (hn:∀ i,S i->¬ kE p i/\¬ mN p i):bZ p w':=
 ⟨f.seg h.room λhs=>(hn _ hs).1 (.inl rfl),h.h.frT f λi hs=>⟨λe=>(hn i hs).1 (.inr (.inl e)),λe=>(hn i hs).1 (.inr (.inr (.inl e))),λa ha e=>(hn i hs).1 (.inr (.inr (.inr (.inl ⟨a,ha,e⟩))))⟩,
  f.own h.qp λi hi hs=>(hn i hs).1 (.inr (.inr (.inr (.inr (.inl hi))))),f.own h.qs λi hi hs=>(hn i hs).1 (.inr (.inr (.inr (.inr (.inr hi))))),h.lp,h.ls,h.ne,h.np,h.ns,h.gp,h.gs,h.lt,h.fresh,
  f.blk h.tbox λhs=>(hn _ hs).2 (.inl rfl),f.own h.trow λi hi hs=>(hn i hs).2 (.inr hi),h.tne,h.tfr,h.two,h.sz,h.bytes⟩
theorem bZ.ext (h:bZ p w) (hx:aG w w'):bZ p w':=h.fr (Fr.of_ext (S:=λ_=>False) hx) λ_ hf=>hf.elim
def rJ (p:RP) (who a b:Int) (av:O):O:=.agg #[.pointer (some ⟨p.rb,0,none⟩),.pointer (some ⟨p.tb,0,none⟩),i64 who,i64 a,i64 b,av]
structure pO (p p':RP) (w w':Ω):Prop where
 rb:p'.rb=p.rb
 hb:p'.hb=p.hb
 B:p'.B=p.B
 tb:p'.tb=p.tb
 size:p'.size=p.size
 iv:p'.iv=p.iv
 fv:p'.fv=p.fv
 mu:∀ i,kE p' i\/mN p' i->kE p i\/mN p i\/w.heap.size<=i
 fr:Fr (λi=>kE p i\/mN p i) w w'
theorem pO.of_ext (hx:aG w w'):pO p p w w':=⟨rfl,rfl,rfl,rfl,rfl,rfl,rfl,λ_ hi=>hi.elim .inl λh=>.inr (.inl h),Fr.of_ext hx⟩
theorem pO.trans {p1 p2:RP} {w1 w2:Ω} (h:pO p p1 w w1) (k:pO p1 p2 w1 w2):pO p p2 w w2:=
 ⟨k.rb.trans h.rb,k.hb.trans h.hb,k.B.trans h.B,k.tb.trans h.tb,k.size.trans h.size,k.iv.trans h.iv,k.fv.trans h.fv,λi hi=>by
  rcases k.mu i hi with h1|h1|h1
  ·exact h.mu i (.inl h1)
  ·exact h.mu i (.inr h1)
  ·exact .inr (.inr (Nat.le_trans h.fr.size h1)),h.fr.trans k.fr λi hi hs=>by
  rcases h.mu i hs with h1|h1|h1
  ·exact .inl h1
  ·exact .inr h1
  ·omega⟩
theorem SC (h:bZ p w) (hl:p.tr.length<=100000) {e:tL}:aC prog 52 #[.pointer (some ⟨p.tb,0,none⟩),i64 e.what,i64 e.a,i64 e.b,i64 e.c] w λ_ w'=>
  ∃ tv',bZ (p.ev1 tv' e) w'/\pO p (p.ev1 tv' e) w w'/\Fr (mN p) w w'/\∀ i,mN (p.ev1 tv' e) i->mN p i\/w.heap.size<=i:=by
 apply aQf;unfold TF;refine ⟨.inl ⟨_,rfl⟩,?_⟩;refine bA h.tbox.boxed dZ qF rfl (gG uR (aB.of_own h.trow) ?_);refine kU.2 ?_;simp only [show ¬ ((p.tr.length:Int)>=200000) by omega,aA,decide_false];refine ⟨.inl ⟨_,rfl⟩,?_⟩;refine bA h.tbox.boxed dZ qF rfl ?_;refine bld tS [(0,i64 e.what),(1,i64 e.a),(2,i64 e.b),(3,i64 e.c)] rfl rfl ?_;refine V.ok (v:=.slice (some ⟨w.heap.size,0,none⟩) 1 1) (w':=w.alloc (.cells e.cells.toArray 54)) (by kernel_rfl) ?_;have hb1:bD (w.alloc (.cells e.cells.toArray 54)) w.heap.size e.cells 54:=by unfold bD;rw [heap_alloc_new]
 have x1:aG w (w.alloc (.cells e.cells.toArray 54)):=(aG.refl _).alloc _;generalize w.alloc (.cells e.cells.toArray 54)=w1 at hb1 x1 ⊢;have ho1:w1.ownsRow 0 54 4 (.slice (some ⟨w.heap.size,0,none⟩) 1 1) 1 e.cells:=eC hb1 rfl (Nat.zero_le _) (by unfold maxLen;omega);have h1:=h.ext x1;have hlt:=h1.h.lt;refine apZ underlying50 CR rfl (by omega) h1.trow ho1 (by omega) (by rfl) (by omega) (by unfold maxLen;omega) (by omega) λg' cap' w2 ho2 hg2 hlies=>?_;have f2:Fr (λi=>p.tv.ownBlock=some i) w1 w2:=Fr.of_grown hg2 λk hk=>hk;refine ⟨.inl ⟨_,rfl⟩,?_⟩;refine V.ok NC ?_;have hb2:=f2.blk h1.tbox h.tne;have htl:=h.tbox.lt;have s1:=x1.size;refine wX CS hb2 rfl (by simp) rfl ?_;have f3:Fr (λi=>i=p.tb) w2 (w2.setCell ⟨p.tb,0,none⟩ (.slice (some ⟨g',0,none⟩) (p.tr.length+1) cap')):=Fr.of_set rfl;have hb3:=hb2.set 0 (.slice (some ⟨g',0,none⟩) (p.tr.length+1) cap')
 have hgt:¬ g'=p.tb:=λhe=>by
  rcases hlies with hl|hl
  ·exact h.tne (he▸hl)
  ·omega
 have ho3:=f3.own ho2 λk hk=>by
  have:g'=k:=by simpa [Value.ownBlock] using hk
  omega
 generalize w2.setCell ⟨p.tb,0,none⟩ (.slice (some ⟨g',0,none⟩) (p.tr.length+1) cap')=w3 at f3 hb3 ho3 ⊢;have F:Fr (mN p) w w3:=((Fr.of_ext (S:=λi=>p.tv.ownBlock=some i) x1).trans f2 λ_ _ h=>h).or f3 |>.mono λi hi=>hi.elim .inr .inl;have hS:∀ i,mN p i->¬ kE p i:=h.tfr
 have hlie:∀ i,g'=i->mN p i\/w.heap.size<=i:=λi hi=>by
  subst hi;rcases hlies with hl|hl
  ·exact .inl (.inr hl)
  ·exact .inr (by omega)
 have hgm:¬ kE p g':=λhm=>by
  rcases hlie g' rfl with h'|h'
  ·exact h.tfr _ h' hm
  ·have:=h.hi g' (.inl hm);omega
 refine ⟨.slice (some ⟨g',0,none⟩) (p.tr.length+1) cap',⟨F.seg h.room λhs=>hS _ hs (.inl rfl),h.h.frT F λi hs=>⟨λe=>hS i hs (.inr (.inl e)),λe=>hS i hs (.inr (.inr (.inl e))),λa ha e=>hS i hs (.inr (.inr (.inr (.inl ⟨a,ha,e⟩))))⟩,
  F.own h.qp λi hi hs=>hS i hs (.inr (.inr (.inr (.inr (.inl hi))))),F.own h.qs λi hi hs=>hS i hs (.inr (.inr (.inr (.inr (.inr hi))))),h.lp,h.ls,h.ne,h.np,h.ns,h.gp,h.gs,h.lt,h.fresh,hb3,?_,λhe=>hgt (by simpa [Value.ownBlock] using he),λi hi hm=>?_,h.two,h.sz,h.bytes⟩,⟨rfl,rfl,rfl,rfl,rfl,rfl,rfl,λi hi=>?_,F.mono λi hi=>.inr hi⟩,F,λi hi=>?_⟩
 ·show w3.ownsRow p.B 54 4 (.slice (some ⟨g',0,none⟩) (p.tr.length+1) cap') (p.tr++[e]).length (oY (p.tr++[e]));rw [PG,List.length_append];have:oY [e]=e.cells:=by simp [oY]
  rw [this];exact ho3
 ·rcases hi with hi|hi
  ·exact h.tfr i (.inl hi) hm
  ·have:g'=i:=by simpa [Value.ownBlock] using hi
   exact hgm (this▸hm)
 ·rcases hi with hi|hi|hi
  ·exact .inl hi
  ·exact .inr (.inl (.inl hi))
  ·have:g'=i:=by simpa [Value.ownBlock] using hi
   exact .inr (hlie i this)
 ·rcases hi with hi|hi
  ·exact .inl (.inl hi)
  ·have:g'=i:=by simpa [Value.ownBlock] using hi
   exact hlie i this
theorem BT {P:Program} {w:Ω} {s e:TypeId} (hs:P.underlying s=some (.pointer e)) {x y:Operand} {a:Addr} :
  (do eqGuard .neq s x y (.pointer (some a)) (.pointer none);binOp .neq s (.pointer (some a)) (.pointer none)).run P w=.ok (.bool true) w:=by
 simp [eqGuard,binOp,lZ,ZD hs]
theorem BH (h:bZ p w) (hl:p.tr.length<=100000) {who a b k q r s:Int} {av:O}:aC prog 214 #[rJ p who a b av,i64 k,i64 q,i64 r,i64 s] w λ_ w'=>
  ∃ tv',bZ (p.ev1 tv' ⟨k,q,r,s⟩) w'/\pO p (p.ev1 tv' ⟨k,q,r,s⟩) w w'/\Fr (mN p) w w'/\∀ i,mN (p.ev1 tv' ⟨k,q,r,s⟩) i->mN p i\/w.heap.size<=i:=by
 apply aGl;unfold JG;refine bx λb w1 hb x1=>?_;refine bA hb kD sH rfl ?_;refine V.ok (BT underlying48) (aE.2 ?_);refine bA hb kD sH rfl ?_;refine (SC (h.ext x1) hl (e:=⟨k,q,r,s⟩)).mono λ_ w2 ⟨tv',h2,s2,f2,t2⟩=>?_;exact ⟨tv',h2,(pO.of_ext x1).trans s2,(Fr.of_ext (S:=mN p) x1).trans f2 λ_ _ h=>h,λi hi=>(t2 i hi).imp id λh=>Nat.le_trans x1.size h⟩
theorem mW (h:bZ p w) (hl:p.tr.length<=100000) {who a b q r s:Int} {av:O}:aC prog 216 #[rJ p who a b av,i64 q,i64 r,i64 s] w λ_ w'=>
  ∃ tv',bZ (p.ev1 tv' ⟨2,q,r,s⟩) w'/\pO p (p.ev1 tv' ⟨2,q,r,s⟩) w w'/\Fr (mN p) w w'/\∀ i,mN (p.ev1 tv' ⟨2,q,r,s⟩) i->mN p i\/w.heap.size<=i:=by
 apply aGj;unfold JE;refine bx λb w1 hb x1=>?_;refine qO hb iE rfl ?_;refine (BH (h.ext x1) hl).mono λ_ w2 ⟨tv',h2,s2,f2,t2⟩=>?_;exact ⟨tv',h2,(pO.of_ext x1).trans s2,(Fr.of_ext (S:=mN p) x1).trans f2 λ_ _ h=>h,λi hi=>(t2 i hi).imp id λh=>Nat.le_trans x1.size h⟩
def aVp (a:PA) (who:Int):Bool:=decide (a.owner=-1)||decide (a.owner=who)||a.share
def wZ (l:List PA) (r who:Int):Int:=if 1<=r/\r<=l.length then (match l[r.toNat - 1]? with|some a=>if aVp a who then 36864 else 28420|none=>28417) else 28417
def iS (l:List PA) (r a n who:Int):Int:=if wZ l r who=36864 then (match l[r.toNat - 1]? with|some x=>if a < 0\/n < 0\/a > x.data.length\/n > x.data.length - a then 28418 else 36864|none=>28418) else wZ l r who
def mM (l:List PA) (r:Int):List Int:=match l[r.toNat - 1]? with|some x=>x.data|none=>[]
def GP (l:List PA) (r:Int) (d:List Int):List PA:=match l[r.toNat - 1]? with|some x=>l.set (r.toNat - 1) { x with data:=d }|none=>l
theorem OI (ar:List dB) (r who:Int):GG ar r who=wZ (ar.map pa) r who:=by
 unfold GG wZ;simp only [List.length_map,List.getElem?_map];cases ar[r.toNat - 1]?<;>rfl
theorem kH (ar:List dB) (r a n who:Int):DS ar r a n who=iS (ar.map pa) r a n who:=by
 unfold DS iS;rw [OI];simp only [List.getElem?_map];cases ar[r.toNat - 1]?<;>rfl
theorem kJ {ar:List dB} {r:Int} {k:Nat} {x:dB} (hk:ar[k]?=some x) (hr:r=(k:Int)+1):mM (ar.map pa) r=x.data:=by
 unfold mM;rw [List.getElem?_map,show r.toNat - 1=k by omega,hk];rfl
theorem map_set (ar:List dB) (k:Nat) (y:dB):(ar.set k y).map pa=(ar.map pa).set k (pa y):=by simp
theorem YF {ar:List dB} {r:Int} {k:Nat} {x:dB} (hk:ar[k]?=some x) (hr:r=(k:Int)+1) (d:List Int):(ar.set k { x with data:=d }).map pa=GP (ar.map pa) r d:=by
 unfold GP;rw [List.getElem?_map,show r.toNat - 1=k by omega,hk,map_set];rfl
abbrev DL:=Int × Int × PS
def rT (s:PS) (who r:Int):DL:=if wZ s.ar r who=36864 then (IntKind.i32.wrap (((mM s.ar r).length:Nat):Int),36864,s.ev [⟨2,r,0,0⟩]) else (0,wZ s.ar r who,s.ev [⟨2,r,0,0⟩])
def rU (s:PS) (who r a:Int):DL:=if iS s.ar r a 1 who=36864 then (IntKind.i32.wrap ((mM s.ar r).getD a.toNat 0),36864,s.ev [⟨2,r,a,1⟩]) else (0,iS s.ar r a 1 who,s.ev [⟨2,r,a,1⟩])
def rS (s:PS) (who r a z:Int):DL:=if iS s.ar r a 1 who=36864 then (0,36864,{ s.ev [⟨2,r,a,1⟩] with ar:=GP s.ar r ((mM s.ar r).set a.toNat (IntKind.u8.wrap z)) }) else (0,iS s.ar r a 1 who,s.ev [⟨2,r,a,1⟩])
def AY (p:RP) (w:Ω) (x:DL) (r:O) (w':Ω):Prop:=∃ p',r=.tuple #[i32 x.1,i64 x.2.1]/\p'.ps=x.2.2/\bZ p' w'/\pO p p' w w'
section
variable {p:RP} {w w':Ω} {av:O}
theorem pB {p1:RP} {w1:Ω} (h1:bZ p1 w1) (s1:pO p p1 w w1) (hx:aG w1 w') {x:DL} {r:O} (hr:r=.tuple #[i32 x.1,i64 x.2.1]) (hp:p1.ps=x.2.2):AY p w x r w':=
 ⟨p1,hr,hp,h1.ext hx,s1.trans (pO.of_ext hx)⟩
theorem bZ.nT (h:bZ p w):¬ mN p w.heap.size:=λht=>by have:=h.hi _ (.inr ht);omega
theorem bZ.nM (h:bZ p w):¬ kE p w.heap.size:=λht=>by have:=h.hi _ (.inl ht);omega
theorem mY (h:bZ p w) {who sa sb r a n:Int} :
  aC prog 218 #[rJ p who sa sb av,i64 r,i64 a,i64 n] w λq w'=>q=i64 (iS (p.ar.map pa) r a n who)/\aG w w':=by
 rw [<- kH];apply aGh;unfold JC;refine bx λb w1 hb1 x1=>?_;have D1:aG w1 w1.drew:=(aG.refl _).drew;refine aH.mk' (λw'=>aG w1 w') D1 ?_;refine dT (λw' hw=>hb1.ext hw) dW gI rfl ?_;refine ⟨.inl ⟨_,rfl⟩,?_⟩;refine dT (λw' hw=>(h.room.ext (x1.trans hw)).boxed) bY fA rfl ?_;refine dT (λw' hw=>hb1.ext hw) jN aL rfl ?_;refine (UX (h.h.ext (x1.trans D1))).mono λq w2 ⟨hq,x2⟩=>?_;exact ⟨D1.trans x2,hq,(x1.trans D1).trans x2⟩
theorem qI (h:bZ p w) {k:Nat} {x:dB} (hk:p.ar[k]?=some x) {who sa sb r:Int} (hr:r=(k:Int)+1) {a n:Nat} (hn:a+n<=x.data.length) :
  aC prog 222 #[rJ p who sa sb av,i64 r,i64 (a:Int),i64 (n:Int)] w λq w'=>(∀ w2,Fr (λi=>i < w.heap.size) w' w2->cU w2 q ((x.data.drop a).take n))/\aG w w':=by
 have hxl:=h.h.len x (List.mem_of_getElem? hk);apply aGd;unfold IX;refine bx λb w1 hb1 x1=>?_;refine bA hb1 dW gI rfl ⟨.inl ⟨_,rfl⟩,?_⟩;refine bA (h.room.ext x1).boxed bY fA rfl ?_;refine (qJ (h.h.ext x1) hk hr).mono λq w2 ⟨⟨v,hq,ho⟩,x2⟩=>?_;subst hq;refine cL.2 (cK.2 ?_);refine xL pD rfl (gS (bM ho)) λw3 hc x3=>?_;refine bA hc.boxed bL fS rfl (bW.2 ?_);rw [aX (by omega)];have ho3:=x3.own ho;obtain ⟨v',hr',hs⟩:=vV (P:=prog) underlying23 pW (aB.of_own ho3) (lo:=some (i64 (a:Int))) (hi':=some (i64 ((a:Int)+(n:Int)))) (a:=a) (b:=a+n) (.inr rfl) (.inr (by simp)) (by omega) hn;refine V.ok (hr' _) ⟨λw2 hf=>?_,(x1.trans x2).trans x3⟩;have:=hs w2 (aB.of_own (hf.own ho3 λi hi hlt=>by have:=(ho3.lt i hi).1;have:=x1.size;omega));have e:((x.data.drop a).take n).length=n:=by simp;omega
 unfold cU;rw [e];simp only [Nat.add_sub_cancel_left] at this;rw [List.map_take,List.map_drop];exact this
theorem NJ (h:bZ p w) (hl:p.tr.length<=100000) {who sa sb r:Int} (hav:aB w av 1 1 [i64 r]) :
  aC prog 188 #[rJ p who sa sb av] w λq w'=>AY p w (rT p.ps who r) q w':=by
 apply aGx;unfold JP;refine tH λw1 hb1 x1=>?_;refine bA hb1.boxed bR aZ rfl ?_;refine nO aM aL (hav.ext x1) (by omega) (by omega) rfl ?_;refine qO hb1.boxed iE rfl ?_;refine (mW (h.ext x1) hl (who:=who) (a:=sa) (b:=sb) (av:=av)).mono λ_ w2 ⟨tv',h2,s2,f2,_⟩=>?_;have hb2:=f2.blk hb1 h.nT;have S2:=(pO.of_ext (p:=p) x1).trans s2;have D2:aG w2 w2.drew:=(aG.refl _).drew;refine aH.mk' (λw'=>aG w2 w') D2 ?_;refine dT (λw' hw=>(hb2.ext hw).boxed) dW gI rfl ⟨.inl ⟨_,rfl⟩,?_⟩;refine dT (λw' hw=>(h2.room.ext hw).boxed) bY fA rfl ?_;refine dT (λw' hw=>(hb2.ext hw).boxed) jN aL rfl ?_;refine (DA (h2.h.ext D2)).mono λq w3 ⟨hq,x3⟩=>?_;subst hq;have X3:=D2.trans x3;have hce:GG p.ar r who=wZ p.ps.ar r who:=OI _ _ _;refine ⟨X3,aS.2 (aK (λhne=>?_) λhfine=>?_)⟩
 ·refine pB h2 S2 X3 (x:=rT p.ps who r) ?_ ?_<;>unfold rT<;>rw [if_neg (by rw [<- hce];exact hne)]
  ·rw [<- hce]
  ·rfl
 have hf:GG p.ar r who=36864:=Classical.not_not.1 hfine;obtain ⟨k,x,hk,hr,hm⟩:=sR hf;refine bA (hb2.ext X3).boxed dW gI rfl ⟨.inl ⟨_,rfl⟩,?_⟩;refine bA (h2.room.ext X3).boxed bY fA rfl ?_;refine (qJ (h2.h.ext X3) hk hr).mono λq w4 ⟨⟨v,hq,ho⟩,x4⟩=>?_;subst hq;refine cL.2 (cK.2 ?_);refine xL pD rfl (gS (bM ho)) λw5 hc x5=>?_;refine bA hc.boxed bL fS rfl (gG jQ (aB.of_own (x5.own ho)) ?_);refine V.ok (bE underlying3 underlying21) (pB h2 S2 ((X3.trans x4).trans x5) (x:=rT p.ps who r) ?_ ?_)<;>unfold rT<;>rw [if_pos (by rw [<- hce];exact hf)]
 ·rw [show mM p.ps.ar r=x.data from kJ hk hr]
 ·rfl
theorem aEo (h:bZ p w) (hl:p.tr.length<=100000) {who sa sb r a:Int} (hav:aB w av 1 2 [i64 r,i64 a]) :
  aC prog 189 #[rJ p who sa sb av] w λq w'=>AY p w (rU p.ps who r a) q w':=by
 apply aGw;unfold JO;refine tH λw1 hb1 x1=>?_;have D1:aG w1 w1.drew:=(aG.refl _).drew;have hav1:=hav.ext x1;refine aH.mk' (λw'=>aG w1 w') D1 ?_;refine dT (λw' hw=>(hb1.ext hw).boxed) bR aZ rfl ?_;refine gF aM aL hav1 (λw' hw=>hw) (by omega) (by omega) rfl ?_;refine dT (λw' hw=>(hb1.ext hw).boxed) bR aZ rfl ?_;refine gF aM aL hav1 (λw' hw=>hw) (by omega) (by omega) rfl ?_;refine qO (hb1.ext D1).boxed iE rfl ?_;have X1:=x1.trans D1;refine (mW (h.ext X1) hl (who:=who) (a:=sa) (b:=sb) (av:=av)).mono λ_ w2 ⟨tv',h2,s2,f2,_⟩=>?_;have hb2:=f2.blk (hb1.ext D1) h.nT;have S2:=(pO.of_ext (p:=p) X1).trans s2;refine qO hb2.boxed iE rfl ?_;refine (mY h2 (av:=av)).mono λq w3 ⟨hq,x3⟩=>?_;subst hq;have hce:DS p.ar r a 1 who=iS p.ps.ar r a 1 who:=kH _ _ _ _ _;refine aS.2 (aK (λhne=>?_) λhfine=>?_)
 ·refine pB h2 S2 x3 (x:=rU p.ps who r a) ?_ ?_<;>unfold rU<;>rw [if_neg (show ¬ iS p.ps.ar r a 1 who=36864 from hne)]
  iterate 2
   ·rfl
 have hf:DS p.ar r a 1 who=36864:=hce.trans (Classical.not_not.1 hfine);obtain ⟨k,x,hk,hr,hm,ha0,_,han⟩:=gW hf;obtain ⟨a,rfl⟩:∃ n:Nat,a=n:=⟨a.toNat,by omega⟩;refine bA (hb2.ext x3).boxed dW gI rfl ⟨.inl ⟨_,rfl⟩,?_⟩;refine bA (h2.room.ext x3).boxed bY fA rfl ?_;refine (RK (h2.h.ext x3) hk hr (a:=a) (by omega)).mono λq w4 ⟨hq,hw⟩=>?_;subst hq;have hw:=hw.symm;subst hw;refine cL.2 (cK.2 ?_);refine V.ok (bE underlying5 underlying21) (pB h2 S2 x3 (x:=rU p.ps who r a) ?_ ?_)<;>unfold rU<;>rw [if_pos (by rw [<- hce];exact hf)]
 ·rw [show mM p.ps.ar r=x.data from kJ hk hr];rfl
 ·rfl
theorem bZ.upd (h:bZ p w) {k:Nat} {x:dB} (hk:p.ar[k]?=some x) {d':List Int} (hd:d'.length<=64) (hok:qD d') (ho:w'.ownsRow p.B 5 1 x.dv d'.length (d'.map u8)) (hf:Fr (λi=>x.dv.ownBlock=some i) w w') :
  bZ { p with ar:=p.ar.set k { x with data:=d' } } w'/\∀ i,kE { p with ar:=p.ar.set k { x with data:=d' } } i->kE p i:=by
 have hxm:=List.mem_of_getElem? hk;have hkl:k < p.ar.length:=(List.getElem?_eq_some_iff.1 hk).1;have hlt:=h.lt
 have each:∀ a∈p.ar.set k { x with data:=d' },(∃ b∈p.ar,b.dv=a.dv)/\qD a.data:=by
  intro a ha;obtain ⟨i,hi⟩:=List.getElem?_of_mem ha;by_cases hik:k=i
  ·subst hik;rw [List.getElem?_set_self hkl] at hi;cases hi;exact ⟨⟨x,hxm,rfl⟩,hok⟩
  ·rw [List.getElem?_set_ne hik] at hi;exact ⟨⟨a,List.mem_of_getElem? hi,rfl⟩,h.bytes a (List.mem_of_getElem? hi)⟩
 have hxM:∀ i,x.dv.ownBlock=some i->kE p i:=λi hi=>.inr (.inr (.inr (.inl ⟨x,hxm,hi⟩)))
 have mu:∀ i,kE { p with ar:=p.ar.set k { x with data:=d' } } i->kE p i:=λi hi=>by
  rcases hi with hi|hi|hi|⟨a,ha,he⟩|hi
  ·exact .inl hi
  ·exact .inr (.inl hi)
  ·exact .inr (.inr (.inl hi))
  ·obtain ⟨⟨b,hb',e⟩,_⟩:=each a ha;exact .inr (.inr (.inr (.inl ⟨b,hb',e▸he⟩)))
  ·exact .inr (.inr (.inr (.inr hi)))
 refine ⟨⟨hf.seg h.room (λhe=>(h.fresh p.rb (.inl rfl)).2.1 x hxm he),h.h.upd hk hd ho hf,hf.own h.qp λi hi he=>h.np x hxm i he hi,hf.own h.qs λi hi he=>h.ns x hxm i he hi,h.lp,h.ls,h.ne,λa ha y hy=>?_,λa ha y hy=>?_,h.gp,h.gs,h.lt,λy hy=>⟨(h.fresh y hy).1,λa ha=>?_,(h.fresh y hy).2.2⟩,
  hf.blk h.tbox λhe=>h.tfr _ (.inl rfl) (hxM _ he),hf.own h.trow λi hi he=>h.tfr i (.inr hi) (hxM _ he),h.tne,λi hi hm=>h.tfr i hi (mu i hm),by simpa using h.two,h.sz,λa ha=>(each a ha).2⟩,mu⟩
 ·obtain ⟨⟨b,hb',e⟩,_⟩:=each a ha;exact h.np b hb' y (e▸hy)
 ·obtain ⟨⟨b,hb',e⟩,_⟩:=each a ha;exact h.ns b hb' y (e▸hy)
 ·obtain ⟨⟨b,hb',e⟩,_⟩:=each a ha;rw [<- e];exact (h.fresh y hy).2.1 b hb'
theorem QX {l:List Int} (h:qD l) {a:Nat} {z:Int} (hz:0<=z/\z < 256):qD (l.set a z):=λb hb=>by
 rcases List.mem_or_eq_of_mem_set hb with hb|rfl
 ·exact h b hb
 ·exact hz
theorem wrap_u8 (z:Int):0<=IntKind.u8.wrap z/\IntKind.u8.wrap z < 256:=by
 simp only [IntKind.wrap_u8];omega
theorem aDn (h:bZ p w) (hl:p.tr.length<=100000) {who sa sb r a z:Int} (hva:∀ w',Fr (λi=>kE p i\/mN p i) w w'->aB w' av 1 3 [i64 r,i64 a,i64 z]) :
  aC prog 190 #[rJ p who sa sb av] w λq w'=>AY p w (rS p.ps who r a z) q w':=by
 apply aGv;unfold JN;have hav:=hva w (Fr.refl _ _);refine tH λw1 hb1 x1=>?_;have D1:aG w1 w1.drew:=(aG.refl _).drew;have hav1:=hav.ext x1;refine aH.mk' (λw'=>aG w1 w') D1 ?_;refine dT (λw' hw=>(hb1.ext hw).boxed) bR aZ rfl ?_;refine gF aM aL hav1 (λw' hw=>hw) (by omega) (by omega) rfl ?_;refine dT (λw' hw=>(hb1.ext hw).boxed) bR aZ rfl ?_;refine gF aM aL hav1 (λw' hw=>hw) (by omega) (by omega) rfl ?_;refine qO (hb1.ext D1).boxed iE rfl ?_;have X1:=x1.trans D1;refine (mW (h.ext X1) hl (who:=who) (a:=sa) (b:=sb) (av:=av)).mono λ_ w2 ⟨tv',h2,s2,f2,_⟩=>?_;have hb2:=f2.blk (hb1.ext D1) h.nT;have S2:=(pO.of_ext (p:=p) X1).trans s2;refine qO hb2.boxed iE rfl ?_;refine (mY h2 (av:=av)).mono λq w3 ⟨hq,x3⟩=>?_;subst hq;have hce:DS p.ar r a 1 who=iS p.ps.ar r a 1 who:=kH _ _ _ _ _;refine aS.2 (aK (λhne=>?_) λhfine=>?_)
 ·refine pB h2 S2 x3 (x:=rS p.ps who r a z) ?_ ?_<;>unfold rS<;>rw [if_neg (show ¬ iS p.ps.ar r a 1 who=36864 from hne)]
  iterate 2
   ·rfl
 have hf:DS p.ar r a 1 who=36864:=hce.trans (Classical.not_not.1 hfine);obtain ⟨k,x,hk,hr,hm,ha0,_,han⟩:=gW hf;obtain ⟨a,rfl⟩:∃ n:Nat,a=n:=⟨a.toNat,by omega⟩;have hxm:=List.mem_of_getElem? hk;have D3:aG w3 w3.drew:=(aG.refl _).drew;have h3:=h2.ext (x3.trans D3);have hxM:∀ i,x.dv.ownBlock=some i->kE p i:=λi hi=>.inr (.inr (.inr (.inl ⟨x,hxm,hi⟩)));have hnb:x.dv.ownBlock≠some w.heap.size:=λhe=>h.nM (hxM _ he);have hnr:x.dv.ownBlock≠some p.rb:=(h.fresh p.rb (.inl rfl)).2.1 x hxm;have S3:=S2.trans (pO.of_ext x3);refine aH.mk' (λw'=>Fr (λi=>x.dv.ownBlock=some i) w3 w') (Fr.of_ext D3) ?_;refine dT (λw' hw=>(hw.blk (hb2.ext x3) hnb).boxed) dW gI rfl ⟨.inl ⟨_,rfl⟩,?_⟩;refine dT (λw' hw=>(hw.seg (h2.room.ext x3) hnr).boxed) bY fA rfl ?_;refine dT (λw' hw=>(hw.blk (hb2.ext x3) hnb).boxed) bR aZ rfl ?_;have mono:∀ w',Fr (λi=>x.dv.ownBlock=some i) w3 w'->Fr (λi=>kE p i\/mN p i) w w':=λw' hf=>S3.fr.trans hf λi _ hi=>.inl (hxM i hi);refine eY aM aL hav (λw' hw=>hva w' (mono w' hw)) (by omega) (by omega) rfl ?_;refine aD.ok (λw' _=>bE underlying3 underlying5) ?_;refine (QR h3.h hk hr (a:=a) (by omega)).mono λ_ w4 ⟨ho4,hg4⟩=>?_;have f4:Fr (λi=>x.dv.ownBlock=some i) w3.drew w4:=Fr.of_grown hg4 λi hi=>hi;have f34:Fr (λi=>x.dv.ownBlock=some i) w3 w4:=(Fr.of_ext (S:=λi=>x.dv.ownBlock=some i) D3).trans f4 λ_ _ h=>h
 have hxl:=h.h.len x hxm;obtain ⟨h5,mu5⟩:=h3.upd hk (d':=x.data.set a (IntKind.u8.wrap z)) (by simpa using hxl) (QX (h.bytes x hxm) (wrap_u8 z)) (by simpa using ho4) f4;refine ⟨f34,_,?_,?_,h5,S3.trans ⟨rfl,rfl,rfl,rfl,rfl,rfl,rfl,λi hi=>?_,f34.mono λi hi=>.inl (hxM i hi)⟩⟩
 ·unfold rS;rw [if_pos (by rw [<- hce];exact hf)]
 ·unfold rS;rw [if_pos (by rw [<- hce];exact hf)];rw [show mM p.ps.ar r=x.data from kJ hk hr,Int.toNat_natCast];show (⟨p.size,(p.ar.set k { x with data:=x.data.set a (IntKind.u8.wrap z) }).map pa,p.tp,p.ts,p.tr++[⟨2,r,a,1⟩]⟩:PS)=_;rw [YF hk hr];rfl
 ·rcases hi with hi|hi
  ·exact .inl (mu5 i hi)
  ·exact .inr (.inl hi)
end
def kX (s:PS) (who r1 a1 r2 a2 n:Int):Int:=if iS s.ar r1 a1 n who=36864 then iS s.ar r2 a2 n who else iS s.ar r1 a1 n who
def PS.ev2 (s:PS) (r1 a1 r2 a2 n:Int):PS:=(s.ev [⟨2,r1,a1,n⟩]).ev [⟨2,r2,a2,n⟩]
def aBd (l:List PA) (r1 a1 r2 a2 n:Int):List Int:=(mM l r1).take a1.toNat++((mM l r2).drop a2.toNat).take n.toNat++(mM l r1).drop (a1.toNat+n.toNat)
def mR (s:PS) (who r1 a1 r2 a2 n:Int):DL:=if kX s who r1 a1 r2 a2 n=36864 then (0,36864,{ s.ev2 r1 a1 r2 a2 n with ar:=GP s.ar r1 (aBd s.ar r1 a1 r2 a2 n) }) else (0,kX s who r1 a1 r2 a2 n,s.ev2 r1 a1 r2 a2 n)
theorem DD {s:PS} {who r1 a1 r2 a2 n:Int} (h:kX s who r1 a1 r2 a2 n=36864):iS s.ar r1 a1 n who=36864/\iS s.ar r2 a2 n who=36864:=by
 unfold kX at h;by_cases h1:iS s.ar r1 a1 n who=36864
 ·rw [if_pos h1] at h;exact ⟨h1,h⟩
 ·rw [if_neg h1] at h;exact absurd h h1
section
variable {p:RP} {w w':Ω} {av:O}
theorem IG (h:bZ p w) (hl:p.tr.length<=99000) {who sa sb r1 a1 r2 a2 n:Int} (hva:∀ w',Fr (λi=>kE p i\/mN p i) w w'->aB w' av 1 5 [i64 r1,i64 a1,i64 r2,i64 a2,i64 n]) :
  aC prog 221 #[rJ p who sa sb av] w λq w'=>q=i64 (kX p.ps who r1 a1 r2 a2 n)/\∃ tv1 tv2,bZ ((p.ev1 tv1 ⟨2,r1,a1,n⟩).ev1 tv2 ⟨2,r2,a2,n⟩) w'/\pO p ((p.ev1 tv1 ⟨2,r1,a1,n⟩).ev1 tv2 ⟨2,r2,a2,n⟩) w w'/\Fr (mN p) w w':=by
 apply aGe;unfold IY;have hav:=hva w (Fr.refl _ _);refine tH λw1 hb1 x1=>?_;refine bA hb1.boxed bR aZ rfl ?_;refine nO aM aL (hav.ext x1) (by omega) (by omega) rfl ?_;have D1:aG w1 w1.drew:=(aG.refl _).drew;have hF:∀ w',Fr (mN p) w1 w'->aB w' av 1 5 [i64 r1,i64 a1,i64 r2,i64 a2,i64 n]:=λw' hf=>hva w' ((Fr.of_ext (S:=λi=>kE p i\/mN p i) x1).trans hf λ_ _ h=>.inr h);have hB:∀ w',Fr (mN p) w1 w'->gD w' w.heap.size (rJ p who sa sb av).cells.toList:=λw' hf=>(hf.blk hb1 h.nT).boxed;refine aH.mk' (λw'=>Fr (mN p) w1 w') (Fr.of_ext D1) ?_;refine yA hB iE rfl ?_;refine eY aM aL hav hF (by omega) (by omega) rfl ?_;refine eY aM aL hav hF (by omega) (by omega) rfl ?_;have X1:=x1.trans D1;refine (mW (h.ext X1) (by omega) (who:=who) (a:=sa) (b:=sb) (av:=av)).mono λ_ w2 ⟨tv1,h2,s2,f2,t2⟩=>?_;have F2:Fr (mN p) w1 w2:=(Fr.of_ext (S:=mN p) D1).trans f2 λ_ _ h=>h;refine ⟨F2,?_⟩;have D2:aG w2 w2.drew:=(aG.refl _).drew;have F2d:Fr (mN p) w1 w2.drew:=F2.trans (Fr.of_ext (S:=mN p) D2) λ_ _ h=>h;refine aH.mk' (λw'=>Fr (mN p) w1 w') F2d ?_;refine yA hB iE rfl ?_;refine eY aM aL hav hF (by omega) (by omega) rfl ?_;refine eY aM aL hav hF (by omega) (by omega) rfl ?_;refine (mW (h2.ext D2) (by show (p.tr++[_]).length<=_;simp;omega) (who:=who) (a:=sa) (b:=sb) (av:=av)).mono λ_ w3 ⟨tv2,h3,s3,f3,t3⟩=>?_
 have s12:=X1.size
 have F3:Fr (mN p) w1 w3:=F2d.trans f3 λi hi hs=>by
  rcases t2 i hs with h'|h'
  ·exact h'
  ·have:=D1.size;omega
 have S3:=((pO.of_ext (p:=p) X1).trans s2).trans ((pO.of_ext D2).trans s3);refine ⟨F3,?_⟩;have D3:aG w3 w3.drew:=(aG.refl _).drew;have G3:∀ {w'},aG w3 w'->Fr (mN p) w1 w':=λhx=>F3.trans (Fr.of_ext (S:=mN p) hx) λ_ _ h=>h
 have fin:∀ {w'},aG w3 w'->∃ tv1 tv2,bZ ((p.ev1 tv1 ⟨2,r1,a1,n⟩).ev1 tv2 ⟨2,r2,a2,n⟩) w'/\pO p ((p.ev1 tv1 ⟨2,r1,a1,n⟩).ev1 tv2 ⟨2,r2,a2,n⟩) w w'/\Fr (mN p) w w':=λhx=>
  ⟨tv1,tv2,h3.ext hx,S3.trans (pO.of_ext hx),(Fr.of_ext (S:=mN p) x1).trans (G3 hx) λ_ _ h=>h⟩
 refine aH.mk' (λw'=>Fr (mN p) w1 w') (G3 D3) ?_;refine yA hB iE rfl ?_;refine eY aM aL hav hF (by omega) (by omega) rfl ?_;refine eY aM aL hav hF (by omega) (by omega) rfl ?_;refine (mY (h3.ext D3) (who:=who) (sa:=sa) (sb:=sb) (av:=av)).mono λq w4 ⟨hq,x4⟩=>?_;subst hq;have X4:=D3.trans x4;refine ⟨G3 X4,aS.2 (aK (λhne=>⟨?_,fin X4⟩) λhfine=>?_)⟩
 ·unfold kX;rw [if_neg (show ¬ iS p.ps.ar r1 a1 n who=36864 from hne)];rfl
 have D4:aG w4 w4.drew:=(aG.refl _).drew;have X4':=X4.trans D4;refine aH.mk' (λw'=>Fr (mN p) w1 w') (G3 X4') ?_;refine yA hB iE rfl ?_;refine eY aM aL hav hF (by omega) (by omega) rfl ?_;refine eY aM aL hav hF (by omega) (by omega) rfl ?_;refine (mY (h3.ext X4') (who:=who) (sa:=sa) (sb:=sb) (av:=av)).mono λq w5 ⟨hq,x5⟩=>?_;refine ⟨G3 (X4'.trans x5),?_,fin (X4'.trans x5)⟩;rw [hq];unfold kX;rw [if_pos (show iS p.ps.ar r1 a1 n who=36864 from Classical.not_not.1 hfine)];rfl
theorem sA {l:List Int} (h:qD l) (n:Nat):qD (l.take n):=λb hb=>h b (List.mem_of_mem_take hb)
theorem sB {l:List Int} (h:qD l) (n:Nat):qD (l.drop n):=λb hb=>h b (List.mem_of_mem_drop hb)
theorem yU {l:List Int} (h:qD l) (i:Nat):0<=l.getD i 0/\l.getD i 0 < 256:=by
 by_cases hi:i < l.length
 ·rw [List.getD_eq_getElem?_getD,List.getElem?_eq_getElem hi];exact h _ (List.getElem_mem hi)
 ·rw [List.getD_eq_getElem?_getD,List.getElem?_eq_none (by omega)];simp
theorem aBe (h:bZ p w) (hl:p.tr.length<=99000) {who sa sb r1 a1 r2 a2 n:Int} (hva:∀ w',Fr (λi=>kE p i\/mN p i) w w'->aB w' av 1 5 [i64 r1,i64 a1,i64 r2,i64 a2,i64 n]) :
  aC prog 191 #[rJ p who sa sb av] w λq w'=>AY p w (mR p.ps who r1 a1 r2 a2 n) q w':=by
 apply aGu;unfold JM;have hav:=hva w (Fr.refl _ _);refine tH λw1 hb1 x1=>?_;refine qO hb1.boxed iE rfl ?_;refine (IG (h.ext x1) hl (sa:=sa) (sb:=sb) (who:=who) (λw' hf=>hva w' ((Fr.of_ext (S:=λi=>kE p i\/mN p i) x1).trans hf λ_ _ h=>h))).mono λq w2 ⟨hq,tv1,tv2,h2,s2,f2⟩=>?_;subst hq;have hb2:=f2.blk hb1 h.nT;have S2:=(pO.of_ext (p:=p) x1).trans s2;refine aS.2 (aK (λhne=>?_) λhfine=>?_)
 ·refine pB h2 S2 (aG.refl _) (x:=mR p.ps who r1 a1 r2 a2 n) ?_ ?_<;>unfold mR<;>rw [if_neg hne]
  ·rfl
 have hfine:kX p.ps who r1 a1 r2 a2 n=36864:=Classical.not_not.1 hfine;obtain ⟨hf1,hf2⟩:=DD hfine;obtain ⟨k1,y1,hk1,hr1,hm1,ha1,hn0,hn1⟩:=gW ((kH _ _ _ _ _).trans hf1);obtain ⟨k2,y2,hk2,hr2,hm2,ha2,_,hn2⟩:=gW ((kH _ _ _ _ _).trans hf2);obtain ⟨n,rfl⟩:∃ m:Nat,n=m:=⟨n.toNat,by omega⟩;obtain ⟨a,rfl⟩:∃ m:Nat,a1=m:=⟨a1.toNat,by omega⟩;obtain ⟨c,rfl⟩:∃ m:Nat,a2=m:=⟨a2.toNat,by omega⟩;have hxm:=List.mem_of_getElem? hk1;have hym:=List.mem_of_getElem? hk2;have hxl:=h.h.len y1 hxm;have hyl:=h.h.len y2 hym;have hxM:∀ i,y1.dv.ownBlock=some i->kE p i:=λi hi=>.inr (.inr (.inr (.inl ⟨y1,hxm,hi⟩)));have hob:∀ i,y1.dv.ownBlock=some i->i < w.heap.size:=λi hi=>h.hi i (.inl (hxM i hi));have hnb:y1.dv.ownBlock≠some w.heap.size:=λhe=>by have:=hob _ he;omega
 have hav2:=hva w2 S2.fr;refine bA hb2.boxed bR aZ rfl ?_;have D2:aG w2 w2.drew:=(aG.refl _).drew;refine aH.mk' (λw'=>aG w2 w') D2 ?_;refine yA (λw' hw=>(hb2.ext hw).boxed) iE rfl ?_;refine gF aM aL hav2 (λw' hw=>hw) (by omega) (by omega) rfl ?_;refine gF aM aL hav2 (λw' hw=>hw) (by omega) (by omega) rfl ?_;refine gF aM aL hav2 (λw' hw=>hw) (by omega) (by omega) rfl ?_;refine (qI (h2.ext D2) hk2 (who:=who) (sa:=sa) (sb:=sb) (av:=av) hr2 (a:=c) (n:=n) (by omega)).mono λsv w3 ⟨hsv,x3⟩=>?_;have x23:=D2.trans x3;refine ⟨x23,?_⟩;have h3:=h2.ext x23;have S3:=S2.trans (pO.of_ext x23);have hSl:((y2.data.drop c).take n).length=n:=by simp;omega
 have hS3:=hsv w3 (Fr.refl _ _);have s2z:=S2.fr.size;have okS:qD ((y2.data.drop c).take n):=sA (sB (h.bytes y2 hym) c) n;refine tW jQ hS3 ?_
 refine ⟨λv w'=>∃ (i:Nat) (cur:List Int),v=i64 i/\i<=n/\sW y1.data ((y2.data.drop c).take n) a i cur/\qD cur/\bZ { ((p.ev1 tv1 ⟨2,r1,a,n⟩).ev1 tv2 ⟨2,r2,c,n⟩) with ar:=p.ar.set k1 { y1 with data:=cur } } w'/\(∀ i,kE { ((p.ev1 tv1 ⟨2,r1,a,n⟩).ev1 tv2 ⟨2,r2,c,n⟩) with ar:=p.ar.set k1 { y1 with data:=cur } } i->kE p i)/\Fr (λi=>y1.dv.ownBlock=some i) w3 w',
  λv _=>n - (RowKit.intOf v).toNat,⟨0,y1.data,rfl,Nat.zero_le _,⟨rfl,λj=>by rw [if_neg (by omega)]⟩,h.bytes y1 hxm,(h3.upd hk1 hxl (h.bytes y1 hxm) (h3.h.data y1 hxm) (Fr.refl _ _)).1,(h3.upd hk1 hxl (h.bytes y1 hxm) (h3.h.data y1 hxm) (Fr.refl _ _)).2,Fr.refl _ _⟩,?_⟩
 rintro _ w4 ⟨i,cur,rfl,hi,hcur,hok,h4,mu4,f4⟩ _;have hcl:=hcur.1;have F4:Fr (λi=>kE p i\/mN p i) w w4:=S3.fr.trans f4 λi _ hi=>.inl (hxM i hi);rw [hSl];have hkl:k1 < p.ar.length:=(List.getElem?_eq_some_iff.1 hk1).1;have hk4:(p.ar.set k1 { y1 with data:=cur })[k1]?=some { y1 with data:=cur }:=List.getElem?_set_self hkl;refine aV.2 (aK (λhlt2=>?_) λhge=>?_)
 ·have hi':i < n:=by omega
  have hS4:=hsv w4 (f4.mono λj hj=>by have:=hob j hj;have:=D2.size;omega);have hS4':aB w4 sv 1 n (((y2.data.drop c).take n).map u8):=by have:=hS4;unfold cU at this;rw [hSl] at this;exact this
  refine nO jQ vZ hS4' (by omega) (by omega) (tE (by omega)) ?_;have hb4:bD w4 w.heap.size _ _:=f4.blk (hb2.ext x23) hnb;have D4:aG w4 w4.drew:=(aG.refl _).drew;have G:∀ w',Fr (λi=>y1.dv.ownBlock=some i) w4 w'->Fr (λi=>kE p i\/mN p i) w w':=λw' hw=>F4.trans hw λi _ hi=>.inl (hxM i hi);have hnr:y1.dv.ownBlock≠some p.rb:=(h.fresh p.rb (.inl rfl)).2.1 y1 hxm;refine aH.mk' (λw'=>Fr (λi=>y1.dv.ownBlock=some i) w4 w') (Fr.of_ext D4) ?_;refine dT (λw' hw=>(hw.blk hb4 hnb).boxed) dW gI rfl ⟨.inl ⟨_,rfl⟩,?_⟩;refine dT (λw' hw=>(hw.seg h4.room hnr).boxed) bY fA rfl ?_;refine eY aM aL hav (λw' hw=>hva w' (G w' hw)) (by omega) (by omega) rfl ?_;refine eY aM aL hav (λw' hw=>hva w' (G w' hw)) (by omega) (by omega) rfl ?_;refine aD.ok (λw' _=>nW) ?_;rw [show IntKind.i64.wrap ((a:Int)+(i:Int))=((a+i:Nat):Int) from by rw [aX (by omega)];omega];refine (QR (h4.ext D4).h hk4 hr1 (a:=a+i) (by show a+i < cur.length;omega)).mono λ_ w5 ⟨ho6,hg6⟩=>?_;have f5:Fr (λi=>y1.dv.ownBlock=some i) w4.drew w5:=Fr.of_grown hg6 λk hk=>hk;have f45:Fr (λi=>y1.dv.ownBlock=some i) w4 w5:=(Fr.of_ext (S:=λi=>y1.dv.ownBlock=some i) D4).trans f5 λ_ _ h=>h;refine ⟨f45,bW.2 ?_⟩;rw [aX (by omega),dF];have hok5:qD (cur.set (a+i) (((y2.data.drop c).take n).getD i 0)):=QX hok (yU okS i)
  have h5:=(h4.ext D4).upd hk4 (d':=cur.set (a+i) (((y2.data.drop c).take n).getD i 0)) (by simp;omega) hok5 (by simpa using ho6) f5;simp only [List.set_set] at h5;exact ⟨⟨i+1,_,rfl,by omega,hcur.step (by omega) (by omega),hok5,h5.1,λi hi=>mu4 i (h5.2 i hi),f4.trans f45 λ_ _ h=>h⟩,by simp only [aT];omega⟩
 ·have hin:i=n:=by omega
  subst hin;have h9:sW y1.data ((y2.data.drop c).take i) a ((y2.data.drop c).take i).length cur:=by rw [hSl];exact hcur
  have hd:=h9.done (by omega);rw [hSl] at hd;refine ⟨_,?_,?_,h4,S3.trans ⟨rfl,rfl,rfl,rfl,rfl,rfl,rfl,λj hj=>?_,f4.mono λj hj=>.inl (hxM j hj)⟩⟩
  ·unfold mR;rw [if_pos hfine]
  ·unfold mR;rw [if_pos hfine]
   have e1:aBd p.ps.ar r1 (a:Int) r2 (c:Int) (i:Int)=cur:=by
    unfold aBd;rw [show mM p.ps.ar r1=y1.data from kJ hk1 hr1,show mM p.ps.ar r2=y2.data from kJ hk2 hr2,hd];simp only [Int.toNat_natCast]
   rw [e1];show (⟨p.size,(p.ar.set k1 { y1 with data:=cur }).map pa,p.tp,p.ts,(p.tr++[_])++[_]⟩:PS)=_;rw [YF hk1 hr1];rfl
  ·rcases hj with hj|hj
   ·exact .inl (mu4 j hj)
   ·exact .inr (.inl hj)
end
def aLg (a b:Int):Int:=IntKind.i32.wrap ((IntKind.u32.wrap a).fdiv (2 ^ (min (IntKind.i32.wrap (BitVec.ofInt IntKind.i32.bits b &&& BitVec.ofInt IntKind.i32.bits 31).toNat).toNat IntKind.u32.bits)))
theorem YE (a b:Int) (w:Ω):aC prog 170 #[i32 a,i32 b] w λr w'=>r=i32 (aLg a b)/\w'=w:=aHn (by
 unfold KF;exact V.ok (bE underlying21 underlying201) (V.ok tO (V.ok (BP (aTq b)) (V.ok (bE underlying201 underlying21) ⟨rfl,rfl⟩))))
def wM (a:Int):Int:=aLg (IntKind.i32.wrap (BitVec.ofInt IntKind.i32.bits a ||| BitVec.ofInt IntKind.i32.bits (IntKind.i32.wrap (0 - a))).toNat) 31
theorem DQ (a:Int) (w:Ω):aC prog 177 #[i32 a] w λr w'=>r=i32 (wM a)/\w'=w:=by
 apply aHg;unfold JY;refine V.ok QJ (V.ok YS ?_);exact (YE _ _ w).mono λ_ _ h=>h
theorem UP:∀ n:Fin 256,wM (n.val:Int)=if n.val=0 then 0 else 1:=by decide +kernel
theorem YD {z:Int} (h:0<=z/\z < 256):wM z=if z=0 then 0 else 1:=by
 obtain ⟨n,rfl⟩:∃ n:Nat,z=n:=⟨z.toNat,by omega⟩;have:=UP ⟨n,by omega⟩;simp only at this;rw [this];by_cases hn:n=0
 ·subst hn;rfl
 ·rw [if_neg hn,if_neg (by omega)]
def UK (x y:Int):Int:=IntKind.u8.wrap (BitVec.ofInt IntKind.u8.bits x ^^^ BitVec.ofInt IntKind.u8.bits y).toNat
def orF (x y:Int):Int:=IntKind.u8.wrap (BitVec.ofInt IntKind.u8.bits x ||| BitVec.ofInt IntKind.u8.bits y).toNat
theorem pQ {x:Int} (h:0<=x/\x < 256):(BitVec.ofInt IntKind.u8.bits x).toNat=x.toNat:=by
 rw [BitVec.toNat_ofInt];show (x % ((2 ^ 8:Nat):Int)).toNat=x.toNat;rw [Int.emod_eq_of_lt h.1 (by simpa using h.2)]
theorem aJm {n:Nat} (h:n < 256):IntKind.u8.wrap (n:Int)=n:=by
 simp only [IntKind.wrap_u8];omega
theorem aDc {x y:Int} (hx:0<=x/\x < 256) (hy:0<=y/\y < 256):(0<=UK x y/\UK x y < 256)/\(UK x y=0↔x=y):=by
 have hlt:x.toNat ^^^ y.toNat < 256:=Nat.xor_lt_two_pow (n:=8) (by omega) (by omega)
 have e:UK x y=((x.toNat ^^^ y.toNat:Nat):Int):=by
  unfold UK;rw [BitVec.toNat_xor,pQ hx,pQ hy,aJm hlt]
 rw [e];refine ⟨by omega,⟨λh=>?_,λh=>by subst h;simp⟩⟩;have h0:x.toNat ^^^ y.toNat=0:=by omega
 have:x.toNat=y.toNat:=by
  apply Nat.eq_of_testBit_eq;intro i;have:=congrArg (λn=>n.testBit i) h0;simp only [Nat.testBit_xor,Nat.zero_testBit] at this;cases hx':x.toNat.testBit i<;>cases hy':y.toNat.testBit i<;>simp [hx',hy'] at this ⊢
 omega
theorem aMg {x y:Int} (hx:0<=x/\x < 256) (hy:0<=y/\y < 256):(0<=orF x y/\orF x y < 256)/\(orF x y=0↔x=0/\y=0):=by
 have hlt:x.toNat ||| y.toNat < 256:=Nat.or_lt_two_pow (n:=8) (by omega) (by omega)
 have e:orF x y=((x.toNat ||| y.toNat:Nat):Int):=by
  unfold orF;rw [BitVec.toNat_or,pQ hx,pQ hy,aJm hlt]
 rw [e];have h1:x.toNat<=x.toNat ||| y.toNat:=Nat.left_le_or;have h2:y.toNat<=x.toNat ||| y.toNat:=Nat.right_le_or;refine ⟨by omega,⟨λh=>by omega,λ⟨h,h'⟩=>by subst h;subst h';rfl⟩⟩
theorem UU {w:Ω} {v1 v2:O} {l1 l2:List Int} (h1:cU w v1 l1) (h2:cU w v2 l2) (hl:l1.length<=1000) (ho1:qD l1) (ho2:qD l2) (he:l1.length=l2.length):aC prog 223 #[v1,v2] w λr w'=>r=i32 (if l1=l2 then 1 else 0)/\aG w w':=by
 apply aGc;unfold IW;refine gG jQ h1 ?_;refine gG jQ h2 ?_;refine aS.2 (aK (λhn=>absurd (by rw [he]) hn) λ_=>?_);refine gG jQ h1 ?_;refine ⟨λv v' w'=>∃ (z:Int) (i:Nat),v=u8 z/\v'=i64 i/\i<=l1.length/\(0<=z/\z < 256)/\(z=0↔∀ j,j < i->l1.getD j 0=l2.getD j 0)/\aG w w',λ_ v _=>l1.length - (RowKit.intOf v).toNat,⟨0,0,rfl,rfl,Nat.zero_le _,by omega,⟨λ_ j hj=>absurd hj (Nat.not_lt_zero _),λ_=>rfl⟩,aG.refl _⟩,?_⟩;rintro _ _ w1 ⟨z,i,rfl,rfl,hi,hz,hzi,x1⟩ _;refine aV.2 (aK (λhlt=>?_) λhge=>?_)
 ·have D1:aG w1 w1.drew:=(aG.refl _).drew;refine aH.mk' (λw'=>w'=w1.drew) rfl ?_;refine gF jQ vZ ((h1.ext x1).ext D1) (λw' hw=>hw▸aG.refl _) (by omega) (by omega) (tE (by omega)) ?_;refine gF jQ vZ ((h2.ext x1).ext D1) (λw' hw=>hw▸aG.refl _) (by omega) (by omega) (tE (by omega)) ?_;refine aD.ok (λw' _=>QH) ?_;refine aD.ok (λw' _=>YS) ?_;refine mH (by omega) ?_;obtain ⟨hx1,hx2⟩:=aDc (yU ho1 i) (yU ho2 i);obtain ⟨hor1,hor2⟩:=aMg hz hx1;refine ⟨⟨orF z (UK (l1.getD i 0) (l2.getD i 0)),i+1,rfl,rfl,by omega,hor1,?_,x1.trans D1⟩,by simp only [aT];omega⟩;rw [hor2,hx2,hzi];constructor
  ·rintro ⟨ha,hb⟩ j hj;by_cases hji:j=i
   ·subst hji;exact hb
   ·exact ha j (by omega)
  ·intro ha;exact ⟨λj hj=>ha j (by omega),ha i (by omega)⟩
 ·refine V.ok (bE underlying5 underlying21) ?_;refine (DQ (IntKind.i32.wrap z) w1).mono λr w2 ⟨hr,hw⟩=>?_;subst hr;have hw:=hw.symm;subst hw;have hwz:IntKind.i32.wrap z=z:=by simp only [IntKind.wrap_i32];omega
  rw [hwz,YD hz];have hil:i=l1.length:=by omega
  have hiff:l1=l2↔z=0:=by
   rw [hzi,hil];constructor
   ·intro h j _;rw [h]
   ·intro h;apply List.ext_getElem?;intro j;by_cases hj:j < l1.length
    ·have:=h j hj;rw [List.getD_eq_getElem?_getD,List.getD_eq_getElem?_getD,List.getElem?_eq_getElem hj,List.getElem?_eq_getElem (by omega)] at this;rw [List.getElem?_eq_getElem hj,List.getElem?_eq_getElem (by omega)];simpa using this
    ·rw [List.getElem?_eq_none (by omega),List.getElem?_eq_none (by omega)]
  refine jV.2 ⟨?_,x1⟩;by_cases hz0:z=0
  ·rw [if_pos hz0,if_pos (hiff.2 hz0)];rfl
  ·rw [if_neg hz0,if_neg (λh=>hz0 (hiff.1 h))];rfl
def vW (l:List PA) (r a n:Int):List Int:=((mM l r).drop a.toNat).take n.toNat
def mI (s:PS) (who r1 a1 r2 a2 n:Int):DL:=if kX s who r1 a1 r2 a2 n=36864 then (if vW s.ar r1 a1 n=vW s.ar r2 a2 n then 1 else 0,36864,s.ev2 r1 a1 r2 a2 n) else (0,kX s who r1 a1 r2 a2 n,s.ev2 r1 a1 r2 a2 n)
section
variable {p:RP} {w w':Ω} {av:O}
theorem YI (h:bZ p w) (hl:p.tr.length<=99000) {who sa sb r1 a1 r2 a2 n:Int} (hva:∀ w',Fr (λi=>kE p i\/mN p i) w w'->aB w' av 1 5 [i64 r1,i64 a1,i64 r2,i64 a2,i64 n]) :
  aC prog 192 #[rJ p who sa sb av] w λq w'=>AY p w (mI p.ps who r1 a1 r2 a2 n) q w':=by
 apply aGt;unfold JL;refine tH λw1 hb1 x1=>?_;refine qO hb1.boxed iE rfl ?_;refine (IG (h.ext x1) hl (sa:=sa) (sb:=sb) (who:=who) (λw' hf=>hva w' ((Fr.of_ext (S:=λi=>kE p i\/mN p i) x1).trans hf λ_ _ h=>h))).mono λq w2 ⟨hq,tv1,tv2,h2,s2,f2⟩=>?_;subst hq;have hb2:=f2.blk hb1 h.nT;have S2:=(pO.of_ext (p:=p) x1).trans s2;refine aS.2 (aK (λhne=>?_) λhfine=>?_)
 ·refine pB h2 S2 (aG.refl _) (x:=mI p.ps who r1 a1 r2 a2 n) ?_ ?_<;>unfold mI<;>rw [if_neg hne]
  ·rfl
 have hfine:kX p.ps who r1 a1 r2 a2 n=36864:=Classical.not_not.1 hfine;obtain ⟨hf1,hf2⟩:=DD hfine;obtain ⟨k1,y1,hk1,hr1,hm1,ha1,hn0,hn1⟩:=gW ((kH _ _ _ _ _).trans hf1);obtain ⟨k2,y2,hk2,hr2,hm2,ha2,_,hn2⟩:=gW ((kH _ _ _ _ _).trans hf2);obtain ⟨n,rfl⟩:∃ m:Nat,n=m:=⟨n.toNat,by omega⟩;obtain ⟨a,rfl⟩:∃ m:Nat,a1=m:=⟨a1.toNat,by omega⟩;obtain ⟨c,rfl⟩:∃ m:Nat,a2=m:=⟨a2.toNat,by omega⟩;have hxm:=List.mem_of_getElem? hk1;have hym:=List.mem_of_getElem? hk2;have hxl:=h.h.len y1 hxm;have hav2:=hva w2 S2.fr;refine bA hb2.boxed bR aZ rfl ?_;have D2:aG w2 w2.drew:=(aG.refl _).drew;refine aH.mk' (λw'=>aG w2 w') D2 ?_;refine yA (λw' hw=>(hb2.ext hw).boxed) iE rfl ?_;refine gF aM aL hav2 (λw' hw=>hw) (by omega) (by omega) rfl ?_;refine gF aM aL hav2 (λw' hw=>hw) (by omega) (by omega) rfl ?_;refine gF aM aL hav2 (λw' hw=>hw) (by omega) (by omega) rfl ?_;refine yA (λw' hw=>(hb2.ext hw).boxed) iE rfl ?_;refine gF aM aL hav2 (λw' hw=>hw) (by omega) (by omega) rfl ?_;refine gF aM aL hav2 (λw' hw=>hw) (by omega) (by omega) rfl ?_;refine gF aM aL hav2 (λw' hw=>hw) (by omega) (by omega) rfl ?_;refine (qI (h2.ext D2) hk1 (who:=who) (sa:=sa) (sb:=sb) (av:=av) hr1 (a:=a) (n:=n) (by omega)).mono λv1 w3 ⟨hv1,x3⟩=>?_;have X3:=D2.trans x3;refine ⟨X3,?_⟩;refine (qI (h2.ext X3) hk2 (who:=who) (sa:=sa) (sb:=sb) (av:=av) hr2 (a:=c) (n:=n) (by omega)).mono λv2 w4 ⟨hv2,x4⟩=>?_
 have X4:=X3.trans x4;refine ⟨X4,?_⟩;refine (UU (hv1 w4 (Fr.of_ext x4)) (hv2 w4 (Fr.refl _ _)) (by simp;omega) (sA (sB (h.bytes y1 hxm) a) n) (sA (sB (h.bytes y2 hym) c) n) (by simp;omega)).mono λq w5 ⟨hq,x5⟩=>?_;subst hq;refine ⟨X4.trans x5,pB h2 S2 (X4.trans x5) (x:=mI p.ps who r1 a r2 c n) ?_ ?_⟩<;>unfold mI<;>rw [if_pos hfine]
 ·unfold vW;rw [show mM p.ps.ar r1=y1.data from kJ hk1 hr1,show mM p.ps.ar r2=y2.data from kJ hk2 hr2];simp only [Int.toNat_natCast]
 ·rfl
end
def gQ (s:PS) (who sa r a n:Int):DL:=if iS s.ar r a n who=36864 then (if sa=1 then (if s.tp.length+n.toNat > 128 then (0,28425,s.ev [⟨2,r,a,n⟩]) else (0,36864,{ s.ev [⟨2,r,a,n⟩] with tp:=s.tp++vW s.ar r a n })) else (if s.ts.length+n.toNat > 128 then (0,28425,s.ev [⟨2,r,a,n⟩]) else (0,36864,{ s.ev [⟨2,r,a,n⟩] with ts:=s.ts++vW s.ar r a n }))) else (0,iS s.ar r a n who,s.ev [⟨2,r,a,n⟩])
section
variable {p:RP} {w w':Ω} {av:O}
theorem bZ.tellS (h:bZ p w) {w5:Ω} {v5:O} {news:List Int} (ho:w5.ownsRow p.B 5 1 v5 (p.ts++news).length ((p.ts++news).map u8)) (f5:Fr (λi=>p.sec.ownBlock=some i) w w5) (hl:v5.ownBlock=p.sec.ownBlock\/v5.ownBlock=some w.heap.size) (hle:(p.ts++news).length<=128) :
  bZ { p with sec:=v5,ts:=p.ts++news } (w5.setCell ⟨p.rb,0+4,none⟩ v5)/\(∀ i,kE { p with sec:=v5,ts:=p.ts++news } i->kE p i\/i=w.heap.size)/\Fr (λi=>p.sec.ownBlock=some i\/i=p.rb) w (w5.setCell ⟨p.rb,0+4,none⟩ v5):=by
 have hrb:p.sec.ownBlock≠some p.rb:=(h.fresh p.rb (.inl rfl)).2.2.2;have hrl:=h.room.lt;have room5:=f5.seg h.room hrb;have room6:=room5.set (j:=4) (by simp) v5;have f6:Fr (λi=>i=p.rb) w5 (w5.setCell ⟨p.rb,0+4,none⟩ v5):=Fr.of_set rfl;have F:=f5.or f6
 have hoth:∀ i,i < w.heap.size->p.sec.ownBlock≠some i->v5.ownBlock≠some i:=λi hi hn he=>by
  rcases hl with hl|hl
  ·exact hn (hl▸he)
  ·rw [hl] at he;cases he;omega
 have mu:∀ i,kE { p with sec:=v5,ts:=p.ts++news } i->kE p i\/i=w.heap.size:=λi hi=>by
  rcases hi with hi|hi|hi|hi|hi|hi
  ·exact .inl (.inl hi)
  ·exact .inl (.inr (.inl hi))
  ·exact .inl (.inr (.inr (.inl hi)))
  ·exact .inl (.inr (.inr (.inr (.inl hi))))
  ·exact .inl (.inr (.inr (.inr (.inr (.inl hi)))))
  ·rcases hl with hl|hl
   ·exact .inl (.inr (.inr (.inr (.inr (.inr (hl▸hi))))))
   ·have hi:v5.ownBlock=some i:=hi;rw [hl] at hi;cases hi;exact .inr rfl
 have sM:∀ i,(p.sec.ownBlock=some i\/i=p.rb)->kE p i:=λi hi=>hi.elim (λh=>.inr (.inr (.inr (.inr (.inr h))))) .inl;have hgl:=(h.h.row.lt _ rfl).2;have hhl:=h.h.heap.lt;refine ⟨⟨room6,h.h.frT F λi hi=>?_,F.own h.qp λi hi hs=>hs.elim (h.ne i hi) λe=>(h.fresh p.rb (.inl rfl)).2.2.1 (e▸hi),f6.own ho λi hi hs=>hoth p.rb hrl hrb (hs▸hi),h.lp,hle,λx hx=>?_,h.np,λa ha x hx=>hoth x ((h.h.data a ha).lt x hx).2 (h.ns a ha x hx),h.gp,hoth p.g hgl h.gs,h.lt,λy hy=>⟨(h.fresh y hy).1,(h.fresh y hy).2.1,(h.fresh y hy).2.2.1,hoth y (by rcases hy with rfl|rfl<;>omega) (h.fresh y hy).2.2.2⟩,F.blk h.tbox λhi=>h.tfr _ (.inl rfl) (sM _ hi),F.own h.trow λi hi hs=>h.tfr i (.inr hi) (sM i hs),h.tne,λi ht hm=>?_,h.two,h.sz,h.bytes⟩,mu,F⟩
 ·rcases hi with hi|rfl
  ·exact ⟨λe=>(h.fresh p.hb (.inr rfl)).2.2.2 (e▸hi),λe=>h.gs (e▸hi),λa ha e=>h.ns a ha i e hi⟩
  ·exact ⟨h.lt,(h.fresh p.rb (.inl rfl)).1,λa ha e=>(h.fresh p.rb (.inl rfl)).2.1 a ha e⟩
 ·exact hoth x (h.qp.lt x hx).2 (h.ne x hx)
 ·rcases mu i hm with hm|rfl
  ·exact h.tfr i ht hm
  ·have:=h.hi _ (.inr ht);omega
theorem bZ.tellP (h:bZ p w) {w5:Ω} {v5:O} {news:List Int} (ho:w5.ownsRow p.B 5 1 v5 (p.tp++news).length ((p.tp++news).map u8)) (f5:Fr (λi=>p.pub.ownBlock=some i) w w5) (hl:v5.ownBlock=p.pub.ownBlock\/v5.ownBlock=some w.heap.size) (hle:(p.tp++news).length<=128) :
  bZ { p with pub:=v5,tp:=p.tp++news } (w5.setCell ⟨p.rb,0+3,none⟩ v5)/\(∀ i,kE { p with pub:=v5,tp:=p.tp++news } i->kE p i\/i=w.heap.size)/\Fr (λi=>p.pub.ownBlock=some i\/i=p.rb) w (w5.setCell ⟨p.rb,0+3,none⟩ v5):=by
 have hrb:p.pub.ownBlock≠some p.rb:=(h.fresh p.rb (.inl rfl)).2.2.1;have hrl:=h.room.lt;have room5:=f5.seg h.room hrb;have room6:=room5.set (j:=3) (by simp) v5;have f6:Fr (λi=>i=p.rb) w5 (w5.setCell ⟨p.rb,0+3,none⟩ v5):=Fr.of_set rfl;have F:=f5.or f6
 have hoth:∀ i,i < w.heap.size->p.pub.ownBlock≠some i->v5.ownBlock≠some i:=λi hi hn he=>by
  rcases hl with hl|hl
  ·exact hn (hl▸he)
  ·rw [hl] at he;cases he;omega
 have mu:∀ i,kE { p with pub:=v5,tp:=p.tp++news } i->kE p i\/i=w.heap.size:=λi hi=>by
  rcases hi with hi|hi|hi|hi|hi|hi
  ·exact .inl (.inl hi)
  ·exact .inl (.inr (.inl hi))
  ·exact .inl (.inr (.inr (.inl hi)))
  ·exact .inl (.inr (.inr (.inr (.inl hi))))
  ·rcases hl with hl|hl
   ·exact .inl (.inr (.inr (.inr (.inr (.inl (hl▸hi))))))
   ·have hi:v5.ownBlock=some i:=hi;rw [hl] at hi;cases hi;exact .inr rfl
  ·exact .inl (.inr (.inr (.inr (.inr (.inr hi)))))
 have sM:∀ i,(p.pub.ownBlock=some i\/i=p.rb)->kE p i:=λi hi=>hi.elim (λh=>.inr (.inr (.inr (.inr (.inl h))))) .inl;have hgl:=(h.h.row.lt _ rfl).2;have hhl:=h.h.heap.lt;refine ⟨⟨room6,h.h.frT F λi hi=>?_,f6.own ho λi hi hs=>hoth p.rb hrl hrb (hs▸hi),F.own h.qs λi hi hs=>hs.elim (λe=>h.ne i e hi) λe=>(h.fresh p.rb (.inl rfl)).2.2.2 (e▸hi),hle,h.ls,λx hx=>?_,λa ha x hx=>hoth x ((h.h.data a ha).lt x hx).2 (h.np a ha x hx),h.ns,hoth p.g hgl h.gp,h.gs,h.lt,λy hy=>⟨(h.fresh y hy).1,(h.fresh y hy).2.1,hoth y (by rcases hy with rfl|rfl<;>omega) (h.fresh y hy).2.2.1,(h.fresh y hy).2.2.2⟩,F.blk h.tbox λhi=>h.tfr _ (.inl rfl) (sM _ hi),F.own h.trow λi hi hs=>h.tfr i (.inr hi) (sM i hs),h.tne,λi ht hm=>?_,h.two,h.sz,h.bytes⟩,mu,F⟩
 ·rcases hi with hi|rfl
  ·exact ⟨λe=>(h.fresh p.hb (.inr rfl)).2.2.1 (e▸hi),λe=>h.gp (e▸hi),λa ha e=>h.np a ha i e hi⟩
  ·exact ⟨h.lt,(h.fresh p.rb (.inl rfl)).1,λa ha e=>(h.fresh p.rb (.inl rfl)).2.1 a ha e⟩
 ·exact λhe=>hoth x (h.qs.lt x he).2 (λe=>h.ne x e he) hx
 ·rcases mu i hm with hm|rfl
  ·exact h.tfr i ht hm
  ·have:=h.hi _ (.inr ht);omega
theorem US (h:bZ p w) (hlt:p.tr.length<=100000) {who sa sb r a n:Int} (hsa:sa≠1) (hva:aB w av 1 3 [i64 r,i64 a,i64 n]) :
  aC prog 193 #[rJ p who sa sb av] w λq w'=>AY p w (gQ p.ps who sa r a n) q w':=by
 apply TY;unfold AD;have m0:=h.ls;refine tH λw1 hb1 x1=>?_;have D1:aG w1 w1.drew:=(aG.refl _).drew;have hav1:=hva.ext x1;refine aH.mk' (λw'=>aG w1 w') D1 ?_;refine dT (λw' hw=>(hb1.ext hw).boxed) bR aZ rfl ?_;refine gF aM aL hav1 (λw' hw=>hw) (by omega) (by omega) rfl ?_;refine dT (λw' hw=>(hb1.ext hw).boxed) bR aZ rfl ?_;refine gF aM aL hav1 (λw' hw=>hw) (by omega) (by omega) rfl ?_;refine dT (λw' hw=>(hb1.ext hw).boxed) bR aZ rfl ?_;refine gF aM aL hav1 (λw' hw=>hw) (by omega) (by omega) rfl ?_;refine qO (hb1.ext D1).boxed iE rfl ?_;have X1:=x1.trans D1;refine (mW (h.ext X1) hlt (who:=who) (a:=sa) (b:=sb) (av:=av)).mono λ_ w2 ⟨tv',h2,s2,f2,_⟩=>?_;have hb2:=f2.blk (hb1.ext D1) h.nT;have S2:=(pO.of_ext (p:=p) X1).trans s2;refine qO hb2.boxed iE rfl ?_;refine (mY h2 (who:=who) (sa:=sa) (sb:=sb) (av:=av)).mono λq w3 ⟨hq,x3⟩=>?_;subst hq;have hce:DS p.ar r a n who=iS p.ps.ar r a n who:=kH _ _ _ _ _;refine aS.2 (aK (λhne=>?_) λhfine=>?_)
 ·refine pB h2 S2 x3 (x:=gQ p.ps who sa r a n) ?_ ?_<;>unfold gQ<;>rw [if_neg (show ¬ iS p.ps.ar r a n who=36864 from hne)]
  iterate 2
   ·rfl
 have hf:DS p.ar r a n who=36864:=hce.trans (Classical.not_not.1 hfine);have hfp:iS p.ps.ar r a n who=36864:=hce▸hf;obtain ⟨k,x,hk,hr,hm,ha0,hn0,han⟩:=gW hf;obtain ⟨n,rfl⟩:∃ m:Nat,n=m:=⟨n.toNat,by omega⟩;obtain ⟨a,rfl⟩:∃ m:Nat,a=m:=⟨a.toNat,by omega⟩;have hxm:=List.mem_of_getElem? hk;have hxl:=h.h.len x hxm;have hb3:=hb2.ext x3;have h3:=h2.ext x3;have S3:=S2.trans (pO.of_ext x3);refine bA hb3.boxed dW gI rfl ⟨.inl ⟨_,rfl⟩,?_⟩;refine V.ok uF ?_;refine ⟨λv w'=>v=.pointer (some ⟨p.rb,0+4,none⟩)/\w'=w3,?_,?_⟩
 ·refine bA hb3.boxed iV aL rfl (aS.2 ?_);simp only [show decide (sa≠1)=true by simpa using hsa,aE];refine bA hb3.boxed dW gI rfl ⟨.inl ⟨_,rfl⟩,?_⟩;exact V.ok yO ⟨rfl,rfl⟩
 rintro _ w' ⟨rfl,hw⟩ _;have hw:=hw.symm;subst hw;refine ⟨.inl ⟨_,rfl⟩,?_⟩;refine V.ok (kO (h3.room.cell (j:=4) rfl)) ?_;refine gG jQ (aB.of_own h3.qs) ?_;refine bW.2 ?_;have m1:p.ts.length<=128:=m0;rw [show IntKind.i64.wrap (((p.ts.length:Nat):Int)+(n:Int))=((p.ts.length+n:Nat):Int) from by rw [aX (by omega)];omega];refine dR.2 (aK (λhfull=>?_) λhroom=>?_)
 ·refine pB h2 S2 x3 (x:=gQ p.ps who sa r a n) ?_ ?_<;>unfold gQ<;>rw [if_pos hfp,if_neg hsa,if_pos (show p.ps.ts.length+((n:Nat):Int).toNat > 128 by show p.ts.length+_ > 128;rw [Int.toNat_natCast];omega)]
  ·rfl
 have D3:aG w3 w3.drew:=(aG.refl _).drew;have hrb:p.sec.ownBlock≠some p.rb:=(h.fresh p.rb (.inl rfl)).2.2.2;have hbb:p.sec.ownBlock≠some w.heap.size:=λhe=>h.nM (.inr (.inr (.inr (.inr (.inr he)))));refine aH.mk' (λw'=>Fr (λi=>p.sec.ownBlock=some i) w3 w') (Fr.of_ext D3) ⟨.inl ⟨_,rfl⟩,?_⟩;refine aD.ok (λw' hw=>kO ((hw.seg h3.room hrb).cell (j:=4) rfl)) ?_;refine yA (λw' hw=>(hw.blk hb3 hbb).boxed) iE rfl ?_;refine (qI (h3.ext D3) hk (who:=who) (sa:=sa) (sb:=sb) (av:=av) hr (a:=a) (n:=n) (by omega)).mono λbv w4 ⟨hbv,x4⟩=>?_;have x34:=D3.trans x4;refine ⟨Fr.of_ext x34,?_⟩;have hbs:=hbv w4 (Fr.refl _ _);have hbl:((x.data.drop a).take n).length=n:=by simp;omega
 have hbs':aB w4 bv 1 n (((x.data.drop a).take n).map u8):=by have:=hbs;unfold cU at this;rw [hbl] at this;exact this
 have h4:=h3.ext x34;have S4:=S3.trans (pO.of_ext x34);refine apS mQ h4.qs hbs' (pZ _) (by show (p.ts.length+n)*1<=_;omega) (by unfold maxLen;show p.ts.length+n<=_;omega) h4.h.lt λv5 w5 ho5 hg5 hlies=>?_;have f5:Fr (λi=>p.sec.ownBlock=some i) w4 w5:=Fr.of_grown hg5 λk hk=>hk;have f35:Fr (λi=>p.sec.ownBlock=some i) w3 w5:=(Fr.of_ext (S:=λi=>p.sec.ownBlock=some i) x34).trans f5 λ_ _ h=>h;refine ⟨f35,.inl ⟨_,rfl⟩,?_⟩
 have ho5':w5.ownsRow p.B 5 1 v5 (p.ts++(x.data.drop a).take n).length ((p.ts++(x.data.drop a).take n).map u8):=by
  rw [List.length_append,List.map_append,hbl];exact ho5
 refine GM lO (f35.seg h3.room hrb) rfl (by simp) (bM ho5) ?_;obtain ⟨h6,mu6,f6⟩:=h4.tellS ho5' f5 hlies (by show (p.ts++_).length<=128;rw [List.length_append,hbl];omega);refine ⟨_,?_,?_,h6,S4.trans ⟨rfl,rfl,rfl,rfl,rfl,rfl,rfl,λi hi=>?_,f6.mono λi hi=>.inl (hi.elim (λh=>.inr (.inr (.inr (.inr (.inr h))))) .inl)⟩⟩
 ·unfold gQ;rw [if_pos hfp,if_neg hsa,if_neg (show ¬ p.ps.ts.length+((n:Nat):Int).toNat > 128 by show ¬ p.ts.length+_ > 128;rw [Int.toNat_natCast];omega)]
 ·unfold gQ;rw [if_pos hfp,if_neg hsa,if_neg (show ¬ p.ps.ts.length+((n:Nat):Int).toNat > 128 by show ¬ p.ts.length+_ > 128;rw [Int.toNat_natCast];omega)];unfold vW;rw [show mM p.ps.ar r=x.data from kJ hk hr];rfl
 ·rcases hi with hi|hi
  ·rcases mu6 i hi with hm|rfl
   ·exact .inl hm
   ·exact .inr (.inr (Nat.le_refl _))
  ·exact .inr (.inl hi)
theorem UT (h:bZ p w) (hlt:p.tr.length<=100000) {who sa sb r a n:Int} (hsa:sa=1) (hva:aB w av 1 3 [i64 r,i64 a,i64 n]) :
  aC prog 193 #[rJ p who sa sb av] w λq w'=>AY p w (gQ p.ps who sa r a n) q w':=by
 apply TY;unfold AD;have m0:=h.lp;refine tH λw1 hb1 x1=>?_;have D1:aG w1 w1.drew:=(aG.refl _).drew;have hav1:=hva.ext x1;refine aH.mk' (λw'=>aG w1 w') D1 ?_;refine dT (λw' hw=>(hb1.ext hw).boxed) bR aZ rfl ?_;refine gF aM aL hav1 (λw' hw=>hw) (by omega) (by omega) rfl ?_;refine dT (λw' hw=>(hb1.ext hw).boxed) bR aZ rfl ?_;refine gF aM aL hav1 (λw' hw=>hw) (by omega) (by omega) rfl ?_;refine dT (λw' hw=>(hb1.ext hw).boxed) bR aZ rfl ?_;refine gF aM aL hav1 (λw' hw=>hw) (by omega) (by omega) rfl ?_;refine qO (hb1.ext D1).boxed iE rfl ?_;have X1:=x1.trans D1;refine (mW (h.ext X1) hlt (who:=who) (a:=sa) (b:=sb) (av:=av)).mono λ_ w2 ⟨tv',h2,s2,f2,_⟩=>?_;have hb2:=f2.blk (hb1.ext D1) h.nT;have S2:=(pO.of_ext (p:=p) X1).trans s2;refine qO hb2.boxed iE rfl ?_;refine (mY h2 (who:=who) (sa:=sa) (sb:=sb) (av:=av)).mono λq w3 ⟨hq,x3⟩=>?_;subst hq;have hce:DS p.ar r a n who=iS p.ps.ar r a n who:=kH _ _ _ _ _;refine aS.2 (aK (λhne=>?_) λhfine=>?_)
 ·refine pB h2 S2 x3 (x:=gQ p.ps who sa r a n) ?_ ?_<;>unfold gQ<;>rw [if_neg (show ¬ iS p.ps.ar r a n who=36864 from hne)]
  iterate 2
   ·rfl
 have hf:DS p.ar r a n who=36864:=hce.trans (Classical.not_not.1 hfine);have hfp:iS p.ps.ar r a n who=36864:=hce▸hf;obtain ⟨k,x,hk,hr,hm,ha0,hn0,han⟩:=gW hf;obtain ⟨n,rfl⟩:∃ m:Nat,n=m:=⟨n.toNat,by omega⟩;obtain ⟨a,rfl⟩:∃ m:Nat,a=m:=⟨a.toNat,by omega⟩;have hxm:=List.mem_of_getElem? hk;have hxl:=h.h.len x hxm;have hb3:=hb2.ext x3;have h3:=h2.ext x3;have S3:=S2.trans (pO.of_ext x3);refine bA hb3.boxed dW gI rfl ⟨.inl ⟨_,rfl⟩,?_⟩;refine V.ok uF ?_;refine ⟨λv w'=>v=.pointer (some ⟨p.rb,0+3,none⟩)/\w'=w3,?_,?_⟩
 ·refine bA hb3.boxed iV aL rfl (aS.2 ?_);simp only [show decide (sa≠1)=false by simpa using hsa,aA];exact ⟨by first|rfl|trivial,by first|rfl|trivial⟩
 rintro _ w' ⟨rfl,hw⟩ _;have hw:=hw.symm;subst hw;refine ⟨.inl ⟨_,rfl⟩,?_⟩;refine V.ok (kO (h3.room.cell (j:=3) rfl)) ?_;refine gG jQ (aB.of_own h3.qp) ?_;refine bW.2 ?_;have m1:p.tp.length<=128:=m0;rw [show IntKind.i64.wrap (((p.tp.length:Nat):Int)+(n:Int))=((p.tp.length+n:Nat):Int) from by rw [aX (by omega)];omega];refine dR.2 (aK (λhfull=>?_) λhroom=>?_)
 ·refine pB h2 S2 x3 (x:=gQ p.ps who sa r a n) ?_ ?_<;>unfold gQ<;>rw [if_pos hfp,if_pos hsa,if_pos (show p.ps.tp.length+((n:Nat):Int).toNat > 128 by show p.tp.length+_ > 128;rw [Int.toNat_natCast];omega)]
  ·rfl
 have D3:aG w3 w3.drew:=(aG.refl _).drew;have hrb:p.pub.ownBlock≠some p.rb:=(h.fresh p.rb (.inl rfl)).2.2.1;have hbb:p.pub.ownBlock≠some w.heap.size:=λhe=>h.nM (.inr (.inr (.inr (.inr (.inl he)))));refine aH.mk' (λw'=>Fr (λi=>p.pub.ownBlock=some i) w3 w') (Fr.of_ext D3) ⟨.inl ⟨_,rfl⟩,?_⟩;refine aD.ok (λw' hw=>kO ((hw.seg h3.room hrb).cell (j:=3) rfl)) ?_;refine yA (λw' hw=>(hw.blk hb3 hbb).boxed) iE rfl ?_;refine (qI (h3.ext D3) hk (who:=who) (sa:=sa) (sb:=sb) (av:=av) hr (a:=a) (n:=n) (by omega)).mono λbv w4 ⟨hbv,x4⟩=>?_;have x34:=D3.trans x4;refine ⟨Fr.of_ext x34,?_⟩;have hbs:=hbv w4 (Fr.refl _ _);have hbl:((x.data.drop a).take n).length=n:=by simp;omega
 have hbs':aB w4 bv 1 n (((x.data.drop a).take n).map u8):=by have:=hbs;unfold cU at this;rw [hbl] at this;exact this
 have h4:=h3.ext x34;have S4:=S3.trans (pO.of_ext x34);refine apS mQ h4.qp hbs' (pZ _) (by show (p.tp.length+n)*1<=_;omega) (by unfold maxLen;show p.tp.length+n<=_;omega) h4.h.lt λv5 w5 ho5 hg5 hlies=>?_;have f5:Fr (λi=>p.pub.ownBlock=some i) w4 w5:=Fr.of_grown hg5 λk hk=>hk;have f35:Fr (λi=>p.pub.ownBlock=some i) w3 w5:=(Fr.of_ext (S:=λi=>p.pub.ownBlock=some i) x34).trans f5 λ_ _ h=>h;refine ⟨f35,.inl ⟨_,rfl⟩,?_⟩
 have ho5':w5.ownsRow p.B 5 1 v5 (p.tp++(x.data.drop a).take n).length ((p.tp++(x.data.drop a).take n).map u8):=by
  rw [List.length_append,List.map_append,hbl];exact ho5
 refine GM lO (f35.seg h3.room hrb) rfl (by simp) (bM ho5) ?_;obtain ⟨h6,mu6,f6⟩:=h4.tellP ho5' f5 hlies (by show (p.tp++_).length<=128;rw [List.length_append,hbl];omega);refine ⟨_,?_,?_,h6,S4.trans ⟨rfl,rfl,rfl,rfl,rfl,rfl,rfl,λi hi=>?_,f6.mono λi hi=>.inl (hi.elim (λh=>.inr (.inr (.inr (.inr (.inl h))))) .inl)⟩⟩
 ·unfold gQ;rw [if_pos hfp,if_pos hsa,if_neg (show ¬ p.ps.tp.length+((n:Nat):Int).toNat > 128 by show ¬ p.tp.length+_ > 128;rw [Int.toNat_natCast];omega)]
 ·unfold gQ;rw [if_pos hfp,if_pos hsa,if_neg (show ¬ p.ps.tp.length+((n:Nat):Int).toNat > 128 by show ¬ p.tp.length+_ > 128;rw [Int.toNat_natCast];omega)];unfold vW;rw [show mM p.ps.ar r=x.data from kJ hk hr];rfl
 ·rcases hi with hi|hi
  ·rcases mu6 i hi with hm|rfl
   ·exact .inl hm
   ·exact .inr (.inr (Nat.le_refl _))
  ·exact .inr (.inl hi)
theorem YH (h:bZ p w) (hlt:p.tr.length<=100000) {who sa sb r a n:Int} (hva:aB w av 1 3 [i64 r,i64 a,i64 n]) :
  aC prog 193 #[rJ p who sa sb av] w λq w'=>AY p w (gQ p.ps who sa r a n) q w':=by
 by_cases hsa:sa=1
 ·exact UT h hlt hsa hva
 ·exact US h hlt hsa hva
end
end Go.Proofs.YtgkkecladbmjkaaGreatDoor
